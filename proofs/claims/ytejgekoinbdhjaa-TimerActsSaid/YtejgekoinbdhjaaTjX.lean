/- timer: TimerActs. -/
import Derived.Test.YtejgekoinbdhjaaTjW
namespace Go.Proofs.Ytejgekoinbdhjaa
set_option linter.unusedVariables false
open Go Go.RowKit Go.Maps

theorem acts3_at {w w' : World} {A : Option Addr} {n : Nat} {rs : List Act3} (h : Seen act3K w (fun b => b < w.heap.size) A n rs) (hb : Below w.heap.size w w') : Seen act3K w' (fun b => b < w.heap.size) A n rs := h.below hb fun _ q => q
theorem TwoT.chg {w w1 : World} {X Y Z : Nat → Prop} {g d : Nat} {mo no co : Int} {M : List Slo} (h : TwoT w X Y g d mo no co M) (hc : Chg w w1 Z) (hX : ∀ k, X k → ¬ Z k) (hY : ∀ k, Y k → ¬ Z k) : TwoT w1 X Y g d mo no co M :=
  ⟨h.t.chg hc hX, h.r.chg hc hY, h.dj⟩
set_option maxRecDepth 100000 in
set_option maxHeartbeats 16000000 in
theorem acts13_walk (mo : Int) (A1 : Option Addr) (n1 c1 : Nat) (rs1 : List Act3) (A2 : Option Addr) (n2 c2 : Nat) (rs2 : List Act3) (w : World) (_wp : (Lit.int .i64 mo).wf = true) (hc1 : n1 ≤ c1) (hm1 : c1 ≤ maxLen) (hS1 : Seen act3K w (fun b => b < w.heap.size) A1 n1 rs1)
    (hc2 : n2 ≤ c2) (hm2 : c2 ≤ maxLen) (hS2 : Seen act3K w (fun b => b < w.heap.size) A2 n2 rs2) :
    Calls Try.prog 12 #[.int .i64 mo, .slice A1 n1 c1, .slice A2 n2 c2] w fun e w' => e = .returned (.bool true) ∧ Below w.heap.size w w' := by
  have hl1 := Lib.hid hS1.1
  have hl2 := Lib.hid hS2.1
  go_enter Try.func12, Try.ntmps12
  have q1 := light13_any w _ A1 n1 c1 rs1 hS1 (fun _ q => q)
  cases hb1 : lightB rs1 with
  | false =>
    rw [hb1] at q1
    replace hb1 := Lib.hid hb1
    go_wp2_with (first
      | (go_at_call 66; refine q1.mono ?_; rintro e w1 ⟨rfl, hbl⟩)
      | (go_at_call 52; refine (lives13_any w1).mono ?_; rintro e w2 ⟨rfl, hb⟩))
    go_ret
    exact ⟨rfl, hbl.trans (hb.mono hbl.size)⟩
  | true =>
  rw [hb1] at q1
  have q2 := fun w1 (hb : Below w.heap.size w w1) => light13_any w1 _ A2 n2 c2 rs2 (acts3_at hS2 hb) (fun b q => Nat.lt_of_lt_of_le q hb.size)
  cases hb2 : lightB rs2 with
  | false =>
    rw [hb2] at q2
    replace hb1 := Lib.hid hb1
    replace hb2 := Lib.hid hb2
    have tok1 := True.intro
    go_wp2_with (first
      | (go_at_call 66; have tok2 := tok1; clear tok1; refine q1.mono ?_; rintro e w1 ⟨rfl, hbl⟩)
      | (go_at_call 66; refine (q2 w1 hbl).mono ?_; rintro e w2 ⟨rfl, hbl2⟩)
      | (go_at_call 52; refine (lives13_any w2).mono ?_; rintro e w3 ⟨rfl, hb⟩))
    go_ret
    have hx := hbl.trans (hbl2.mono hbl.size)
    exact ⟨rfl, hx.trans (hb.mono hx.size)⟩
  | true =>
  rw [hb2] at q2
  obtain ⟨hn1, hk1⟩ := light_le hb1
  obtain ⟨hn2, hk2⟩ := light_le hb2
  rw [hl1.out] at hn1
  rw [hl2.out] at hn2
  replace hb1 := Lib.hid hb1
  replace hb2 := Lib.hid hb2
  have tok1 := True.intro
  by_cases hpc : mo < 1 ∨ 1024 < mo
  · go_wp2_with (first
      | (go_at_call 66; have tok2 := tok1; clear tok1; refine q1.mono ?_; rintro e w1 ⟨rfl, hbl⟩)
      | (go_at_call 66; refine (q2 w1 hbl).mono ?_; rintro e w2 ⟨rfl, hbl2⟩)
      | (go_at_call 53; refine (newT_no w2 mo hpc).mono ?_; rintro e w' ⟨rfl, rfl⟩)
      | (go_at_call 67; refine (refNewNo w2 mo hpc).mono ?_; rintro e w' ⟨rfl, rfl⟩)
      | (go_at_call 52; refine (lives13_any w2).mono ?_; rintro e w3 ⟨rfl, hb⟩))
    go_ret
    have hx := hbl.trans (hbl2.mono hbl.size)
    exact ⟨rfl, hx.trans (hb.mono hx.size)⟩
  go_wp2_with (first
    | (go_at_call 66; have tok2 := tok1; clear tok1; refine q1.mono ?_; rintro e w1 ⟨rfl, hbl⟩)
    | (go_at_call 66; refine (q2 w1 hbl).mono ?_; rintro e w2 ⟨rfl, hbl2⟩)
    | (go_at_call 53; refine (newX w2 mo (by omega) (by omega)).mono ?_; rintro e w3 ⟨g, X, rfl, hT, hX, hb3⟩)
    | (go_at_call 67; refine (refNewT w3 mo (by omega) (by omega)).mono ?_; rintro e w4 ⟨d, Y, rfl, hr, hY, hb4⟩))
  have hB2 := hbl.trans (hbl2.mono hbl.size)
  have hB3 := hB2.trans (hb3.mono hB2.size)
  have hB4 := hB3.trans (hb4.mono hB3.size)
  have h4 : TwoT w4 X Y g d mo 0 0 [] := ⟨hT.nx hb4, hr, fun k q r => by have := hT.lt k q; have := hY k r; omega⟩
  have hX4 : ∀ k, X k → w.heap.size ≤ k := fun k q => Nat.le_trans hB2.size (hX k q)
  have hY4 : ∀ k, Y k → w.heap.size ≤ k := fun k q => Nat.le_trans hB3.size (hY k q)
  clear hb4 hb3 hT hr hX hY hB2 hB3 hbl hbl2 q1 q2 tok2
  go_loopw [10, 38] (fun _ i wr => ∃ (k : Nat) (M : List Slo) (no co : Int) (X Y : Nat → Prop), k ≤ n1 ∧ i = .int .i64 (k : Int) ∧ TwoT wr X Y g d mo no co M ∧ (∀ k, X k → w.heap.size ≤ k) ∧ (∀ k, Y k → w.heap.size ≤ k) ∧ (0 ≤ no ∧ no ≤ 2000 * k) ∧ co ≤ k ∧ M.length ≤ k ∧ Below w.heap.size w wr) (fun _ i _ => n1 - (intOf i).toNat)
  case atStart => exact ⟨0, [], 0, 0, X, Y, Nat.zero_le _, rfl, h4, hX4, hY4, by omega, by omega, Nat.le_refl _, hB4⟩
  case round =>
  clear h4 hX4 hY4 hB4
  obtain ⟨k, M, no, co, X, Y, hk, rfl, h, hX, hY, hno, hco, hM, hB⟩ := hrel
  have hz := hB.size
  by_cases hlt : k < n1
  · obtain ⟨ab, off, a, rfl, hab, hka, hin, p0, p1, p2⟩ := act3_cells (acts3_at hS1 hB) hlt
    have lta : ab < wr.heap.size := Nat.lt_of_lt_of_le hab hz
    have hki : (k : Int) < n1 := by omega
    have hsk := hk1 a (List.mem_of_getElem? hka)
    have hbx := (Below.refl wr.heap.size wr).alloc (Nat.le_refl _) (.cells #[.int .i64 a.k, .int .i64 a.id, .int .i64 a.n] 97)
    have hqx := Blk.new wr 97 #[.int .i64 a.k, .int .i64 a.id, .int .i64 a.n]
    go_upto_region 11 with (fail)
    clear p0 p1 p2
    generalize wr.alloc (.cells #[.int .i64 a.k, .int .i64 a.id, .int .i64 a.n] 97) = w5 at *
    have s0 : w5.cell? ⟨wr.heap.size, 0, none⟩ = some (.int .i64 a.k) := hqx.cellv 0 rfl
    have s1 : w5.cell? ⟨wr.heap.size, 1, none⟩ = some (.int .i64 a.id) := hqx.cellv 1 rfl
    have s2 : w5.cell? ⟨wr.heap.size, 2, none⟩ = some (.int .i64 a.n) := hqx.cellv 2 rfl
    have ltq := hqx.lt
    have hXl := h.t.lt
    have hYl := h.r.lt
    have h5 := h.nx hbx
    have hca := actT_any w5 X Y g d mo no co M h5 (by omega) hno.1 (by omega) (by omega) a hin hsk
    obtain ⟨-, ⟨r0, r1⟩, -⟩ := hin
    have hab2 : ab < wr.heap.size := lta
    go_wp2_with (first
      | (go_at_call 68; refine hca.mono ?_; rintro e w6 ⟨rfl, X6, Y6, no6, co6, M6, h6, hS6, hno6, hco6, hM6⟩; have s6 : w6.cell? ⟨wr.heap.size, 1, none⟩ = some (.int .i64 a.id) := (hS6.c.cell (p := ⟨wr.heap.size, 1, none⟩) ltq (fun q => q.elim (fun q => Nat.lt_irrefl _ (hXl _ q)) (fun q => Nat.lt_irrefl _ (hYl _ q)))).trans s1; clear s0 s1 s2)
      | (go_at_call 69; refine (alike13 w6 X6 Y6 g d mo no6 co6 M6 h6 (by omega) (by omega) a.id r0 r1).mono ?_; rintro e w7 ⟨rfl, h7, hC7⟩))
    have hB5 := hB.trans (hbx.mono hz)
    have hX6 : ∀ k, X6 k → w.heap.size ≤ k := fun k q => (hS6.x k q).elim (hX k) fun q => Nat.le_trans hB5.size q
    have hY6 : ∀ k, Y6 k → w.heap.size ≤ k := fun k q => (hS6.y k q).elim (hY k) fun q => Nat.le_trans hB5.size q
    have hB6 := below_chg hB5 hS6.c (fun k q => q.elim (hX k) (hY k)) (Nat.le_refl _)
    have hB7 := below_chg hB6 hC7 hX6 (Nat.le_refl _)
    exact ⟨⟨k + 1, M6, no6, co6, X6, Y6, by omega, by go_num, h7, hX6, hY6, by omega, by omega, by omega, hB7⟩, by simp [intOf]; omega⟩
  · obtain rfl : k = n1 := by omega
    go_upto_region 15 with (first
      | (go_at_call 65; refine (copyX h.t (by omega)).mono ?_; rintro e w3 ⟨g2, X2, rfl, hT2, hX2, hb3⟩; have h3 := h.nx hb3)
      | (go_at_call 70; refine (refCopy w3 Y d mo no (rowsOf M) h3.r (by unfold rowsOf; rw [List.length_map]; omega)).mono ?_; rintro e w4 ⟨d2, Y2, rfl, hr2, hY2, hb4⟩))
    have h4 := h3.nx hb4
    have hXl := h.t.lt
    have hYl := h.r.lt
    have hz3 := hb3.size
    have hD : TwoT w4 X2 Y2 g2 d2 mo no co M := ⟨hT2.nx hb4, hr2, fun k q r => by have := hT2.lt k q; have := hY2 k r; omega⟩
    have hY2' : ∀ k, Y2 k → wr.heap.size ≤ k := fun k q => Nat.le_trans hz3 (hY2 k q)
    have hB3 := hB.trans (hb3.mono hz)
    have hB4 := hB3.trans (hb4.mono hB3.size)
    clear hY2 hb4 hb3 h3 hT2 hr2 hB3 hz3 h hB
    generalize wr.heap.size = Z at *
    go_wp2_with fail
    go_loopw [14, 62] (fun _ i wq => ∃ (j : Nat) (M2 : List Slo) (no2 co2 : Int) (X2 Y2 : Nat → Prop), j ≤ n2 ∧ i = .int .i64 (j : Int) ∧ TwoT wq X Y g d mo no co M ∧ TwoT wq X2 Y2 g2 d2 mo no2 co2 M2 ∧ (∀ k, X2 k → Z ≤ k) ∧ (∀ k, Y2 k → Z ≤ k) ∧ (0 ≤ no2 ∧ no2 ≤ no + 2000 * j) ∧ co2 ≤ co + j ∧ M2.length ≤ M.length + j ∧ Z ≤ wq.heap.size ∧ Below w.heap.size w wq) (fun _ i _ => n2 - (intOf i).toNat)
    case atStart => exact ⟨0, M, no, co, X2, Y2, Nat.zero_le _, rfl, h4, hD, hX2, hY2', by omega, by omega, Nat.le_refl _, by have := hX2 _ hD.t.mine; have := hD.t.lt _ hD.t.mine; omega, hB4⟩
    case round =>
    clear h4 hD hX2 hY2' hB4
    obtain ⟨j, M2, no2, co2, X2, Y2, hj, rfl, h5, hD5, hX2, hY2, hno2, hco2, hM2, hZ5, hB5⟩ := hrel
    have hz5 := hB5.size
    by_cases hlt : j < n2
    · obtain ⟨ab, off, a, rfl, hab, hka, hin, p0, p1, p2⟩ := act3_cells (acts3_at hS2 hB5) hlt
      have lta : ab < wr.heap.size := Nat.lt_of_lt_of_le hab hz5
      have hki : (j : Int) < n2 := by omega
      have hsk := hk2 a (List.mem_of_getElem? hka)
      have hbx := (Below.refl wr.heap.size wr).alloc (Nat.le_refl _) (.cells #[.int .i64 a.k, .int .i64 a.id, .int .i64 a.n] 97)
      have hqx := Blk.new wr 97 #[.int .i64 a.k, .int .i64 a.id, .int .i64 a.n]
      go_upto_region 18 with (fail)
      clear p0 p1 p2
      generalize wr.alloc (.cells #[.int .i64 a.k, .int .i64 a.id, .int .i64 a.n] 97) = w6 at *
      have s0 : w6.cell? ⟨wr.heap.size, 0, none⟩ = some (.int .i64 a.k) := hqx.cellv 0 rfl
      have s1 : w6.cell? ⟨wr.heap.size, 1, none⟩ = some (.int .i64 a.id) := hqx.cellv 1 rfl
      have s2 : w6.cell? ⟨wr.heap.size, 2, none⟩ = some (.int .i64 a.n) := hqx.cellv 2 rfl
      have hca := actT_any w6 X2 Y2 g2 d2 mo no2 co2 M2 (hD5.nx hbx) (by omega) hno2.1 (by omega) (by omega) a hin hsk
      go_wp2_with (go_at_call 68; refine hca.mono ?_; rintro e w7 ⟨rfl, X6, Y6, no6, co6, M6, h6, hS6, hno6, hco6, hM6⟩)
      have hB6 := hB5.trans (hbx.mono hz5)
      have hZ6 : Z ≤ w6.heap.size := Nat.le_trans hZ5 hbx.size
      have hX6 : ∀ k, X6 k → Z ≤ k := fun k q => (hS6.x k q).elim (hX2 k) fun q => Nat.le_trans hZ6 q
      have hY6 : ∀ k, Y6 k → Z ≤ k := fun k q => (hS6.y k q).elim (hY2 k) fun q => Nat.le_trans hZ6 q
      have hB7 := below_chg hB6 hS6.c (fun k q => Nat.le_trans hz (q.elim (hX2 k) (hY2 k))) (Nat.le_refl _)
      have h7 := (h5.nx hbx).chg hS6.c (fun k q r => by have := hXl k q; have := r.elim (hX2 k) (hY2 k); omega) (fun k q r => by have := hYl k q; have := r.elim (hX2 k) (hY2 k); omega)
      exact ⟨⟨j + 1, M6, no6, co6, X6, Y6, by omega, by go_num, h7, h6, hX6, hY6, by omega, by omega, by omega, Nat.le_trans hZ6 hS6.c.size, hB7⟩, by simp [intOf]; omega⟩
    · obtain rfl : j = n2 := by omega
      have tok1 : True := trivial
      go_wp2_with (first
        | (go_at_call 69; have tok2 := tok1; clear tok1; refine (alike13 wr X Y g d mo no co M h5 (by omega) (by omega) 0 (by omega) (by omega)).mono ?_; rintro e w6 ⟨rfl, h6, hC6⟩; have hD6 := hD5.chg hC6 (fun k q r => by have := hXl k r; have := hX2 k q; omega) (fun k q r => by have := hXl k r; have := hY2 k q; omega))
        | (go_at_call 69; refine (alike13 w6 X2 Y2 g2 d2 mo no2 co2 M2 hD6 (by omega) (by omega) 0 (by omega) (by omega)).mono ?_; rintro e w7 ⟨rfl, hD7, hC7⟩)
        | (go_at_call 52; refine (lives13_any w7).mono ?_; rintro e w8 ⟨rfl, hb8⟩))
      go_ret
      have hB6 := below_chg hB5 hC6 hX (Nat.le_refl _)
      have hB7 := below_chg hB6 hC7 (fun k q => Nat.le_trans hz (hX2 k q)) (Nat.le_refl _)
      exact ⟨rfl, hB7.trans (hb8.mono hB7.size)⟩
theorem acts13_law (mo : Int) (A1 : Option Addr) (n1 c1 : Nat) (vs1 : Nat → Value) (A2 : Option Addr) (n2 c2 : Nat) (vs2 : Nat → Value) (w : World) (wp : (Lit.int .i64 mo).wf = true)
    (hc1 : n1 ≤ c1) (hm1 : c1 ≤ maxLen) (hF1 : Flat w w.heap.size A1 (n1 * 3) vs1) (hx1 : ∀ i, i < n1 → ∀ j, j < 3 → ∃ z, vs1 (i * 3 + j) = .int .i64 z ∧ (Lit.int .i64 z).wf = true)
    (hc2 : n2 ≤ c2) (hm2 : c2 ≤ maxLen) (hF2 : Flat w w.heap.size A2 (n2 * 3) vs2) (hx2 : ∀ i, i < n2 → ∀ j, j < 3 → ∃ z, vs2 (i * 3 + j) = .int .i64 z ∧ (Lit.int .i64 z).wf = true) :
    Calls Try.prog 12 #[.int .i64 mo, .slice A1 n1 c1, .slice A2 n2 c2] w fun e w' => e = .returned (.bool true) ∧ Below w.heap.size w w' := by
  obtain ⟨rs1, h1⟩ := act3_open hF1 hx1
  obtain ⟨rs2, h2⟩ := act3_open hF2 hx2
  exact acts13_walk mo A1 n1 c1 rs1 A2 n2 c2 rs2 w wp hc1 hm1 h1 hc2 hm2 h2
end Go.Proofs.Ytejgekoinbdhjaa
