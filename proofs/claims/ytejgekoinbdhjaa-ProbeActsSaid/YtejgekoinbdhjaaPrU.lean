/- probe: ProbeActs. -/
import Derived.Test.YtejgekoinbdhjaaPrT
namespace Go.Proofs.Ytejgekoinbdhjaa
set_option linter.unusedVariables false
open Go Go.RowKit Go.Maps

theorem acts3_at {w w' : World} {A : Option Addr} {n : Nat} {rs : List Act3} (h : Seen act3K w (fun b => b < w.heap.size) A n rs) (hb : Below w.heap.size w w') : Seen act3K w' (fun b => b < w.heap.size) A n rs := h.below hb fun _ q => q
theorem TwoP.chg {w w1 : World} {X Y Z : Nat → Prop} {g d : Nat} {ev pa no sq : Int} {L : List Pr} (h : TwoP w X Y g d ev pa no sq L) (hc : Chg w w1 Z) (hX : ∀ k, X k → ¬ Z k) (hY : ∀ k, Y k → ¬ Z k) : TwoP w1 X Y g d ev pa no sq L :=
  ⟨h.t.chg hc hX, h.r.chg hc hY, h.dj⟩
set_option maxRecDepth 100000 in
set_option maxHeartbeats 16000000 in
theorem acts24_walk (ev pa : Int) (A1 : Option Addr) (n1 c1 : Nat) (rs1 : List Act3) (A2 : Option Addr) (n2 c2 : Nat) (rs2 : List Act3) (w : World) (hc1 : n1 ≤ c1) (hm1 : c1 ≤ maxLen) (hS1 : Seen act3K w (fun b => b < w.heap.size) A1 n1 rs1)
    (hc2 : n2 ≤ c2) (hm2 : c2 ≤ maxLen) (hS2 : Seen act3K w (fun b => b < w.heap.size) A2 n2 rs2) :
    Calls Try.prog 14 #[.agg #[.int .i64 ev, .int .i64 pa], .slice A1 n1 c1, .slice A2 n2 c2] w fun e w' => e = .returned (.bool true) ∧ Below w.heap.size w w' := by
  have hl1 := Lib.hid hS1.1
  have hl2 := Lib.hid hS2.1
  have hB0 := (Below.refl w.heap.size w).alloc (Nat.le_refl _) (.cells #[.int .i64 ev, .int .i64 pa] 138)
  have hq0 := Blk.new w 138 #[.int .i64 ev, .int .i64 pa]
  go_enter Try.func14, Try.ntmps14
  go_upto_region 1 with (fail)
  generalize w.alloc (.cells #[.int .i64 ev, .int .i64 pa] 138) = w0 at *
  have u0 : w0.cell? ⟨w.heap.size, 0, none⟩ = some (.int .i64 ev) := hq0.cellv 0 rfl
  have u1 : w0.cell? ⟨w.heap.size, 1, none⟩ = some (.int .i64 pa) := hq0.cellv 1 rfl
  have lt0 := hq0.lt
  have q1 := light24_any w0 _ A1 n1 c1 rs1 (acts3_at hS1 hB0) (fun b q => Nat.lt_of_lt_of_le q hB0.size)
  cases hb1 : lightB rs1 with
  | false =>
    rw [hb1] at q1
    replace hb1 := Lib.hid hb1
    go_wp2_with (first
      | (go_at_call 80; refine q1.mono ?_; rintro e w1 ⟨rfl, hbl⟩)
      | (go_at_call 79; refine (lives24_any w1).mono ?_; rintro e w2 ⟨rfl, hb⟩))
    go_ret
    have hx := hB0.trans (hbl.mono hB0.size)
    exact ⟨rfl, hx.trans (hb.mono hx.size)⟩
  | true =>
  rw [hb1] at q1
  have q2 := fun w1 (hb : Below w.heap.size w w1) => light24_any w1 _ A2 n2 c2 rs2 (acts3_at hS2 hb) (fun b q => Nat.lt_of_lt_of_le q hb.size)
  cases hb2 : lightB rs2 with
  | false =>
    rw [hb2] at q2
    replace hb1 := Lib.hid hb1
    replace hb2 := Lib.hid hb2
    have tok1 := True.intro
    go_wp2_with (first
      | (go_at_call 80; have tok2 := tok1; clear tok1; refine q1.mono ?_; rintro e w1 ⟨rfl, hbl⟩; have hB1 := hB0.trans (hbl.mono hB0.size))
      | (go_at_call 80; refine (q2 w1 hB1).mono ?_; rintro e w2 ⟨rfl, hbl2⟩)
      | (go_at_call 79; refine (lives24_any w2).mono ?_; rintro e w3 ⟨rfl, hb⟩))
    go_ret
    have hx := hB1.trans (hbl2.mono hB1.size)
    exact ⟨rfl, hx.trans (hb.mono hx.size)⟩
  | true =>
  rw [hb2] at q2
  obtain ⟨hn1, hk1⟩ := light_le hb1
  obtain ⟨hn2, hk2⟩ := light_le hb2
  rw [hl1.out] at hn1
  rw [hl2.out] at hn2
  replace hb1 := Lib.hid hb1
  replace hb2 := Lib.hid hb2
  have tok1 := True.intro
  go_upto_region 3 with (first
    | (go_at_call 80; have tok2 := tok1; clear tok1; refine q1.mono ?_; rintro e w1 ⟨rfl, hbl⟩; have hB1 := hB0.trans (hbl.mono hB0.size))
    | (go_at_call 80; refine (q2 w1 hB1).mono ?_; rintro e w2 ⟨rfl, hbl2⟩))
  have hB2 := hB1.trans (hbl2.mono hB1.size)
  have hz0 : w0.heap.size ≤ w1.heap.size := hbl.size
  have x0 := (hbl2.cell (p := ⟨w.heap.size, 0, none⟩) (Nat.lt_of_lt_of_le lt0 hz0)).trans ((hbl.cell (p := ⟨w.heap.size, 0, none⟩) lt0).trans u0)
  have x1 := (hbl2.cell (p := ⟨w.heap.size, 1, none⟩) (Nat.lt_of_lt_of_le lt0 hz0)).trans ((hbl.cell (p := ⟨w.heap.size, 1, none⟩) lt0).trans u1)
  have lt2 : w.heap.size < w2.heap.size := Nat.lt_of_lt_of_le lt0 (Nat.le_trans hz0 hbl2.size)
  clear q1 q2 tok2 hbl hbl2 u0 u1 lt0 hz0 hB1 hq0 hB0
  by_cases hpc : ev < 1 ∨ 10000 < ev ∨ pa < 1 ∨ ev < pa
  · have hx := hB2.drew
    -- region 3: 0 1 2 3 4C 5 6 7 8 9C 10 11
    try refine wp_region_noPanic ?_
    have hs1r : (fun w' => w'.cell? ⟨w.heap.size, 0, none⟩ = some (.int .i64 ev) ∧ w'.cell? ⟨w.heap.size, 1, none⟩ = some (.int .i64 pa)) w2.drew := And.intro x0 x1
    refine wp_region_held_drew (S := fun w' => w'.cell? ⟨w.heap.size, 0, none⟩ = some (.int .i64 ev) ∧ w'.cell? ⟨w.heap.size, 1, none⟩ = some (.int .i64 pa)) (by kernel_rfl) hs1r (fun _ => ?_)
    (refine held_takeA 0 (by rfl) ?_ (by kernel_rfl) (fun _ _ _ h => h) hs1r ?_ ?_; rotate_left; (focus (intro wq hSw; have hrd := hSw; go_simp; try with_reducible rfl; done)); try simp only [Act.put, List.setIfInBounds_toArray, List.set_cons_zero, List.set_cons_succ])
    (refine held_takeA 1 (by rfl) ?_ (by kernel_rfl) (fun _ _ _ h => h) hs1r ?_ ?_; rotate_left; (focus (intro wq hSw; have hrd := hSw; go_simp; try with_reducible rfl; done)); try simp only [Act.put, List.setIfInBounds_toArray, List.set_cons_zero, List.set_cons_succ])
    (refine held_takeA 2 (by rfl) ?_ (by kernel_rfl) (fun _ _ _ h => h) hs1r ?_ ?_; rotate_left; (focus (intro wq hSw; have hrd := hSw; go_simp; try with_reducible rfl; done)); try simp only [Act.put, List.setIfInBounds_toArray, List.set_cons_zero, List.set_cons_succ])
    (refine held_takeA 3 (by rfl) ?_ (by kernel_rfl) (fun _ _ _ h => h) hs1r ?_ ?_; rotate_left; (focus (intro wq hSw; have hrd := hSw; go_simp; try with_reducible rfl; done)); try simp only [Act.put, List.setIfInBounds_toArray, List.set_cons_zero, List.set_cons_succ])
    (refine held_takeA 5 (by rfl) ?_ (by kernel_rfl) (fun _ _ _ h => h) hs1r ?_ ?_; rotate_left; (focus (intro wq hSw; have hrd := hSw; go_simp; try with_reducible rfl; done)); try simp only [Act.put, List.setIfInBounds_toArray, List.set_cons_zero, List.set_cons_succ])
    (refine held_takeA 6 (by rfl) ?_ (by kernel_rfl) (fun _ _ _ h => h) hs1r ?_ ?_; rotate_left; (focus (intro wq hSw; have hrd := hSw; go_simp; try with_reducible rfl; done)); try simp only [Act.put, List.setIfInBounds_toArray, List.set_cons_zero, List.set_cons_succ])
    (refine held_takeA 7 (by rfl) ?_ (by kernel_rfl) (fun _ _ _ h => h) hs1r ?_ ?_; rotate_left; (focus (intro wq hSw; have hrd := hSw; go_simp; try with_reducible rfl; done)); try simp only [Act.put, List.setIfInBounds_toArray, List.set_cons_zero, List.set_cons_succ])
    (refine held_takeA 8 (by rfl) ?_ (by kernel_rfl) (fun _ _ _ h => h) hs1r ?_ ?_; rotate_left; (focus (intro wq hSw; have hrd := hSw; go_simp; try with_reducible rfl; done)); try simp only [Act.put, List.setIfInBounds_toArray, List.set_cons_zero, List.set_cons_succ])
    refine held_callA 4 (by rfl) (by kernel_rfl) (by rfl) (fun KQ hKQ => ?_)
    go_simp
    refine (newP_no w2.drew ev pa hpc).mono ?_
    rintro e w3 ⟨rfl, rfl⟩
    have hs2r := (And.intro x0 x1)
    refine hKQ.out _ _ hs2r ?_
    clear hKQ KQ
    try simp only [Act.put, List.setIfInBounds_toArray, List.set_cons_zero, List.set_cons_succ]
    refine held_callA 9 (by rfl) (by kernel_rfl) (by rfl) (fun KQ hKQ => ?_)
    go_simp
    refine (refNewNo24 w2.drew ev pa hpc).mono ?_
    rintro e w3 ⟨rfl, rfl⟩
    have hs3r := (And.intro x0 x1)
    refine hKQ.out _ _ hs3r ?_
    clear hKQ KQ
    try simp only [Act.put, List.setIfInBounds_toArray, List.set_cons_zero, List.set_cons_succ]
    (refine held_takeA 10 (by rfl) ?_ (by kernel_rfl) (fun _ _ _ h => h) hs3r ?_ ?_; rotate_left; (focus (intro wq hSw; have hrd := hSw; go_simp; try with_reducible rfl; done)); try simp only [Act.put, List.setIfInBounds_toArray, List.set_cons_zero, List.set_cons_succ])
    (refine held_takeA 11 (by rfl) ?_ (by kernel_rfl) (fun _ _ _ h => h) hs3r ?_ ?_; rotate_left; (focus (intro wq hSw; have hrd := hSw; go_simp; try with_reducible rfl; done)); try simp only [Act.put, List.setIfInBounds_toArray, List.set_cons_zero, List.set_cons_succ])
    refine wpAnyH_done (by kernel_rfl) ?_ _
    try refine NoPanic.normal ?_
    go_wp2_with (go_at_call 79; refine (lives24_any w2.drew).mono ?_; rintro e w3 ⟨rfl, hb⟩)
    go_ret
    exact ⟨rfl, hx.trans (hb.mono hx.size)⟩
  have hx := hB2.drew
  -- region 3: 0 1 2 3 4C 5 6 7 8 9C 10 11
  try refine wp_region_noPanic ?_
  have hs4r : (fun w' => w'.cell? ⟨w.heap.size, 0, none⟩ = some (.int .i64 ev) ∧ w'.cell? ⟨w.heap.size, 1, none⟩ = some (.int .i64 pa)) w2.drew := And.intro x0 x1
  refine wp_region_held_drew (S := fun w' => w'.cell? ⟨w.heap.size, 0, none⟩ = some (.int .i64 ev) ∧ w'.cell? ⟨w.heap.size, 1, none⟩ = some (.int .i64 pa)) (by kernel_rfl) hs4r (fun _ => ?_)
  (refine held_takeA 0 (by rfl) ?_ (by kernel_rfl) (fun _ _ _ h => h) hs4r ?_ ?_; rotate_left; (focus (intro wq hSw; have hrd := hSw; go_simp; try with_reducible rfl; done)); try simp only [Act.put, List.setIfInBounds_toArray, List.set_cons_zero, List.set_cons_succ])
  (refine held_takeA 1 (by rfl) ?_ (by kernel_rfl) (fun _ _ _ h => h) hs4r ?_ ?_; rotate_left; (focus (intro wq hSw; have hrd := hSw; go_simp; try with_reducible rfl; done)); try simp only [Act.put, List.setIfInBounds_toArray, List.set_cons_zero, List.set_cons_succ])
  (refine held_takeA 2 (by rfl) ?_ (by kernel_rfl) (fun _ _ _ h => h) hs4r ?_ ?_; rotate_left; (focus (intro wq hSw; have hrd := hSw; go_simp; try with_reducible rfl; done)); try simp only [Act.put, List.setIfInBounds_toArray, List.set_cons_zero, List.set_cons_succ])
  (refine held_takeA 3 (by rfl) ?_ (by kernel_rfl) (fun _ _ _ h => h) hs4r ?_ ?_; rotate_left; (focus (intro wq hSw; have hrd := hSw; go_simp; try with_reducible rfl; done)); try simp only [Act.put, List.setIfInBounds_toArray, List.set_cons_zero, List.set_cons_succ])
  (refine held_takeA 5 (by rfl) ?_ (by kernel_rfl) (fun _ _ _ h => h) hs4r ?_ ?_; rotate_left; (focus (intro wq hSw; have hrd := hSw; go_simp; try with_reducible rfl; done)); try simp only [Act.put, List.setIfInBounds_toArray, List.set_cons_zero, List.set_cons_succ])
  (refine held_takeA 6 (by rfl) ?_ (by kernel_rfl) (fun _ _ _ h => h) hs4r ?_ ?_; rotate_left; (focus (intro wq hSw; have hrd := hSw; go_simp; try with_reducible rfl; done)); try simp only [Act.put, List.setIfInBounds_toArray, List.set_cons_zero, List.set_cons_succ])
  (refine held_takeA 7 (by rfl) ?_ (by kernel_rfl) (fun _ _ _ h => h) hs4r ?_ ?_; rotate_left; (focus (intro wq hSw; have hrd := hSw; go_simp; try with_reducible rfl; done)); try simp only [Act.put, List.setIfInBounds_toArray, List.set_cons_zero, List.set_cons_succ])
  (refine held_takeA 8 (by rfl) ?_ (by kernel_rfl) (fun _ _ _ h => h) hs4r ?_ ?_; rotate_left; (focus (intro wq hSw; have hrd := hSw; go_simp; try with_reducible rfl; done)); try simp only [Act.put, List.setIfInBounds_toArray, List.set_cons_zero, List.set_cons_succ])
  refine held_callA 4 (by rfl) (by kernel_rfl) (by rfl) (fun KQ hKQ => ?_)
  go_simp
  refine (newX24 w2.drew ev pa (by omega) (by omega) (by omega) (by omega)).mono ?_
  rintro e w3 ⟨g, X, rfl, hT, hX, hb3⟩
  have z0 := (hb3.cell (p := ⟨w.heap.size, 0, none⟩) lt2).trans x0
  have z1 := (hb3.cell (p := ⟨w.heap.size, 1, none⟩) lt2).trans x1
  have hz3 : w2.heap.size ≤ w3.heap.size := hb3.size
  have hs5r := (And.intro z0 z1)
  refine hKQ.out _ _ hs5r ?_
  clear hKQ KQ
  try simp only [Act.put, List.setIfInBounds_toArray, List.set_cons_zero, List.set_cons_succ]
  refine held_callA 9 (by rfl) (by kernel_rfl) (by rfl) (fun KQ hKQ => ?_)
  go_simp
  refine (refNew24 w3 ev pa (by omega) (by omega) (by omega) (by omega)).mono ?_
  rintro e w4 ⟨d, Y, rfl, hr, hY, hb4⟩
  have v0 := (hb4.cell (p := ⟨w.heap.size, 0, none⟩) (Nat.lt_of_lt_of_le lt2 hz3)).trans z0
  have v1 := (hb4.cell (p := ⟨w.heap.size, 1, none⟩) (Nat.lt_of_lt_of_le lt2 hz3)).trans z1
  have hs6r := (And.intro v0 v1)
  refine hKQ.out _ _ hs6r ?_
  clear hKQ KQ
  try simp only [Act.put, List.setIfInBounds_toArray, List.set_cons_zero, List.set_cons_succ]
  (refine held_takeA 10 (by rfl) ?_ (by kernel_rfl) (fun _ _ _ h => h) hs6r ?_ ?_; rotate_left; (focus (intro wq hSw; have hrd := hSw; go_simp; try with_reducible rfl; done)); try simp only [Act.put, List.setIfInBounds_toArray, List.set_cons_zero, List.set_cons_succ])
  (refine held_takeA 11 (by rfl) ?_ (by kernel_rfl) (fun _ _ _ h => h) hs6r ?_ ?_; rotate_left; (focus (intro wq hSw; have hrd := hSw; go_simp; try with_reducible rfl; done)); try simp only [Act.put, List.setIfInBounds_toArray, List.set_cons_zero, List.set_cons_succ])
  refine wpAnyH_done (by kernel_rfl) ?_ _
  try refine NoPanic.normal ?_
  have hB3 := hx.trans (hb3.mono hx.size)
  have hB4 := hB3.trans (hb4.mono hB3.size)
  have h4 : TwoP w4 X Y g d ev pa 0 0 [] := ⟨hT.nx hb4, hr, fun k q r => by have := hT.lt k q; have := hY k r; omega⟩
  have hX4 : ∀ k, X k → w.heap.size ≤ k := fun k q => Nat.le_trans hx.size (hX k q)
  have hY4 : ∀ k, Y k → w.heap.size ≤ k := fun k q => Nat.le_trans hB3.size (hY k q)
  clear hb4 hb3 hT hr hX hY hB2 hB3 v0 v1 z0 z1 x0 x1 lt2 hx hz3
  go_wp2_with fail
  go_loopw [10, 44] (fun _ i wr => ∃ (k : Nat) (L : List Pr) (no sq : Int) (Y : Nat → Prop), k ≤ n1 ∧ i = .int .i64 (k : Int) ∧ TwoP wr X Y g d ev pa no sq L ∧ (∀ k, Y k → w.heap.size ≤ k) ∧ no ≤ 100 * k ∧ sq ≤ 25600 * k ∧ Below w.heap.size w wr) (fun _ i _ => n1 - (intOf i).toNat)
  case atStart => exact ⟨0, [], 0, 0, Y, Nat.zero_le _, rfl, h4, hY4, by omega, by omega, hB4⟩
  case round =>
  clear h4 hY4 hB4
  obtain ⟨k, L, no, sq, Y, hk, rfl, h, hY, hno, hsq, hB⟩ := hrel
  have hz := hB.size
  by_cases hlt : k < n1
  · obtain ⟨ab, off, a, rfl, hab, hka, hin, p0, p1, p2⟩ := act3_cells (acts3_at hS1 hB) hlt
    have lta : ab < wr.heap.size := Nat.lt_of_lt_of_le hab hz
    have hki : (k : Int) < n1 := by omega
    have hbx := (Below.refl wr.heap.size wr).alloc (Nat.le_refl _) (.cells #[.int .i64 a.k, .int .i64 a.id, .int .i64 a.n] 116)
    have hqx := Blk.new wr 116 #[.int .i64 a.k, .int .i64 a.id, .int .i64 a.n]
    go_upto_region 11 with (fail)
    clear p0 p1 p2
    generalize wr.alloc (.cells #[.int .i64 a.k, .int .i64 a.id, .int .i64 a.n] 116) = w5 at *
    have s0 : w5.cell? ⟨wr.heap.size, 0, none⟩ = some (.int .i64 a.k) := hqx.cellv 0 rfl
    have s1 : w5.cell? ⟨wr.heap.size, 1, none⟩ = some (.int .i64 a.id) := hqx.cellv 1 rfl
    have s2 : w5.cell? ⟨wr.heap.size, 2, none⟩ = some (.int .i64 a.n) := hqx.cellv 2 rfl
    have ltq := hqx.lt
    have h5 := h.nx hbx
    have hca := actP_any w5 X Y g d ev pa no sq L h5 (by omega) (by omega) a hin
    go_wp2_with (first
      | (go_at_call 83; refine hca.mono ?_; rintro e w6 ⟨rfl, Y6, no6, sq6, L6, h6, hS6, hno6, hsq6⟩)
      | (go_at_call 84; refine (alike24 w6 X Y6 g d ev pa no6 sq6 L6 h6 (by omega) (by omega)).mono ?_; rintro e w7 ⟨rfl, h7, hC7⟩))
    have hB5 := hB.trans (hbx.mono hz)
    have hY6 : ∀ k, Y6 k → w.heap.size ≤ k := fun k q => (hS6.y k q).elim (hY k) fun q => Nat.le_trans hB5.size q
    have hB6 := below_chg hB5 hS6.c (fun k q => q.elim (hX4 k) (hY k)) (Nat.le_refl _)
    have hB7 := below_chg hB6 hC7 hX4 (Nat.le_refl _)
    exact ⟨⟨k + 1, L6, no6, sq6, Y6, by omega, by go_num, h7, hY6, by omega, by omega, hB7⟩, by simp [intOf]; omega⟩
  · obtain rfl : k = n1 := by omega
    have hGh := h.t.good
    have hlen := hGh.len
    have hdist := hGh.dist
    go_upto_region 15 with (first
      | (go_at_call 78; refine (copyX24 h.t).mono ?_; rintro e w3 ⟨g2, X2, rfl, hT2, hX2, hb3⟩; have h3 := h.nx hb3)
      | (go_at_call 85; refine (refCopy24 w3 Y d ev pa no sq L h3.r (by omega)).mono ?_; rintro e w4 ⟨d2, Y2, rfl, hr2, hY2, hb4⟩))
    have h4 := h3.nx hb4
    have hXl := h.t.lt
    have hYl := h.r.lt
    have hz3 := hb3.size
    have hD : TwoP w4 X2 Y2 g2 d2 ev pa no sq L := ⟨hT2.nx hb4, hr2, fun k q r => by have := hT2.lt k q; have := hY2 k r; omega⟩
    have hY2' : ∀ k, Y2 k → wr.heap.size ≤ k := fun k q => Nat.le_trans hz3 (hY2 k q)
    have hB3 := hB.trans (hb3.mono hz)
    have hB4 := hB3.trans (hb4.mono hB3.size)
    clear hY2 hb4 hb3 h3 hT2 hr2 hB3 hz3 h hB hGh hlen hdist
    generalize wr.heap.size = Z at *
    go_wp2_with fail
    go_loopw [14, 66] (fun _ i wq => ∃ (j : Nat) (L2 : List Pr) (no2 sq2 : Int) (Y2 : Nat → Prop), j ≤ n2 ∧ i = .int .i64 (j : Int) ∧ TwoP wq X Y g d ev pa no sq L ∧ TwoP wq X2 Y2 g2 d2 ev pa no2 sq2 L2 ∧ (∀ k, Y2 k → Z ≤ k) ∧ no2 ≤ no + 100 * j ∧ sq2 ≤ sq + 25600 * j ∧ Z ≤ wq.heap.size ∧ Below w.heap.size w wq) (fun _ i _ => n2 - (intOf i).toNat)
    case atStart => exact ⟨0, L, no, sq, Y2, Nat.zero_le _, rfl, h4, hD, hY2', by omega, by omega, by have := hX2 _ hD.t.mine; have := hD.t.lt _ hD.t.mine; omega, hB4⟩
    case round =>
    clear h4 hD hY2' hB4
    obtain ⟨j, L2, no2, sq2, Y2, hj, rfl, h5, hD5, hY2, hno2, hsq2, hZ5, hB5⟩ := hrel
    have hz5 := hB5.size
    by_cases hlt : j < n2
    · obtain ⟨ab, off, a, rfl, hab, hka, hin, p0, p1, p2⟩ := act3_cells (acts3_at hS2 hB5) hlt
      have lta : ab < wr.heap.size := Nat.lt_of_lt_of_le hab hz5
      have hki : (j : Int) < n2 := by omega
      have hbx := (Below.refl wr.heap.size wr).alloc (Nat.le_refl _) (.cells #[.int .i64 a.k, .int .i64 a.id, .int .i64 a.n] 116)
      have hqx := Blk.new wr 116 #[.int .i64 a.k, .int .i64 a.id, .int .i64 a.n]
      go_upto_region 18 with (fail)
      clear p0 p1 p2
      generalize wr.alloc (.cells #[.int .i64 a.k, .int .i64 a.id, .int .i64 a.n] 116) = w6 at *
      have s0 : w6.cell? ⟨wr.heap.size, 0, none⟩ = some (.int .i64 a.k) := hqx.cellv 0 rfl
      have s1 : w6.cell? ⟨wr.heap.size, 1, none⟩ = some (.int .i64 a.id) := hqx.cellv 1 rfl
      have s2 : w6.cell? ⟨wr.heap.size, 2, none⟩ = some (.int .i64 a.n) := hqx.cellv 2 rfl
      have hca := actP_any w6 X2 Y2 g2 d2 ev pa no2 sq2 L2 (hD5.nx hbx) (by omega) (by omega) a hin
      go_wp2_with (go_at_call 83; refine hca.mono ?_; rintro e w7 ⟨rfl, Y6, no6, sq6, L6, h6, hS6, hno6, hsq6⟩)
      have hB6 := hB5.trans (hbx.mono hz5)
      have hZ6 : Z ≤ w6.heap.size := Nat.le_trans hZ5 hbx.size
      have hY6 : ∀ k, Y6 k → Z ≤ k := fun k q => (hS6.y k q).elim (hY2 k) fun q => Nat.le_trans hZ6 q
      have hB7 := below_chg hB6 hS6.c (fun k q => Nat.le_trans hz (q.elim (hX2 k) (hY2 k))) (Nat.le_refl _)
      have h7 := (h5.nx hbx).chg hS6.c (fun k q r => by have := hXl k q; have := r.elim (hX2 k) (hY2 k); omega) (fun k q r => by have := hYl k q; have := r.elim (hX2 k) (hY2 k); omega)
      exact ⟨⟨j + 1, L6, no6, sq6, Y6, by omega, by go_num, h7, h6, hY6, by omega, by omega, Nat.le_trans hZ6 hS6.c.size, hB7⟩, by simp [intOf]; omega⟩
    · obtain rfl : j = n2 := by omega
      have tok1 : True := trivial
      go_wp2_with (first
        | (go_at_call 84; have tok2 := tok1; clear tok1; refine (alike24 wr X Y g d ev pa no sq L h5 (by omega) (by omega)).mono ?_; rintro e w6 ⟨rfl, h6, hC6⟩; have hD6 := hD5.chg hC6 (fun k q r => by have := hXl k r; have := hX2 k q; omega) (fun k q r => by have := hXl k r; have := hY2 k q; omega))
        | (go_at_call 84; refine (alike24 w6 X2 Y2 g2 d2 ev pa no2 sq2 L2 hD6 (by omega) (by omega)).mono ?_; rintro e w7 ⟨rfl, hD7, hC7⟩)
        | (go_at_call 79; refine (lives24_any w7).mono ?_; rintro e w8 ⟨rfl, hb8⟩))
      go_ret
      have hB6 := below_chg hB5 hC6 hX4 (Nat.le_refl _)
      have hB7 := below_chg hB6 hC7 (fun k q => Nat.le_trans hz (hX2 k q)) (Nat.le_refl _)
      exact ⟨rfl, hB7.trans (hb8.mono hB7.size)⟩
theorem acts24_law (zs : List Int) (A1 : Option Addr) (n1 c1 : Nat) (vs1 : Nat → Value) (A2 : Option Addr) (n2 c2 : Nat) (vs2 : Nat → Value) (w : World) (hzs : zs.length = 2) (_wz : ∀ z ∈ zs, (Lit.int .i64 z).wf = true)
    (hc1 : n1 ≤ c1) (hm1 : c1 ≤ maxLen) (hF1 : Flat w w.heap.size A1 (n1 * 3) vs1) (hx1 : ∀ i, i < n1 → ∀ j, j < 3 → ∃ z, vs1 (i * 3 + j) = .int .i64 z ∧ (Lit.int .i64 z).wf = true)
    (hc2 : n2 ≤ c2) (hm2 : c2 ≤ maxLen) (hF2 : Flat w w.heap.size A2 (n2 * 3) vs2) (hx2 : ∀ i, i < n2 → ∀ j, j < 3 → ∃ z, vs2 (i * 3 + j) = .int .i64 z ∧ (Lit.int .i64 z).wf = true) :
    Calls Try.prog 14 #[.agg (zs.map (Value.int .i64)).toArray, .slice A1 n1 c1, .slice A2 n2 c2] w fun e w' => e = .returned (.bool true) ∧ Below w.heap.size w w' := by
  obtain ⟨rs1, h1⟩ := act3_open hF1 hx1
  obtain ⟨rs2, h2⟩ := act3_open hF2 hx2
  match zs, hzs with
  | [ev, pa], _ => exact acts24_walk ev pa A1 n1 c1 rs1 A2 n2 c2 rs2 w hc1 hm1 h1 hc2 hm2 h2
end Go.Proofs.Ytejgekoinbdhjaa
