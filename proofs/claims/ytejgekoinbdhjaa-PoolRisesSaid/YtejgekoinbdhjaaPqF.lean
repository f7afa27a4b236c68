/- pool: PoolActs. -/
import Derived.Test.YtejgekoinbdhjaaPqE
namespace Go.Proofs.Ytejgekoinbdhjaa
set_option linter.unusedVariables false
open Go Go.RowKit Go.Maps

theorem RefIn.lim {w : World} {X : Nat → Prop} {g : Nat} {pc : Int} {L : List Mem} (h : RefIn w X g pc L) : RefIn w (fun i => i < w.heap.size) g pc L := by
  obtain ⟨A, n, c, k1, k2, h1, h2⟩ := h
  exact ⟨A, n, c, k1, k2, h1, h2.more fun b q => ⟨q.2, q.2⟩⟩
theorem rel_nil : Rel [] [] := ⟨List.Perm.refl _, List.Pairwise.nil, by simp [MemsOk]⟩
theorem acts_at {w w' : World} {A : Option Addr} {n : Nat} {rs : List ActV} (h : Seen actK w (fun b => b < w.heap.size) A n rs) (hb : Below w.heap.size w w') : Seen actK w' (fun b => b < w.heap.size) A n rs := h.below hb fun _ q => q
set_option maxRecDepth 100000 in
set_option maxHeartbeats 16000000 in
theorem acts25_walk (pc : Int) (A1 : Option Addr) (n1 c1 : Nat) (rs1 : List ActV) (A2 : Option Addr) (n2 c2 : Nat) (rs2 : List ActV) (w : World) (_wp : (Lit.int .i64 pc).wf = true) (hc1 : n1 ≤ c1) (hm1 : c1 ≤ maxLen) (hS1 : Seen actK w (fun b => b < w.heap.size) A1 n1 rs1)
    (hc2 : n2 ≤ c2) (hm2 : c2 ≤ maxLen) (hS2 : Seen actK w (fun b => b < w.heap.size) A2 n2 rs2) :
    Calls Try.prog 6 #[.int .i64 pc, .slice A1 n1 c1, .slice A2 n2 c2] w fun e w' => e = .returned (.bool true) ∧ Below w.heap.size w w' := by
  have hl1 := Lib.hid hS1.1
  have hl2 := Lib.hid hS2.1
  go_enter Try.func6, Try.ntmps6
  by_cases hbig : 150 < n1 ∨ 150 < n2
  · by_cases b1 : 150 < n1
    · have d1 : decide ((150 : Int) < n1) = true := by simp; omega
      go_wp2_with (go_at_call 18; refine (lives25_any w).mono ?_; rintro e w' ⟨rfl, hb⟩)
      go_ret
      exact ⟨rfl, hb⟩
    · have d1 : decide ((150 : Int) < n1) = false := by simp; omega
      have d2 : decide ((150 : Int) < n2) = true := by simp; omega
      go_wp2_with (go_at_call 18; refine (lives25_any w).mono ?_; rintro e w' ⟨rfl, hb⟩)
      go_ret
      exact ⟨rfl, hb⟩
  have hn1 : n1 ≤ 150 := by omega
  have hn2 : n2 ≤ 150 := by omega
  have d1 : decide ((150 : Int) < n1) = false := by simp; omega
  have d2 : decide ((150 : Int) < n2) = false := by simp; omega
  by_cases hpc : pc < 1 ∨ 100 < pc
  · go_wp2_with (first
      | (go_at_call 33; refine (new_no w pc hpc).mono ?_; rintro e w' ⟨rfl, rfl⟩)
      | (go_at_call 35; refine (refNewNo25 w pc hpc).mono ?_; rintro e w' ⟨rfl, rfl⟩)
      | (go_at_call 18; refine (lives25_any w).mono ?_; rintro e w' ⟨rfl, hb⟩))
    go_ret
    exact ⟨rfl, hb⟩
  go_wp2_with (first
    | (go_at_call 33; refine (new_in w pc (by omega) (by omega)).mono ?_; rintro e w1 ⟨g, b, rfl, hP, hgg, hbb, hB⟩; have hz1 := hB.size)
    | (go_at_call 35; refine (refNew25 w1 (fun i => i ≠ b) pc (by omega) (by omega)).mono ?_; rintro e w2 ⟨rfl, hQ, hb2⟩))
  replace hP := hP.nx hb2
  replace hB := hB.trans (hb2.mono hz1)
  obtain ⟨gr, hgr, hgr2⟩ : ∃ gr, gr = w1.heap.size ∧ w.heap.size ≤ gr := ⟨_, rfl, hz1⟩
  rw [← hgr] at hQ
  try rw [← hgr]
  clear hb2 hgr hz1
  go_loopw [10, 38] (fun _ i wr => ∃ (k : Nat) (M L : List Mem), k ≤ n1 ∧ i = .int .i64 (k : Int) ∧ PoolIn wr g b pc M ∧ RefIn wr (fun i => i ≠ b) gr pc L ∧ Rel M L ∧ Below w.heap.size w wr) (fun _ i _ => n1 - (intOf i).toNat)
  case atStart => exact ⟨0, [], [], Nat.zero_le _, rfl, hP, hQ, rel_nil, hB⟩
  case round =>
  obtain ⟨k, M, L, hk, rfl, hP, hQ, hR, hB⟩ := hrel
  have hz := hB.size
  by_cases hlt : k < n1
  · obtain ⟨ab, off, a, rfl, hab, hka, hid, q0, q1, q2, q3, q4⟩ := act_cells (acts_at hS1 hB) hlt
    have lta : ab < wr.heap.size := Nat.lt_of_lt_of_le hab hz
    have hki : (k : Int) < n1 := by omega
    have hbx := (Below.refl wr.heap.size wr).alloc (Nat.le_refl _) (.cells #[.int .i64 a.k, .int .i64 a.id, .int .u32 a.ad, .int .i64 a.wt, .bool a.on] 28)
    have hqx := Blk.new wr 28 #[.int .i64 a.k, .int .i64 a.id, .int .u32 a.ad, .int .i64 a.wt, .bool a.on]
    go_upto_region 11 with (fail)
    clear q0 q1 q2 q3 q4
    generalize wr.alloc (.cells #[.int .i64 a.k, .int .i64 a.id, .int .u32 a.ad, .int .i64 a.wt, .bool a.on] 28) = w3 at *
    have s0 : w3.cell? ⟨wr.heap.size, 0, none⟩ = some (.int .i64 a.k) := hqx.cellv 0 rfl
    have s1 : w3.cell? ⟨wr.heap.size, 1, none⟩ = some (.int .i64 a.id) := hqx.cellv 1 rfl
    have s2 : w3.cell? ⟨wr.heap.size, 2, none⟩ = some (.int .u32 a.ad) := hqx.cellv 2 rfl
    have s3 : w3.cell? ⟨wr.heap.size, 3, none⟩ = some (.int .i64 a.wt) := hqx.cellv 3 rfl
    have s4 : w3.cell? ⟨wr.heap.size, 4, none⟩ = some (.bool a.on) := hqx.cellv 4 rfl
    have ltb0 := hP.ltb
    have ltr0 := hQ.lt
    have hP3 := hP.nx hbx
    have hQ3 := hQ.nx hbx
    have hz3 := hbx.size
    have hL16 := (rel_ok hR).1
    obtain ⟨hx, hR2⟩ := rel_act hR a
    have hca := act_any w3 g b pc M (fun i => i ≠ b) gr pc L a hP3 hQ3 hL16 (fun _ q => q) (fun i q => by have := hP3.ltb; omega) hid.1 hid.2
    rw [hx] at hca
    unfold actC at hca
    go_wp2_with (first
      | (go_at_call 34; refine hca.mono ?_; rintro e w4 ⟨rfl, hP4, hQ4, wm, hg1, hg2⟩; have s5 : w4.cell? ⟨wr.heap.size, 1, none⟩ = some (.int .i64 a.id) := (by rw [grown_cell hg2 (Nat.lt_of_lt_of_le hqx.lt hg1.size) (by omega), grown_cell hg1 hqx.lt (by omega)]; exact s1); have hB3 := hB.trans (hbx.mono hz); have hB4 := below_own (below_own hB3 hg1 hB3.size hbb) hg2 (Nat.le_trans hB3.size hg1.size) hgr2; clear s0 s1 s2 s3 s4)
      | (go_at_call 36; refine (alike25 w4 g b pc _ _ gr _ a.id hP4 hQ4 hR2 hid.1 hid.2).mono ?_; rintro e w5 ⟨rfl, hb5⟩; have hB5 := hB4.trans (hb5.mono hB4.size)))
    exact ⟨⟨k + 1, _, _, by omega, by go_num, hP4.nx hb5, hQ4.nx hb5, hR2, hB5⟩, by simp [intOf]; omega⟩
  · obtain rfl : k = n1 := by omega
    have hL16 := (rel_ok hR).1
    go_upto_region 15 with (first
      | (go_at_call 32; refine (pCopy wr g b pc M hP).mono ?_; rintro e w3 ⟨g2, b2, rfl, hC, hg2, hb2, hb3⟩; have hz3 := hb3.size; have ltb2 := hC.ltb; have ltg2 := hC.ltg)
      | (go_at_call 37; refine (refCopy25 w3 (fun i => i ≠ b) (fun i => i ≠ b2) gr pc L (hQ.nx hb3) (by omega) (fun i q => by omega)).mono ?_; rintro e w4 ⟨gr2, rfl, hD, hgr3, hb4⟩))
    have ltb0 := hP.ltb
    have ltg0 := hP.ltg
    have ltr0 := hQ.lt
    have hQl := hQ.lim
    have hbb4 := hb3.trans (hb4.mono hz3)
    have hP4 := hP.nx hbb4
    have hC4 := hC.nx hb4
    have hQ4 := hQl.nx hbb4
    have hB4 := hB.trans (hbb4.mono hz)
    have hz4 := hB4.size
    have hk1 : wr.heap.size ≤ gr2 := Nat.le_trans hz3 hgr3
    clear hb4 hb3 hQ hQl hC hbb4 hz3
    generalize wr.heap.size = Z at *
    go_wp2_with fail
    go_loopw [14, 63] (fun _ i wq => ∃ (k : Nat) (M2 L2 : List Mem), k ≤ n2 ∧ i = .int .i64 (k : Int) ∧ PoolIn wq g b pc M ∧ RefIn wq (fun i => i < Z) gr pc L ∧ PoolIn wq g2 b2 pc M2 ∧ RefIn wq (fun i => i ≠ b2) gr2 pc L2 ∧ Rel M2 L2 ∧ Below w.heap.size w wq) (fun _ i _ => n2 - (intOf i).toNat)
    case atStart => exact ⟨0, M, L, Nat.zero_le _, rfl, hP4, hQ4, hC4, hD, hR, hB4⟩
    case round =>
    obtain ⟨j, M2, L2, hj, rfl, hP5, hQ5, hC5, hD5, hR5, hB5⟩ := hrel
    have hz5 := hB5.size
    by_cases hlt : j < n2
    · obtain ⟨ab, off, a, rfl, hab, hka, hid, q0, q1, q2, q3, q4⟩ := act_cells (acts_at hS2 hB5) hlt
      have lta : ab < wr.heap.size := Nat.lt_of_lt_of_le hab hz5
      have hki : (j : Int) < n2 := by omega
      have hbx := (Below.refl wr.heap.size wr).alloc (Nat.le_refl _) (.cells #[.int .i64 a.k, .int .i64 a.id, .int .u32 a.ad, .int .i64 a.wt, .bool a.on] 28)
      have hqx := Blk.new wr 28 #[.int .i64 a.k, .int .i64 a.id, .int .u32 a.ad, .int .i64 a.wt, .bool a.on]
      go_upto_region 18 with (fail)
      clear q0 q1 q2 q3 q4
      generalize wr.alloc (.cells #[.int .i64 a.k, .int .i64 a.id, .int .u32 a.ad, .int .i64 a.wt, .bool a.on] 28) = w6 at *
      have s0 : w6.cell? ⟨wr.heap.size, 0, none⟩ = some (.int .i64 a.k) := hqx.cellv 0 rfl
      have s1 : w6.cell? ⟨wr.heap.size, 1, none⟩ = some (.int .i64 a.id) := hqx.cellv 1 rfl
      have s2 : w6.cell? ⟨wr.heap.size, 2, none⟩ = some (.int .u32 a.ad) := hqx.cellv 2 rfl
      have s3 : w6.cell? ⟨wr.heap.size, 3, none⟩ = some (.int .i64 a.wt) := hqx.cellv 3 rfl
      have s4 : w6.cell? ⟨wr.heap.size, 4, none⟩ = some (.bool a.on) := hqx.cellv 4 rfl
      have hC6 := hC5.nx hbx
      have hD6 := hD5.nx hbx
      have hP6 := hP5.nx hbx
      have hQ6 := hQ5.nx hbx
      have hB6 := hB5.trans (hbx.mono hz5)
      have hz6 := hB6.size
      have hM16 := (rel_ok hR5).1
      obtain ⟨hx, hR6⟩ := rel_act hR5 a
      have hca := act_any w6 g2 b2 pc M2 (fun i => i ≠ b2) gr2 pc L2 a hC6 hD6 hM16 (fun _ q => q) (fun i q => by have := hC6.ltb; omega) hid.1 hid.2
      rw [hx] at hca
      unfold actC at hca
      go_wp2_with (go_at_call 34; refine hca.mono ?_; rintro e w7 ⟨rfl, hC7, hD7, wm, hg1, hg2'⟩)
      have hB7 := below_own (below_own hB6 hg1 hz6 (by omega)) hg2' (Nat.le_trans hz6 hg1.size) (by omega)
      have hP7 := (hP6.grown hg1 (by intro e; injection e with e; omega) (by intro e; injection e with e; omega)).grown hg2' (by intro e; injection e with e; omega) (by intro e; injection e with e; omega)
      have hQ7 := (hQ6.grown hg1 (by omega) (fun i q => by omega)).grown hg2' (by omega) (fun i q => by omega)
      exact ⟨⟨j + 1, _, _, by omega, by go_num, hP7, hQ7, hC7, hD7, hR6, hB7⟩, by simp [intOf]; omega⟩
    · obtain rfl : j = n2 := by omega
      have tok1 : True := trivial
      go_wp2_with (first
        | (go_at_call 36; have tok2 := tok1; clear tok1; refine (alike25 wr g b pc _ _ gr _ 0 hP5 hQ5 hR (by omega) (by omega)).mono ?_; rintro e w6 ⟨rfl, hb6⟩)
        | (go_at_call 36; refine (alike25 w6 g2 b2 pc _ _ gr2 _ 0 (hC5.nx hb6) (hD5.nx hb6) hR5 (by omega) (by omega)).mono ?_; rintro e w7 ⟨rfl, hb7⟩)
        | (go_at_call 18; refine (lives25_any w7).mono ?_; rintro e w8 ⟨rfl, hb8⟩))
      go_ret
      have hB6 := hB5.trans (hb6.mono hz5)
      have hB7 := hB6.trans (hb7.mono hB6.size)
      exact ⟨rfl, hB7.trans (hb8.mono hB7.size)⟩
end Go.Proofs.Ytejgekoinbdhjaa
