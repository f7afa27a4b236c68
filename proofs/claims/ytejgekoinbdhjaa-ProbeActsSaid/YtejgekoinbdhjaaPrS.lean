/- probe: act 3 (the answer of one that is waited for); any act. -/
import Derived.Test.YtejgekoinbdhjaaPrR
namespace Go.Proofs.Ytejgekoinbdhjaa
set_option linter.unusedVariables false
open Go Go.RowKit Go.Maps

theorem remz_at (n : Int) (m : Nat) (h0 : 0 < m) (h1 : m ≤ 1000000) : ∃ k : Nat, k < m ∧ wrap64 ((IntKind.u64.wrap n).tmod (m : Int)) = (k : Int) := by
  have hu : 0 ≤ IntKind.u64.wrap n := by
    show 0 ≤ n % 18446744073709551616
    omega
  generalize IntKind.u64.wrap n = u at *
  have a := Int.tmod_nonneg (m : Int) hu
  have b := Int.tmod_lt_of_pos u (show (0 : Int) < m by omega)
  generalize u.tmod (m : Int) = r at *
  refine ⟨r.toNat, by omega, ?_⟩
  unfold wrap64
  omega
set_option maxRecDepth 100000 in
set_option maxHeartbeats 4000000 in
theorem actP_3 (w : World) (X Y : Nat → Prop) (g d : Nat) (ev pa no sq : Int) (L : List Pr) (h : TwoP w X Y g d ev pa no sq L) (hno : no ≤ 1000000) (hsq : sq ≤ 100000000) (id n : Int) (hid : IdIn id) (hin : IdIn n) :
    Calls Try.prog 83 #[.pointer (some ⟨g, 0, none⟩), .pointer (some ⟨d, 0, none⟩), .agg #[.int .i64 3, .int .i64 id, .int .i64 n]] w (ActPost w X Y g d ev pa no sq) := by
  have hB := (Below.refl w.heap.size w).alloc (Nat.le_refl _) (.cells #[.int .i64 3, .int .i64 id, .int .i64 n] 116)
  have hq := Blk.new w 116 #[.int .i64 3, .int .i64 id, .int .i64 n]
  have h1 := h.nx hB
  have hG := h.t.good
  have hd := hG.dist
  have hlen := hG.len
  have hn0 := hG.no_
  have hs0 := hG.sq_
  have hXl : ∀ k, X k → k < w.heap.size := h.t.lt
  have hYl : ∀ k, Y k → k < w.heap.size := h.r.lt
  have hids := hG.idIn
  have hwl : (waitsOf L).length ≤ 256 := by unfold waitsOf; rw [List.length_map]; exact Nat.le_trans (List.length_filter_le _ _) hlen
  have hwin : ∀ p ∈ waitsOf L, IdIn p.1 := fun p hp => by
    unfold waitsOf at hp
    rw [List.mem_map] at hp
    obtain ⟨r, hr, rfl⟩ := hp
    exact hids _ (List.mem_map.2 ⟨r, (List.mem_filter.1 hr).1, rfl⟩)
  obtain ⟨W, hW⟩ : ∃ W, W = waitsOf L := ⟨_, rfl⟩
  rw [← hW] at hwl hwin
  replace hW := Lib.hid hW
  go_enter Try.func83, Try.ntmps83
  go_upto_region 1 with (fail)
  generalize w.alloc (.cells #[.int .i64 3, .int .i64 id, .int .i64 n] 116) = w1 at *
  have a0 : w1.cell? ⟨w.heap.size, 0, none⟩ = some (.int .i64 3) := hq.cellv 0 rfl
  have a1 : w1.cell? ⟨w.heap.size, 1, none⟩ = some (.int .i64 id) := hq.cellv 1 rfl
  have a2 : w1.cell? ⟨w.heap.size, 2, none⟩ = some (.int .i64 n) := hq.cellv 2 rfl
  have ltq := hq.lt
  go_upto_region 16 with (go_at_call 164; refine (refWaiting24 w1 Y d ev pa no sq L h1.r (by omega)).mono ?_; rw [← hW.out]; rintro e w2 ⟨v, rfl, hr, hb2⟩; obtain ⟨A, cc, rfl, -, -, hs2⟩ := hr.seen (Nat.le_refl _); have h2 := h1.nx hb2; have b2 : w2.cell? ⟨w.heap.size, 2, none⟩ = some (.int .i64 n) := (hb2.cell (p := ⟨w.heap.size, 2, none⟩) ltq).trans a2)
  have hz1 := hb2.size
  by_cases hW0 : 0 < W.length
  rotate_left
  · have t1 : decide ((0 : Int) < W.length) = false := decide_eq_false (by omega)
    go_wp2_with fail
    go_ret
    exact ⟨rfl, Y, no, sq, L, h2, StpB.below (hB.trans (hb2.mono (Nat.le_of_lt ltq))), by omega, by omega⟩
  have t1 : decide ((0 : Int) < W.length) = true := decide_eq_true (by omega)
  obtain ⟨k, hk, ek⟩ : ∃ k : Nat, k < W.length ∧ wrap64 ((IntKind.u64.wrap n).tmod (W.length : Int)) = (k : Int) := remz_at n W.length hW0 (by omega)
  have hkz : (k : Int) < W.length := by omega
  obtain ⟨b, off, pi, ps, rfl, hbS, hkp, p0, p1⟩ := pr_cells hs2 hk
  have hpin := hwin (pi, ps) (List.mem_of_getElem? hkp)
  have ltb : b < w2.heap.size := hbS.2
  have hbx := (Below.refl w2.heap.size w2).alloc (Nat.le_refl _) (.cells #[.int .i64 pi, .int .i64 ps] 225)
  have hqx := Blk.new w2 225 #[.int .i64 pi, .int .i64 ps]
  go_upto_region 18 with (fail)
  have h3 := h2.nx hbx
  generalize w2.alloc (.cells #[.int .i64 pi, .int .i64 ps] 225) = w3 at *
  have s0 : w3.cell? ⟨w2.heap.size, 0, none⟩ = some (.int .i64 pi) := hqx.cellv 0 rfl
  have s1 : w3.cell? ⟨w2.heap.size, 1, none⟩ = some (.int .i64 ps) := hqx.cellv 1 rfl
  have ltq2 := hqx.lt
  have hXl2 := h2.t.lt
  have hYl2 := h2.r.lt
  have h3 := h3.nx (Below.refl _ _).drew
  -- region 18: 0 1 2C 3 4 5C 6 7
  try refine wp_region_noPanic ?_
  have hs1r : (fun w' => ∀ i, w'.cell? ⟨w2.heap.size, i, none⟩ = w3.cell? ⟨w2.heap.size, i, none⟩) w3.drew := fun _ => rfl
  refine wp_region_held_drew (S := fun w' => ∀ i, w'.cell? ⟨w2.heap.size, i, none⟩ = w3.cell? ⟨w2.heap.size, i, none⟩) (by kernel_rfl) hs1r (fun _ => ?_)
  (refine held_takeA 0 (by rfl) ?_ (by kernel_rfl) (fun _ _ _ h => h) hs1r ?_ ?_; rotate_left; (focus (intro wq hSw; have hrd := hSw; go_simp; try with_reducible rfl; done)); try simp only [Act.put, List.setIfInBounds_toArray, List.set_cons_zero, List.set_cons_succ])
  (refine held_takeA 1 (by rfl) ?_ (by kernel_rfl) (fun _ _ _ h => h) hs1r ?_ ?_; rotate_left; (focus (intro wq hSw; have hrd := hSw; go_simp; try with_reducible rfl; done)); try simp only [Act.put, List.setIfInBounds_toArray, List.set_cons_zero, List.set_cons_succ])
  (refine held_takeA 3 (by rfl) ?_ (by kernel_rfl) (fun _ _ _ h => h) hs1r ?_ ?_; rotate_left; (focus (intro wq hSw; have hrd := hSw; go_simp; try with_reducible rfl; done)); try simp only [Act.put, List.setIfInBounds_toArray, List.set_cons_zero, List.set_cons_succ])
  (refine held_takeA 4 (by rfl) ?_ (by kernel_rfl) (fun _ _ _ h => h) hs1r ?_ ?_; rotate_left; (focus (intro wq hSw; have hrd := hSw; go_simp; try with_reducible rfl; done)); try simp only [Act.put, List.setIfInBounds_toArray, List.set_cons_zero, List.set_cons_succ])
  refine held_callA 2 (by rfl) (by kernel_rfl) (by rfl) (fun KQ hKQ => ?_)
  go_simp
  refine (resX24 h3.t pi ps hpin).mono ?_
  rintro e w4 ⟨rfl, h4, s2⟩
  have hr2 := h3.away s2
  have e2 : ∀ i, w4.cell? ⟨w2.heap.size, i, none⟩ = w3.cell? ⟨w2.heap.size, i, none⟩ := fun i => s2.cell (p := ⟨w2.heap.size, i, none⟩) ltq2 (fun q => absurd (hXl2 _ q) (Nat.lt_irrefl _))
  have hs2r := e2
  refine hKQ.out _ _ hs2r ?_
  clear hKQ KQ
  try simp only [Act.put, List.setIfInBounds_toArray, List.set_cons_zero, List.set_cons_succ]
  refine held_callA 5 (by rfl) (by kernel_rfl) (by rfl) (fun KQ hKQ => ?_)
  go_simp
  refine (refRes24 w4 Y d ev pa no sq L hr2 (by omega) hd pi ps).mono ?_
  rintro e w5 ⟨rfl, Y3, h5, s3, s4⟩
  have e3 : ∀ i, w5.cell? ⟨w2.heap.size, i, none⟩ = w3.cell? ⟨w2.heap.size, i, none⟩ := fun i => (s4.cell (p := ⟨w2.heap.size, i, none⟩) (Nat.lt_of_lt_of_le ltq2 s2.size) (fun q => absurd (hYl2 _ q) (Nat.lt_irrefl _))).trans (e2 i)
  obtain ⟨hT, hS⟩ := h3.step h4 s2 h5 s3 s4
  have hS := (StpB.below (X := X) (Y := Y) (((hB.trans (hb2.mono (Nat.le_of_lt ltq))).trans (hbx.mono (Nat.le_trans (Nat.le_of_lt ltq) hz1))).trans (show Below w.heap.size w3 w3.drew from (Below.refl _ _).drew))).trans hS
  have hs3r := e3
  refine hKQ.out _ _ hs3r ?_
  clear hKQ KQ
  try simp only [Act.put, List.setIfInBounds_toArray, List.set_cons_zero, List.set_cons_succ]
  (refine held_takeA 6 (by rfl) ?_ (by kernel_rfl) (fun _ _ _ h => h) hs3r ?_ ?_; rotate_left; (focus (intro wq hSw; have hrd := hSw; go_simp; try with_reducible rfl; done)); try simp only [Act.put, List.setIfInBounds_toArray, List.set_cons_zero, List.set_cons_succ])
  (refine held_takeA 7 (by rfl) ?_ (by kernel_rfl) (fun _ _ _ h => h) hs3r ?_ ?_; rotate_left; (focus (intro wq hSw; have hrd := hSw; go_simp; try with_reducible rfl; done)); try simp only [Act.put, List.setIfInBounds_toArray, List.set_cons_zero, List.set_cons_succ])
  refine wpAnyH_done (by kernel_rfl) ?_ _
  try refine NoPanic.normal ?_
  go_wp2_with fail
  go_ret
  exact ⟨ret_bool (by simp), Y3, no, sq, _, hT, hS, by omega, by omega⟩
theorem actP_any (w : World) (X Y : Nat → Prop) (g d : Nat) (ev pa no sq : Int) (L : List Pr) (h : TwoP w X Y g d ev pa no sq L) (hno : no ≤ 1000000) (hsq : sq ≤ 100000000) (a : Act3) (ha : a.In) :
    Calls Try.prog 83 #[.pointer (some ⟨g, 0, none⟩), .pointer (some ⟨d, 0, none⟩), .agg #[.int .i64 a.k, .int .i64 a.id, .int .i64 a.n]] w (ActPost w X Y g d ev pa no sq) := by
  obtain ⟨k, id, n⟩ := a
  obtain ⟨-, h1, h2⟩ := ha
  simp only at h1 h2 ⊢
  by_cases k0 : k = 0
  · rw [k0]; exact actP_0 w X Y g d ev pa no sq L h hno hsq id n h1 h2
  by_cases k1 : k = 1
  · rw [k1]; exact actP_1 w X Y g d ev pa no sq L h hno hsq id n h1 h2
  by_cases k2 : k = 2
  · rw [k2]; exact actP_2 w X Y g d ev pa no sq L h hno hsq id n h1 h2
  by_cases k3 : k = 3
  · rw [k3]; exact actP_3 w X Y g d ev pa no sq L h hno hsq id n h1 h2
  by_cases k4 : k = 4
  · rw [k4]; exact actP_4 w X Y g d ev pa no sq L h hno hsq id n h1 h2
  exact actP_k w X Y g d ev pa no sq L h hno hsq k id n h1 h2 k0 k1 k2 k3 k4
end Go.Proofs.Ytejgekoinbdhjaa
