/- pool: Remove, Copy. -/
import Derived.Test.YtejgekoinbdhjaaPoS
import Derived.Test.YtejgekoinbdhjaaPoG
namespace Go.Proofs.Ytejgekoinbdhjaa
set_option linter.unusedVariables false
open Go Go.RowKit Go.Maps

set_option maxRecDepth 100000 in
set_option maxHeartbeats 1000000 in
theorem removeHit (w : World) (g b : Nat) (pc : Int) (M : List Mem) (h : PoolIn w g b pc M) (j : Nat) (m : Mem) (hj : M[j]? = some m) (r0 : -9223372036854775808 ≤ m.id) (r1 : m.id ≤ 9223372036854775807) :
    Calls Try.prog 21 #[.pointer (some ⟨g, 0, none⟩), .int .i64 m.id] w fun e w' => e = .returned (.bool true) ∧ PoolIn w' g b pc (M.eraseIdx j) ∧ w.grownBy w' (some b) := by
  have c1 : w.cell? ⟨g, 1, none⟩ = some (.map (some b)) := h.1.cellv 1 rfl
  have hk := int_lit m.id r0 r1
  have hlk := h.2.hit1 int_key map_und hk (is_id (List.mem_of_getElem? hj))
  simp only [memC] at hlk
  have hjE : (M.map memE)[j]? = some (.int .i64 m.id, .agg (memC m)) := by rw [List.getElem?_map, hj]; rfl
  have hgb := h.ne
  have hB := (Below.refl w.heap.size w).alloc (Nat.le_refl _) (.cells #[.int .i64 m.id, .int .u32 m.ad, .int .i64 m.wt, .bool m.up, .bool m.dr] 157)
  have h1 := h.alloc (.cells #[.int .i64 m.id, .int .u32 m.ad, .int .i64 m.wt, .bool m.up, .bool m.dr] 157)
  go_enter Try.func21, Try.ntmps21
  go_upto_region 4 with (go_at_call 87; refine (made_in h).mono ?_; rintro e w' ⟨rfl, rfl⟩)
  clear hlk c1
  generalize w.alloc (.cells #[.int .i64 m.id, .int .u32 m.ad, .int .i64 m.wt, .bool m.up, .bool m.dr] 157) = w1 at *
  have c1 : w1.cell? ⟨g, 1, none⟩ = some (.map (some b)) := h1.1.cellv 1 rfl
  go_wp2_with (refine wpList_del_hit rfl h1.2 int_key map_und (.tmp 22) (.tmp 23) rfl rfl rfl hk hjE ?_; intro w2 he2 hg2)
  go_ret
  refine ⟨rfl, ⟨h1.1.grown hg2 (by simp; omega), ?_⟩, grown_trans (grown_of_below hB (Nat.le_refl _) _) hg2⟩
  skip
  rw [show (M.eraseIdx j).map memE = (M.map memE).eraseIdx j from (map_eraseIdx' memE M j)]; exact he2
set_option maxRecDepth 100000 in
set_option maxHeartbeats 1000000 in
theorem removeMiss (w : World) (g b : Nat) (pc : Int) (M : List Mem) (h : PoolIn w g b pc M) (id : Int) (hnot : ∀ m ∈ M, m.id ≠ id) (r0 : -9223372036854775808 ≤ id) (r1 : id ≤ 9223372036854775807) :
    Calls Try.prog 21 #[.pointer (some ⟨g, 0, none⟩), .int .i64 id] w fun e w' => e = .returned (.bool false) ∧ PoolIn w' g b pc (M) ∧ w.grownBy w' (some b) := by
  have c1 : w.cell? ⟨g, 1, none⟩ = some (.map (some b)) := h.1.cellv 1 rfl
  have hk := int_lit id r0 r1
  have hlk := h.2.miss1 int_key map_und mem_zero hk (no_id hnot)
  skip
  skip
  have hgb := h.ne
  have hB := (Below.refl w.heap.size w).alloc (Nat.le_refl _) (.cells #[.int .i64 0, .int .u32 0, .int .i64 0, .bool false, .bool false] 157)
  have h1 := h.alloc (.cells #[.int .i64 0, .int .u32 0, .int .i64 0, .bool false, .bool false] 157)
  go_enter Try.func21, Try.ntmps21
  go_upto_region 4 with (go_at_call 87; refine (made_in h).mono ?_; rintro e w' ⟨rfl, rfl⟩)
  clear hlk c1
  generalize w.alloc (.cells #[.int .i64 0, .int .u32 0, .int .i64 0, .bool false, .bool false] 157) = w1 at *
  have c1 : w1.cell? ⟨g, 1, none⟩ = some (.map (some b)) := h1.1.cellv 1 rfl
  go_wp2_with (refine wpList_del_miss rfl h1.2 int_key map_und (.tmp 22) (.tmp 23) rfl rfl rfl hk (no_id hnot) ?_; intro w2 he2 hg2)
  go_ret
  refine ⟨rfl, ⟨h1.1.grown hg2 (by simp; omega), ?_⟩, grown_trans (grown_of_below hB (Nat.le_refl _) _) hg2⟩
  skip
  exact he2
set_option maxRecDepth 100000 in
set_option maxHeartbeats 1000000 in
theorem pCopy (w : World) (g b : Nat) (pc : Int) (M : List Mem) (h : PoolIn w g b pc M) :
    Calls Try.prog 32 #[.pointer (some ⟨g, 0, none⟩)] w fun e w' => ∃ g2 b2, e = .returned (.pointer (some ⟨g2, 0, none⟩)) ∧ PoolIn w' g2 b2 pc M ∧ w.heap.size ≤ g2 ∧ w.heap.size ≤ b2 ∧ Below w.heap.size w w' := by
  have c0 : w.cell? ⟨g, 0, none⟩ = some (.int .i64 pc) := h.1.cellv 0 rfl
  have c1 : w.cell? ⟨g, 1, none⟩ = some (.map (some b)) := h.1.cellv 1 rfl
  have ltg := h.ltg
  go_enter Try.func32, Try.ntmps32
  go_upto_region 3 with (go_at_call 87; refine (made_in h).mono ?_; rintro e w' ⟨rfl, rfl⟩)
  -- region 3: 0 1 2 3 4 5 6 7 8C 9 10M 11
  try refine wp_region_noPanic ?_
  refine wp_region_lat (by kernel_rfl) ?_
  (refine lat_now 0 (by rfl) ?_ (by kernel_rfl) (fun _ _ _ h => h) ?_ ?_; rotate_left; (focus (intro wq hSw; have hrd : ∀ b o, b < w.heap.size → wq.cell? ⟨b, o, none⟩ = w.cell? ⟨b, o, none⟩ := (fun b o h => Below.cell hSw (p := ⟨b, o, none⟩) h); go_simp; try with_reducible rfl; done)); try simp only [Act.put, List.setIfInBounds_toArray, List.set_cons_zero, List.set_cons_succ])
  (refine lat_now 1 (by rfl) ?_ (by kernel_rfl) (fun _ _ _ h => h) ?_ ?_; rotate_left; (focus (intro wq hSw; have hrd : ∀ b o, b < w.heap.size → wq.cell? ⟨b, o, none⟩ = w.cell? ⟨b, o, none⟩ := (fun b o h => Below.cell hSw (p := ⟨b, o, none⟩) h); go_simp; try with_reducible rfl; done)); try simp only [Act.put, List.setIfInBounds_toArray, List.set_cons_zero, List.set_cons_succ])
  (refine lat_now 2 (by rfl) ?_ (by kernel_rfl) (fun _ _ _ h => h) ?_ ?_; rotate_left; (focus (intro wq hSw; have hrd : ∀ b o, b < w.heap.size → wq.cell? ⟨b, o, none⟩ = w.cell? ⟨b, o, none⟩ := (fun b o h => Below.cell hSw (p := ⟨b, o, none⟩) h); go_simp; try with_reducible rfl; done)); try simp only [Act.put, List.setIfInBounds_toArray, List.set_cons_zero, List.set_cons_succ])
  (refine lat_now 3 (by rfl) ?_ (by kernel_rfl) (fun _ _ _ h => h) ?_ ?_; rotate_left; (focus (intro wq hSw; have hrd : ∀ b o, b < w.heap.size → wq.cell? ⟨b, o, none⟩ = w.cell? ⟨b, o, none⟩ := (fun b o h => Below.cell hSw (p := ⟨b, o, none⟩) h); go_simp; try with_reducible rfl; done)); try simp only [Act.put, List.setIfInBounds_toArray, List.set_cons_zero, List.set_cons_succ])
  (refine lat_now 4 (by rfl) ?_ (by kernel_rfl) (fun _ _ _ h => h) ?_ ?_; rotate_left; (focus (intro wq hSw; have hrd : ∀ b o, b < w.heap.size → wq.cell? ⟨b, o, none⟩ = w.cell? ⟨b, o, none⟩ := (fun b o h => Below.cell hSw (p := ⟨b, o, none⟩) h); go_simp; try with_reducible rfl; done)); try simp only [Act.put, List.setIfInBounds_toArray, List.set_cons_zero, List.set_cons_succ])
  (refine lat_now 5 (by rfl) ?_ (by kernel_rfl) (fun _ _ _ h => h) ?_ ?_; rotate_left; (focus (intro wq hSw; have hrd : ∀ b o, b < w.heap.size → wq.cell? ⟨b, o, none⟩ = w.cell? ⟨b, o, none⟩ := (fun b o h => Below.cell hSw (p := ⟨b, o, none⟩) h); go_simp; try with_reducible rfl; done)); try simp only [Act.put, List.setIfInBounds_toArray, List.set_cons_zero, List.set_cons_succ])
  (refine lat_now 6 (by rfl) ?_ (by kernel_rfl) (fun _ _ _ h => h) ?_ ?_; rotate_left; (focus (intro wq hSw; have hrd : ∀ b o, b < w.heap.size → wq.cell? ⟨b, o, none⟩ = w.cell? ⟨b, o, none⟩ := (fun b o h => Below.cell hSw (p := ⟨b, o, none⟩) h); go_simp; try with_reducible rfl; done)); try simp only [Act.put, List.setIfInBounds_toArray, List.set_cons_zero, List.set_cons_succ])
  (refine lat_now 7 (by rfl) ?_ (by kernel_rfl) (fun _ _ _ h => h) ?_ ?_; rotate_left; (focus (intro wq hSw; have hrd : ∀ b o, b < w.heap.size → wq.cell? ⟨b, o, none⟩ = w.cell? ⟨b, o, none⟩ := (fun b o h => Below.cell hSw (p := ⟨b, o, none⟩) h); go_simp; try with_reducible rfl; done)); try simp only [Act.put, List.setIfInBounds_toArray, List.set_cons_zero, List.set_cons_succ])
  refine lat_call 8 (by rfl) (by kernel_rfl) (by rfl) (fun wx hlx KQ hKQ => ?_)
  go_simp
  refine (cloneP_any wx b (M.map memE) (h.nx hlx).2).mono ?_
  rintro e w2 ⟨rfl, he2, hb2⟩
  refine hKQ.out _ _ hb2 ?_
  clear hKQ KQ
  try simp only [Act.put, List.setIfInBounds_toArray, List.set_cons_zero, List.set_cons_succ]
  (refine lat_now 9 (by rfl) ?_ (by kernel_rfl) (fun _ _ _ h => h) ?_ ?_; rotate_left; (focus (intro wq hSw; have hrd : ∀ b o, b < w2.heap.size → wq.cell? ⟨b, o, none⟩ = w2.cell? ⟨b, o, none⟩ := (fun b o h => Below.cell hSw (p := ⟨b, o, none⟩) h); go_simp; try with_reducible rfl; done)); try simp only [Act.put, List.setIfInBounds_toArray, List.set_cons_zero, List.set_cons_succ])
  refine lat_call 10 (by rfl) (by kernel_rfl) (by rfl) (fun wy hly KQ hKQ => ?_)
  go_simp
  have hb3 := (Below.refl wy.heap.size wy).alloc (Nat.le_refl _) (.cells #[.int .i64 pc, .map (some wx.heap.size)] 31)
  have hq := Blk.new wy 31 #[.int .i64 pc, .map (some wx.heap.size)]
  have he3 := (he2.below hly he2.lt).alloc (.cells #[.int .i64 pc, .map (some wx.heap.size)] 31)
  generalize wy.alloc (.cells #[.int .i64 pc, .map (some wx.heap.size)] 31) = w3 at *
  refine hKQ.out _ _ hb3 ?_
  clear hKQ KQ
  try simp only [Act.put, List.setIfInBounds_toArray, List.set_cons_zero, List.set_cons_succ]
  (refine lat_now 11 (by rfl) ?_ (by kernel_rfl) (fun _ _ _ h => h) ?_ ?_; rotate_left; (focus (intro wq hSw; have hrd : ∀ b o, b < w3.heap.size → wq.cell? ⟨b, o, none⟩ = w3.cell? ⟨b, o, none⟩ := (fun b o h => Below.cell hSw (p := ⟨b, o, none⟩) h); go_simp; try with_reducible rfl; done)); try simp only [Act.put, List.setIfInBounds_toArray, List.set_cons_zero, List.set_cons_succ])
  refine lat_done (by kernel_rfl) (fun wz hz => ?_) _
  try refine NoPanic.normal ?_
  go_wp2_with fail
  go_ret
  have hq2 := hq.below hz hq.lt
  have k1 := hlx.size
  have k2 := hb2.size
  have k3 := hly.size
  have hBz : Below w.heap.size w wz := Below.trans hlx (((hb2.mono k1).trans ((Below.mono hly (Nat.le_trans k1 k2)).trans (hb3.mono (by omega)))).trans (Below.mono hz (by have := hb3.size; omega)))
  exact ⟨_, _, rfl, ⟨hq2, he3.below hz he3.lt⟩, by omega, by omega, hBz⟩
end Go.Proofs.Ytejgekoinbdhjaa
