/- prefix: Canon. -/
import Derived.Test.YtfnclmacodchfaaPfA
import Derived.Deep.Cut
namespace Go.Proofs.Ytfnclmacodchfaa
set_option linter.unusedVariables false
open Go.RowKit

def pfC (a : Int) (n : Int) : Array Value := #[.int .u32 a, .int .i64 n]
set_option maxRecDepth 100000 in
set_option maxHeartbeats 2000000 in
theorem canon_lo (w : World) (a n : Int) (h0 : 0 ≤ a) (h1 : a ≤ 4294967295) (hc : n < 0) :
    Calls Try.prog 63 #[.agg #[.int .u32 a, .int .i64 n]] w fun e w' => e = .returned (.agg (pfC (cutA a (clampN n)) (clampN n))) ∧ Below w.heap.size w w' := by
  have hi : (Try.prog.info? 61).map (·.size) = some 2 := by kernel_rfl
  have hkn : (clampN n : Int) = 0 := by unfold clampN; split <;> (try split) <;> omega
  have hk32 := clampN_le n
  generalize clampN n = k at *
  have hand := and_cut a k hk32 h0 h1
  have hB := ((Below.refl w.heap.size w).alloc (Nat.le_refl _) (.cells #[.int .u32 a, .int .i64 n] 61)).alloc (by simp) (.cells #[.int .u32 0, .int .i64 0] 61)
  have hp := (Blk.new w 61 #[.int .u32 a, .int .i64 n]).alloc (.cells #[.int .u32 0, .int .i64 0] 61)
  have hr : Blk ((w.alloc (.cells #[.int .u32 a, .int .i64 n] 61)).alloc (.cells #[.int .u32 0, .int .i64 0] 61)) (w.heap.size + 1) 61 #[.int .u32 0, .int .i64 0] := by
    have := Blk.new (w.alloc (.cells #[.int .u32 a, .int .i64 n] 61)) 61 #[.int .u32 0, .int .i64 0]
    simpa using this
  go_enter Try.func63, Try.ntmps63
  go_upto_region 1 with (fail)
  generalize (w.alloc (.cells #[.int .u32 a, .int .i64 n] 61)).alloc (.cells #[.int .u32 0, .int .i64 0] 61) = w1 at *
  have ltp := hp.lt
  have p0 : w1.cell? ⟨w.heap.size, 0, none⟩ = some (.int .u32 a) := hp.cellv 0 rfl
  have p1 : w1.cell? ⟨w.heap.size, 1, none⟩ = some (.int .i64 n) := hp.cellv 1 rfl
  have hmk := mask_in k hk32 w1.drew
  rw [hkn] at hmk
  replace hkn := Lib.hid hkn
  go_upto_region 2 with (fail)
  -- region 2: 0 1 2 3C 4 5 6 7M
  try refine wp_region_noPanic ?_
  have hs1r : w1.grownBy w1.drew (some (w.heap.size + 1)) := grown_drew (grown_refl _ _)
  refine wp_region_held_drew (S := fun w' => w1.grownBy w' (some (w.heap.size + 1))) (by kernel_rfl) hs1r (fun _ => ?_)
  (refine held_takeA 0 (by rfl) ?_ (by kernel_rfl) (fun _ _ _ h => h) hs1r ?_ ?_; rotate_left; (focus (intro wq hSw; have hrd : ∀ b' o, b' < w1.heap.size → b' ≠ (w.heap.size + 1) → wq.cell? ⟨b', o, none⟩ = w1.cell? ⟨b', o, none⟩ := (fun b' o h hne => grown_cell hSw h hne); go_simp; try with_reducible rfl; done)); try simp only [Act.put, List.setIfInBounds_toArray, List.set_cons_zero, List.set_cons_succ])
  (refine held_takeA 1 (by rfl) ?_ (by kernel_rfl) (fun _ _ _ h => h) hs1r ?_ ?_; rotate_left; (focus (intro wq hSw; have hrd : ∀ b' o, b' < w1.heap.size → b' ≠ (w.heap.size + 1) → wq.cell? ⟨b', o, none⟩ = w1.cell? ⟨b', o, none⟩ := (fun b' o h hne => grown_cell hSw h hne); go_simp; try with_reducible rfl; done)); try simp only [Act.put, List.setIfInBounds_toArray, List.set_cons_zero, List.set_cons_succ])
  (refine held_takeA 2 (by rfl) ?_ (by kernel_rfl) (fun _ _ _ h => h) hs1r ?_ ?_; rotate_left; (focus (intro wq hSw; have hrd : ∀ b' o, b' < w1.heap.size → b' ≠ (w.heap.size + 1) → wq.cell? ⟨b', o, none⟩ = w1.cell? ⟨b', o, none⟩ := (fun b' o h hne => grown_cell hSw h hne); go_simp; try with_reducible rfl; done)); try simp only [Act.put, List.setIfInBounds_toArray, List.set_cons_zero, List.set_cons_succ])
  (refine held_takeA 5 (by rfl) ?_ (by kernel_rfl) (fun _ _ _ h => h) hs1r ?_ ?_; rotate_left; (focus (intro wq hSw; have hrd : ∀ b' o, b' < w1.heap.size → b' ≠ (w.heap.size + 1) → wq.cell? ⟨b', o, none⟩ = w1.cell? ⟨b', o, none⟩ := (fun b' o h hne => grown_cell hSw h hne); go_simp; try with_reducible rfl; done)); try simp only [Act.put, List.setIfInBounds_toArray, List.set_cons_zero, List.set_cons_succ])
  refine held_callA 3 (by rfl) (by kernel_rfl) (by rfl) (fun KQ hKQ => ?_)
  go_simp
  refine hmk.mono ?_
  rintro e w' ⟨rfl, rfl⟩
  have hs2r := hs1r
  refine hKQ.out _ _ hs2r ?_
  clear hKQ KQ
  try simp only [Act.put, List.setIfInBounds_toArray, List.set_cons_zero, List.set_cons_succ]
  (refine held_takeA 4 (by rfl) ?_ (by kernel_rfl) (fun _ _ _ h => h) hs2r ?_ ?_; rotate_left; (focus (intro wq hSw; have hrd : ∀ b' o, b' < w1.heap.size → b' ≠ (w.heap.size + 1) → wq.cell? ⟨b', o, none⟩ = w1.cell? ⟨b', o, none⟩ := (fun b' o h hne => grown_cell hSw h hne); go_simp; try with_reducible rfl; done)); try simp only [Act.put, List.setIfInBounds_toArray, List.set_cons_zero, List.set_cons_succ])
  (refine held_takeA 6 (by rfl) ?_ (by kernel_rfl) (fun _ _ _ h => h) hs2r ?_ ?_; rotate_left; (focus (intro wq hSw; have hrd : ∀ b' o, b' < w1.heap.size → b' ≠ (w.heap.size + 1) → wq.cell? ⟨b', o, none⟩ = w1.cell? ⟨b', o, none⟩ := (fun b' o h hne => grown_cell hSw h hne); go_simp; try with_reducible rfl; done)); try simp only [Act.put, List.setIfInBounds_toArray, List.set_cons_zero, List.set_cons_succ])
  refine held_callA 7 (by rfl) (by kernel_rfl) (by rfl) (fun KQ hKQ => ?_)
  refine wp_store_blk hr.drew 61 (.tmp 2) (.tmp 14) (by rfl) (by rfl) (by rfl) (by rfl) (by exact hi) (by simp [Value.oneCell']) ?_
  intro wy hr2 hg2
  have hg3 := grown_trans hs2r hg2
  have hs3r := hg3
  refine hKQ.out _ _ hs3r ?_
  clear hKQ KQ
  try simp only [Act.put]
  refine wpAnyH_done (by kernel_rfl) ?_ _
  try refine NoPanic.normal ?_
  go_wp2_with fail
  try rw [Exit.noGoto_ret]
  refine bodyPost_ret (results_c rfl _ rfl (load_blk hr2 Try.underlying61 rfl hi)) rfl ?_
  exact ⟨by unfold pfC; rw [hkn.out], below_own hB hg3 hB.size (by omega)⟩
set_option maxRecDepth 100000 in
set_option maxHeartbeats 2000000 in
theorem canon_hi (w : World) (a n : Int) (h0 : 0 ≤ a) (h1 : a ≤ 4294967295) (hc : 32 < n) :
    Calls Try.prog 63 #[.agg #[.int .u32 a, .int .i64 n]] w fun e w' => e = .returned (.agg (pfC (cutA a (clampN n)) (clampN n))) ∧ Below w.heap.size w w' := by
  have hi : (Try.prog.info? 61).map (·.size) = some 2 := by kernel_rfl
  have hkn : (clampN n : Int) = 32 := by unfold clampN; split <;> (try split) <;> omega
  have hk32 := clampN_le n
  generalize clampN n = k at *
  have hand := and_cut a k hk32 h0 h1
  have hB := ((Below.refl w.heap.size w).alloc (Nat.le_refl _) (.cells #[.int .u32 a, .int .i64 n] 61)).alloc (by simp) (.cells #[.int .u32 0, .int .i64 0] 61)
  have hp := (Blk.new w 61 #[.int .u32 a, .int .i64 n]).alloc (.cells #[.int .u32 0, .int .i64 0] 61)
  have hr : Blk ((w.alloc (.cells #[.int .u32 a, .int .i64 n] 61)).alloc (.cells #[.int .u32 0, .int .i64 0] 61)) (w.heap.size + 1) 61 #[.int .u32 0, .int .i64 0] := by
    have := Blk.new (w.alloc (.cells #[.int .u32 a, .int .i64 n] 61)) 61 #[.int .u32 0, .int .i64 0]
    simpa using this
  go_enter Try.func63, Try.ntmps63
  go_upto_region 1 with (fail)
  generalize (w.alloc (.cells #[.int .u32 a, .int .i64 n] 61)).alloc (.cells #[.int .u32 0, .int .i64 0] 61) = w1 at *
  have ltp := hp.lt
  have p0 : w1.cell? ⟨w.heap.size, 0, none⟩ = some (.int .u32 a) := hp.cellv 0 rfl
  have p1 : w1.cell? ⟨w.heap.size, 1, none⟩ = some (.int .i64 n) := hp.cellv 1 rfl
  have hmk := mask_in k hk32 w1.drew
  rw [hkn] at hmk
  replace hkn := Lib.hid hkn
  go_upto_region 2 with (fail)
  -- region 2: 0 1 2 3C 4 5 6 7M
  try refine wp_region_noPanic ?_
  have hs4r : w1.grownBy w1.drew (some (w.heap.size + 1)) := grown_drew (grown_refl _ _)
  refine wp_region_held_drew (S := fun w' => w1.grownBy w' (some (w.heap.size + 1))) (by kernel_rfl) hs4r (fun _ => ?_)
  (refine held_takeA 0 (by rfl) ?_ (by kernel_rfl) (fun _ _ _ h => h) hs4r ?_ ?_; rotate_left; (focus (intro wq hSw; have hrd : ∀ b' o, b' < w1.heap.size → b' ≠ (w.heap.size + 1) → wq.cell? ⟨b', o, none⟩ = w1.cell? ⟨b', o, none⟩ := (fun b' o h hne => grown_cell hSw h hne); go_simp; try with_reducible rfl; done)); try simp only [Act.put, List.setIfInBounds_toArray, List.set_cons_zero, List.set_cons_succ])
  (refine held_takeA 1 (by rfl) ?_ (by kernel_rfl) (fun _ _ _ h => h) hs4r ?_ ?_; rotate_left; (focus (intro wq hSw; have hrd : ∀ b' o, b' < w1.heap.size → b' ≠ (w.heap.size + 1) → wq.cell? ⟨b', o, none⟩ = w1.cell? ⟨b', o, none⟩ := (fun b' o h hne => grown_cell hSw h hne); go_simp; try with_reducible rfl; done)); try simp only [Act.put, List.setIfInBounds_toArray, List.set_cons_zero, List.set_cons_succ])
  (refine held_takeA 2 (by rfl) ?_ (by kernel_rfl) (fun _ _ _ h => h) hs4r ?_ ?_; rotate_left; (focus (intro wq hSw; have hrd : ∀ b' o, b' < w1.heap.size → b' ≠ (w.heap.size + 1) → wq.cell? ⟨b', o, none⟩ = w1.cell? ⟨b', o, none⟩ := (fun b' o h hne => grown_cell hSw h hne); go_simp; try with_reducible rfl; done)); try simp only [Act.put, List.setIfInBounds_toArray, List.set_cons_zero, List.set_cons_succ])
  (refine held_takeA 5 (by rfl) ?_ (by kernel_rfl) (fun _ _ _ h => h) hs4r ?_ ?_; rotate_left; (focus (intro wq hSw; have hrd : ∀ b' o, b' < w1.heap.size → b' ≠ (w.heap.size + 1) → wq.cell? ⟨b', o, none⟩ = w1.cell? ⟨b', o, none⟩ := (fun b' o h hne => grown_cell hSw h hne); go_simp; try with_reducible rfl; done)); try simp only [Act.put, List.setIfInBounds_toArray, List.set_cons_zero, List.set_cons_succ])
  refine held_callA 3 (by rfl) (by kernel_rfl) (by rfl) (fun KQ hKQ => ?_)
  go_simp
  refine hmk.mono ?_
  rintro e w' ⟨rfl, rfl⟩
  have hs5r := hs4r
  refine hKQ.out _ _ hs5r ?_
  clear hKQ KQ
  try simp only [Act.put, List.setIfInBounds_toArray, List.set_cons_zero, List.set_cons_succ]
  (refine held_takeA 4 (by rfl) ?_ (by kernel_rfl) (fun _ _ _ h => h) hs5r ?_ ?_; rotate_left; (focus (intro wq hSw; have hrd : ∀ b' o, b' < w1.heap.size → b' ≠ (w.heap.size + 1) → wq.cell? ⟨b', o, none⟩ = w1.cell? ⟨b', o, none⟩ := (fun b' o h hne => grown_cell hSw h hne); go_simp; try with_reducible rfl; done)); try simp only [Act.put, List.setIfInBounds_toArray, List.set_cons_zero, List.set_cons_succ])
  (refine held_takeA 6 (by rfl) ?_ (by kernel_rfl) (fun _ _ _ h => h) hs5r ?_ ?_; rotate_left; (focus (intro wq hSw; have hrd : ∀ b' o, b' < w1.heap.size → b' ≠ (w.heap.size + 1) → wq.cell? ⟨b', o, none⟩ = w1.cell? ⟨b', o, none⟩ := (fun b' o h hne => grown_cell hSw h hne); go_simp; try with_reducible rfl; done)); try simp only [Act.put, List.setIfInBounds_toArray, List.set_cons_zero, List.set_cons_succ])
  refine held_callA 7 (by rfl) (by kernel_rfl) (by rfl) (fun KQ hKQ => ?_)
  refine wp_store_blk hr.drew 61 (.tmp 2) (.tmp 14) (by rfl) (by rfl) (by rfl) (by rfl) (by exact hi) (by simp [Value.oneCell']) ?_
  intro wy hr2 hg2
  have hg3 := grown_trans hs5r hg2
  have hs6r := hg3
  refine hKQ.out _ _ hs6r ?_
  clear hKQ KQ
  try simp only [Act.put]
  refine wpAnyH_done (by kernel_rfl) ?_ _
  try refine NoPanic.normal ?_
  go_wp2_with fail
  try rw [Exit.noGoto_ret]
  refine bodyPost_ret (results_c rfl _ rfl (load_blk hr2 Try.underlying61 rfl hi)) rfl ?_
  exact ⟨by unfold pfC; rw [hkn.out], below_own hB hg3 hB.size (by omega)⟩
set_option maxRecDepth 100000 in
set_option maxHeartbeats 2000000 in
theorem canon_in (w : World) (a n : Int) (h0 : 0 ≤ a) (h1 : a ≤ 4294967295) (hc0 : 0 ≤ n) (hc : n ≤ 32) :
    Calls Try.prog 63 #[.agg #[.int .u32 a, .int .i64 n]] w fun e w' => e = .returned (.agg (pfC (cutA a (clampN n)) (clampN n))) ∧ Below w.heap.size w w' := by
  have hi : (Try.prog.info? 61).map (·.size) = some 2 := by kernel_rfl
  have hkn : (clampN n : Int) = n := by unfold clampN; split <;> (try split) <;> omega
  have hk32 := clampN_le n
  generalize clampN n = k at *
  have hand := and_cut a k hk32 h0 h1
  have hB := ((Below.refl w.heap.size w).alloc (Nat.le_refl _) (.cells #[.int .u32 a, .int .i64 n] 61)).alloc (by simp) (.cells #[.int .u32 0, .int .i64 0] 61)
  have hp := (Blk.new w 61 #[.int .u32 a, .int .i64 n]).alloc (.cells #[.int .u32 0, .int .i64 0] 61)
  have hr : Blk ((w.alloc (.cells #[.int .u32 a, .int .i64 n] 61)).alloc (.cells #[.int .u32 0, .int .i64 0] 61)) (w.heap.size + 1) 61 #[.int .u32 0, .int .i64 0] := by
    have := Blk.new (w.alloc (.cells #[.int .u32 a, .int .i64 n] 61)) 61 #[.int .u32 0, .int .i64 0]
    simpa using this
  go_enter Try.func63, Try.ntmps63
  go_upto_region 1 with (fail)
  generalize (w.alloc (.cells #[.int .u32 a, .int .i64 n] 61)).alloc (.cells #[.int .u32 0, .int .i64 0] 61) = w1 at *
  have ltp := hp.lt
  have p0 : w1.cell? ⟨w.heap.size, 0, none⟩ = some (.int .u32 a) := hp.cellv 0 rfl
  have p1 : w1.cell? ⟨w.heap.size, 1, none⟩ = some (.int .i64 n) := hp.cellv 1 rfl
  have hmk := mask_in k hk32 w1.drew
  rw [hkn] at hmk
  replace hkn := Lib.hid hkn
  go_upto_region 2 with (fail)
  -- region 2: 0 1 2 3C 4 5 6 7M
  try refine wp_region_noPanic ?_
  have hs7r : w1.grownBy w1.drew (some (w.heap.size + 1)) := grown_drew (grown_refl _ _)
  refine wp_region_held_drew (S := fun w' => w1.grownBy w' (some (w.heap.size + 1))) (by kernel_rfl) hs7r (fun _ => ?_)
  (refine held_takeA 0 (by rfl) ?_ (by kernel_rfl) (fun _ _ _ h => h) hs7r ?_ ?_; rotate_left; (focus (intro wq hSw; have hrd : ∀ b' o, b' < w1.heap.size → b' ≠ (w.heap.size + 1) → wq.cell? ⟨b', o, none⟩ = w1.cell? ⟨b', o, none⟩ := (fun b' o h hne => grown_cell hSw h hne); go_simp; try with_reducible rfl; done)); try simp only [Act.put, List.setIfInBounds_toArray, List.set_cons_zero, List.set_cons_succ])
  (refine held_takeA 1 (by rfl) ?_ (by kernel_rfl) (fun _ _ _ h => h) hs7r ?_ ?_; rotate_left; (focus (intro wq hSw; have hrd : ∀ b' o, b' < w1.heap.size → b' ≠ (w.heap.size + 1) → wq.cell? ⟨b', o, none⟩ = w1.cell? ⟨b', o, none⟩ := (fun b' o h hne => grown_cell hSw h hne); go_simp; try with_reducible rfl; done)); try simp only [Act.put, List.setIfInBounds_toArray, List.set_cons_zero, List.set_cons_succ])
  (refine held_takeA 2 (by rfl) ?_ (by kernel_rfl) (fun _ _ _ h => h) hs7r ?_ ?_; rotate_left; (focus (intro wq hSw; have hrd : ∀ b' o, b' < w1.heap.size → b' ≠ (w.heap.size + 1) → wq.cell? ⟨b', o, none⟩ = w1.cell? ⟨b', o, none⟩ := (fun b' o h hne => grown_cell hSw h hne); go_simp; try with_reducible rfl; done)); try simp only [Act.put, List.setIfInBounds_toArray, List.set_cons_zero, List.set_cons_succ])
  (refine held_takeA 5 (by rfl) ?_ (by kernel_rfl) (fun _ _ _ h => h) hs7r ?_ ?_; rotate_left; (focus (intro wq hSw; have hrd : ∀ b' o, b' < w1.heap.size → b' ≠ (w.heap.size + 1) → wq.cell? ⟨b', o, none⟩ = w1.cell? ⟨b', o, none⟩ := (fun b' o h hne => grown_cell hSw h hne); go_simp; try with_reducible rfl; done)); try simp only [Act.put, List.setIfInBounds_toArray, List.set_cons_zero, List.set_cons_succ])
  refine held_callA 3 (by rfl) (by kernel_rfl) (by rfl) (fun KQ hKQ => ?_)
  go_simp
  refine hmk.mono ?_
  rintro e w' ⟨rfl, rfl⟩
  have hs8r := hs7r
  refine hKQ.out _ _ hs8r ?_
  clear hKQ KQ
  try simp only [Act.put, List.setIfInBounds_toArray, List.set_cons_zero, List.set_cons_succ]
  (refine held_takeA 4 (by rfl) ?_ (by kernel_rfl) (fun _ _ _ h => h) hs8r ?_ ?_; rotate_left; (focus (intro wq hSw; have hrd : ∀ b' o, b' < w1.heap.size → b' ≠ (w.heap.size + 1) → wq.cell? ⟨b', o, none⟩ = w1.cell? ⟨b', o, none⟩ := (fun b' o h hne => grown_cell hSw h hne); go_simp; try with_reducible rfl; done)); try simp only [Act.put, List.setIfInBounds_toArray, List.set_cons_zero, List.set_cons_succ])
  (refine held_takeA 6 (by rfl) ?_ (by kernel_rfl) (fun _ _ _ h => h) hs8r ?_ ?_; rotate_left; (focus (intro wq hSw; have hrd : ∀ b' o, b' < w1.heap.size → b' ≠ (w.heap.size + 1) → wq.cell? ⟨b', o, none⟩ = w1.cell? ⟨b', o, none⟩ := (fun b' o h hne => grown_cell hSw h hne); go_simp; try with_reducible rfl; done)); try simp only [Act.put, List.setIfInBounds_toArray, List.set_cons_zero, List.set_cons_succ])
  refine held_callA 7 (by rfl) (by kernel_rfl) (by rfl) (fun KQ hKQ => ?_)
  refine wp_store_blk hr.drew 61 (.tmp 2) (.tmp 14) (by rfl) (by rfl) (by rfl) (by rfl) (by exact hi) (by simp [Value.oneCell']) ?_
  intro wy hr2 hg2
  have hg3 := grown_trans hs8r hg2
  have hs9r := hg3
  refine hKQ.out _ _ hs9r ?_
  clear hKQ KQ
  try simp only [Act.put]
  refine wpAnyH_done (by kernel_rfl) ?_ _
  try refine NoPanic.normal ?_
  go_wp2_with fail
  try rw [Exit.noGoto_ret]
  refine bodyPost_ret (results_c rfl _ rfl (load_blk hr2 Try.underlying61 rfl hi)) rfl ?_
  exact ⟨by unfold pfC; rw [hkn.out], below_own hB hg3 hB.size (by omega)⟩
theorem canon_any (w : World) (a n : Int) (h0 : 0 ≤ a) (h1 : a ≤ 4294967295) :
    Calls Try.prog 63 #[.agg #[.int .u32 a, .int .i64 n]] w fun e w' => e = .returned (.agg (pfC (cutA a (clampN n)) (clampN n))) ∧ Below w.heap.size w w' := by
  by_cases hl : n < 0
  · exact canon_lo w a n h0 h1 hl
  by_cases hh : 32 < n
  · exact canon_hi w a n h0 h1 hh
  exact canon_in w a n h0 h1 (by omega) (by omega)
end Go.Proofs.Ytfnclmacodchfaa
