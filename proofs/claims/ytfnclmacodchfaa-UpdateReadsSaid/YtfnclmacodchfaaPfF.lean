/- the document's Canon of prefixes. -/
import Derived.Test.YtfnclmacodchfaaPfE
import Derived.StillTailTactics
namespace Go.Proofs.Ytfnclmacodchfaa
set_option linter.unusedVariables false
open Go.RowKit

set_option maxRecDepth 100000 in
set_option maxHeartbeats 2000000 in
theorem refCanon_lo (w : World) (a n : Int) (h0 : 0 ≤ a) (h1 : a ≤ 4294967295) (hc : n < 0) :
    Calls Try.prog 88 #[.agg #[.int .u32 a, .int .i64 n]] w fun e w' => e = .returned (.agg (pfC (cutA a (clampN n)) (clampN n))) ∧ Below w.heap.size w w' := by
  have hi : (Try.prog.info? 61).map (·.size) = some 2 := by kernel_rfl
  have hkn : (clampN n : Int) = 0 := by unfold clampN; split <;> (try split) <;> omega
  have hk32 := clampN_le n
  have hcc : clampN 0 = clampN n := by unfold clampN; (repeat' split) <;> omega
  have hmk0 := fun (w : World) => refMask_any 0 w
  rw [hcc] at hmk0
  clear hcc
  generalize clampN n = k at *
  have hand := and_cut a k hk32 h0 h1
  have hB := ((Below.refl w.heap.size w).alloc (Nat.le_refl _) (.cells #[.int .u32 a, .int .i64 n] 61)).alloc (by simp) (.cells #[.int .u32 0, .int .i64 0] 61)
  have hp := (Blk.new w 61 #[.int .u32 a, .int .i64 n]).alloc (.cells #[.int .u32 0, .int .i64 0] 61)
  have hr : Blk ((w.alloc (.cells #[.int .u32 a, .int .i64 n] 61)).alloc (.cells #[.int .u32 0, .int .i64 0] 61)) (w.heap.size + 1) 61 #[.int .u32 0, .int .i64 0] := by
    have := Blk.new (w.alloc (.cells #[.int .u32 a, .int .i64 n] 61)) 61 #[.int .u32 0, .int .i64 0]
    simpa using this
  go_enter Try.func88, Try.ntmps88
  go_upto_region 1 with (fail)
  generalize (w.alloc (.cells #[.int .u32 a, .int .i64 n] 61)).alloc (.cells #[.int .u32 0, .int .i64 0] 61) = w1 at *
  have ltp := hp.lt
  have p0 : w1.cell? ⟨w.heap.size, 0, none⟩ = some (.int .u32 a) := hp.cellv 0 rfl
  have p1 : w1.cell? ⟨w.heap.size, 1, none⟩ = some (.int .i64 n) := hp.cellv 1 rfl
  have fp1 := hp.frozen 1
  replace hkn := Lib.hid hkn
  go_upto_region 5 with (fail)
  obtain ⟨hp2, hg1⟩ := blk_store hp 1 (.int .i64 0)
  replace hp2 : Blk (w1.setCell ⟨w.heap.size, 1, none⟩ (.int .i64 0)) w.heap.size 61 #[.int .u32 a, .int .i64 0] := hp2
  generalize w1.setCell ⟨w.heap.size, 1, none⟩ (.int .i64 0) = w2 at *
  have hr1 := hr.grown hg1 (by intro e; injection e with e; omega)
  have hB1 := below_own hB hg1 hB.size (Nat.le_refl _)
  clear p0 p1 fp1 ltp
  have ltp := hp2.lt
  have p0 : w2.cell? ⟨w.heap.size, 0, none⟩ = some (.int .u32 a) := hp2.cellv 0 rfl
  have p1 : w2.cell? ⟨w.heap.size, 1, none⟩ = some (.int .i64 0) := hp2.cellv 1 rfl
  have fp0 := hp2.frozen 0
  obtain ⟨hp3, hg3⟩ := blk_store hp2 0 (.int .u32 (cutA a k))
  replace hp3 : Blk (w2.setCell ⟨w.heap.size, 0, none⟩ (.int .u32 (cutA a k))).drew w.heap.size 61 #[.int .u32 (cutA a k), .int .i64 0] := hp3
  replace hg3 : w2.grownBy (w2.setCell ⟨w.heap.size, 0, none⟩ (.int .u32 (cutA a k))).drew (some w.heap.size) := grown_drew hg3
  replace hp3 := Lib.hid hp3
  replace hg3 := Lib.hid hg3
  have hmk := hmk0 w2.drew
  go_still_tail 7, (by kernel_rfl)
  still_call ((hmk0 _).mono fun _ _ h => ⟨h.1, h.2.symm⟩)
  repeat still_step
  refine wpStill_nil ?_
  change wpList _ _ _ _ _ w2.drew
  go_upto_region 6 with (fail)
  generalize (w2.setCell ⟨w.heap.size, 0, none⟩ (.int .u32 (cutA a k))).drew = w3 at *
  clear p0 p1 fp0 ltp
  have ltp := hp3.out.lt
  have p0 : w3.cell? ⟨w.heap.size, 0, none⟩ = some (.int .u32 (cutA a k)) := hp3.out.cellv 0 rfl
  have p1 : w3.cell? ⟨w.heap.size, 1, none⟩ = some (.int .i64 0) := hp3.out.cellv 1 rfl
  have hr3 := hr1.grown hg3.out (by intro e; injection e with e; omega)
  have hB3 := below_own hB1 hg3.out hB1.size (Nat.le_refl _)
  go_wp2_with (refine wpList_store_blk rfl hr3 61 (.tmp 2) (.tmp 18) rfl rfl rfl rfl hi (by simp [Value.oneCell']) ?_; intro w4 hr4 hg4)
  try rw [Exit.noGoto_ret]
  refine bodyPost_ret (results_c rfl _ rfl (load_blk hr4 Try.underlying61 rfl hi)) rfl ?_
  exact ⟨by unfold pfC; rw [hkn.out], below_own hB3 hg4 hB3.size (by omega)⟩
set_option maxRecDepth 100000 in
set_option maxHeartbeats 2000000 in
theorem refCanon_hi (w : World) (a n : Int) (h0 : 0 ≤ a) (h1 : a ≤ 4294967295) (hc : 32 < n) :
    Calls Try.prog 88 #[.agg #[.int .u32 a, .int .i64 n]] w fun e w' => e = .returned (.agg (pfC (cutA a (clampN n)) (clampN n))) ∧ Below w.heap.size w w' := by
  have hi : (Try.prog.info? 61).map (·.size) = some 2 := by kernel_rfl
  have hkn : (clampN n : Int) = 32 := by unfold clampN; split <;> (try split) <;> omega
  have hk32 := clampN_le n
  have hcc : clampN 32 = clampN n := by unfold clampN; (repeat' split) <;> omega
  have hmk0 := fun (w : World) => refMask_any 32 w
  rw [hcc] at hmk0
  clear hcc
  generalize clampN n = k at *
  have hand := and_cut a k hk32 h0 h1
  have hB := ((Below.refl w.heap.size w).alloc (Nat.le_refl _) (.cells #[.int .u32 a, .int .i64 n] 61)).alloc (by simp) (.cells #[.int .u32 0, .int .i64 0] 61)
  have hp := (Blk.new w 61 #[.int .u32 a, .int .i64 n]).alloc (.cells #[.int .u32 0, .int .i64 0] 61)
  have hr : Blk ((w.alloc (.cells #[.int .u32 a, .int .i64 n] 61)).alloc (.cells #[.int .u32 0, .int .i64 0] 61)) (w.heap.size + 1) 61 #[.int .u32 0, .int .i64 0] := by
    have := Blk.new (w.alloc (.cells #[.int .u32 a, .int .i64 n] 61)) 61 #[.int .u32 0, .int .i64 0]
    simpa using this
  go_enter Try.func88, Try.ntmps88
  go_upto_region 1 with (fail)
  generalize (w.alloc (.cells #[.int .u32 a, .int .i64 n] 61)).alloc (.cells #[.int .u32 0, .int .i64 0] 61) = w1 at *
  have ltp := hp.lt
  have p0 : w1.cell? ⟨w.heap.size, 0, none⟩ = some (.int .u32 a) := hp.cellv 0 rfl
  have p1 : w1.cell? ⟨w.heap.size, 1, none⟩ = some (.int .i64 n) := hp.cellv 1 rfl
  have fp1 := hp.frozen 1
  replace hkn := Lib.hid hkn
  go_upto_region 5 with (fail)
  obtain ⟨hp2, hg1⟩ := blk_store hp 1 (.int .i64 32)
  replace hp2 : Blk (w1.setCell ⟨w.heap.size, 1, none⟩ (.int .i64 32)) w.heap.size 61 #[.int .u32 a, .int .i64 32] := hp2
  generalize w1.setCell ⟨w.heap.size, 1, none⟩ (.int .i64 32) = w2 at *
  have hr1 := hr.grown hg1 (by intro e; injection e with e; omega)
  have hB1 := below_own hB hg1 hB.size (Nat.le_refl _)
  clear p0 p1 fp1 ltp
  have ltp := hp2.lt
  have p0 : w2.cell? ⟨w.heap.size, 0, none⟩ = some (.int .u32 a) := hp2.cellv 0 rfl
  have p1 : w2.cell? ⟨w.heap.size, 1, none⟩ = some (.int .i64 32) := hp2.cellv 1 rfl
  have fp0 := hp2.frozen 0
  obtain ⟨hp3, hg3⟩ := blk_store hp2 0 (.int .u32 (cutA a k))
  replace hp3 : Blk (w2.setCell ⟨w.heap.size, 0, none⟩ (.int .u32 (cutA a k))).drew w.heap.size 61 #[.int .u32 (cutA a k), .int .i64 32] := hp3
  replace hg3 : w2.grownBy (w2.setCell ⟨w.heap.size, 0, none⟩ (.int .u32 (cutA a k))).drew (some w.heap.size) := grown_drew hg3
  replace hp3 := Lib.hid hp3
  replace hg3 := Lib.hid hg3
  have hmk := hmk0 w2.drew
  go_still_tail 7, (by kernel_rfl)
  still_call ((hmk0 _).mono fun _ _ h => ⟨h.1, h.2.symm⟩)
  repeat still_step
  refine wpStill_nil ?_
  change wpList _ _ _ _ _ w2.drew
  go_upto_region 6 with (fail)
  generalize (w2.setCell ⟨w.heap.size, 0, none⟩ (.int .u32 (cutA a k))).drew = w3 at *
  clear p0 p1 fp0 ltp
  have ltp := hp3.out.lt
  have p0 : w3.cell? ⟨w.heap.size, 0, none⟩ = some (.int .u32 (cutA a k)) := hp3.out.cellv 0 rfl
  have p1 : w3.cell? ⟨w.heap.size, 1, none⟩ = some (.int .i64 32) := hp3.out.cellv 1 rfl
  have hr3 := hr1.grown hg3.out (by intro e; injection e with e; omega)
  have hB3 := below_own hB1 hg3.out hB1.size (Nat.le_refl _)
  go_wp2_with (refine wpList_store_blk rfl hr3 61 (.tmp 2) (.tmp 18) rfl rfl rfl rfl hi (by simp [Value.oneCell']) ?_; intro w4 hr4 hg4)
  try rw [Exit.noGoto_ret]
  refine bodyPost_ret (results_c rfl _ rfl (load_blk hr4 Try.underlying61 rfl hi)) rfl ?_
  exact ⟨by unfold pfC; rw [hkn.out], below_own hB3 hg4 hB3.size (by omega)⟩
set_option maxRecDepth 100000 in
set_option maxHeartbeats 2000000 in
theorem refCanon_in (w : World) (a n : Int) (h0 : 0 ≤ a) (h1 : a ≤ 4294967295) (hc0 : 0 ≤ n) (hc : n ≤ 32) :
    Calls Try.prog 88 #[.agg #[.int .u32 a, .int .i64 n]] w fun e w' => e = .returned (.agg (pfC (cutA a (clampN n)) (clampN n))) ∧ Below w.heap.size w w' := by
  have hi : (Try.prog.info? 61).map (·.size) = some 2 := by kernel_rfl
  have hkn : (clampN n : Int) = n := by unfold clampN; split <;> (try split) <;> omega
  have hk32 := clampN_le n
  have hcc : clampN n = clampN n := by unfold clampN; (repeat' split) <;> omega
  have hmk0 := fun (w : World) => refMask_any n w
  rw [hcc] at hmk0
  clear hcc
  generalize clampN n = k at *
  have hand := and_cut a k hk32 h0 h1
  have hB := ((Below.refl w.heap.size w).alloc (Nat.le_refl _) (.cells #[.int .u32 a, .int .i64 n] 61)).alloc (by simp) (.cells #[.int .u32 0, .int .i64 0] 61)
  have hp := (Blk.new w 61 #[.int .u32 a, .int .i64 n]).alloc (.cells #[.int .u32 0, .int .i64 0] 61)
  have hr : Blk ((w.alloc (.cells #[.int .u32 a, .int .i64 n] 61)).alloc (.cells #[.int .u32 0, .int .i64 0] 61)) (w.heap.size + 1) 61 #[.int .u32 0, .int .i64 0] := by
    have := Blk.new (w.alloc (.cells #[.int .u32 a, .int .i64 n] 61)) 61 #[.int .u32 0, .int .i64 0]
    simpa using this
  go_enter Try.func88, Try.ntmps88
  go_upto_region 1 with (fail)
  generalize (w.alloc (.cells #[.int .u32 a, .int .i64 n] 61)).alloc (.cells #[.int .u32 0, .int .i64 0] 61) = w1 at *
  have ltp := hp.lt
  have p0 : w1.cell? ⟨w.heap.size, 0, none⟩ = some (.int .u32 a) := hp.cellv 0 rfl
  have p1 : w1.cell? ⟨w.heap.size, 1, none⟩ = some (.int .i64 n) := hp.cellv 1 rfl
  have fp1 := hp.frozen 1
  replace hkn := Lib.hid hkn
  have hd1 : (n < 0) = False := by simp; omega
  have hd2 : (32 < n) = False := by simp; omega
  clear hd1 hd2
  go_upto_region 5 with (fail)
  have hp2 := hp
  have hg1 := grown_refl w1 (some w.heap.size)
  have hr1 := hr
  have hB1 := hB
  clear p0 p1 fp1 ltp
  have ltp := hp2.lt
  have p0 : w1.cell? ⟨w.heap.size, 0, none⟩ = some (.int .u32 a) := hp2.cellv 0 rfl
  have p1 : w1.cell? ⟨w.heap.size, 1, none⟩ = some (.int .i64 n) := hp2.cellv 1 rfl
  have fp0 := hp2.frozen 0
  obtain ⟨hp3, hg3⟩ := blk_store hp2 0 (.int .u32 (cutA a k))
  replace hp3 : Blk (w1.setCell ⟨w.heap.size, 0, none⟩ (.int .u32 (cutA a k))).drew w.heap.size 61 #[.int .u32 (cutA a k), .int .i64 n] := hp3
  replace hg3 : w1.grownBy (w1.setCell ⟨w.heap.size, 0, none⟩ (.int .u32 (cutA a k))).drew (some w.heap.size) := grown_drew hg3
  replace hp3 := Lib.hid hp3
  replace hg3 := Lib.hid hg3
  have hmk := hmk0 w1.drew
  go_still_tail 7, (by kernel_rfl)
  still_call ((hmk0 _).mono fun _ _ h => ⟨h.1, h.2.symm⟩)
  repeat still_step
  refine wpStill_nil ?_
  change wpList _ _ _ _ _ w1.drew
  go_upto_region 6 with (fail)
  generalize (w1.setCell ⟨w.heap.size, 0, none⟩ (.int .u32 (cutA a k))).drew = w3 at *
  clear p0 p1 fp0 ltp
  have ltp := hp3.out.lt
  have p0 : w3.cell? ⟨w.heap.size, 0, none⟩ = some (.int .u32 (cutA a k)) := hp3.out.cellv 0 rfl
  have p1 : w3.cell? ⟨w.heap.size, 1, none⟩ = some (.int .i64 n) := hp3.out.cellv 1 rfl
  have hr3 := hr1.grown hg3.out (by intro e; injection e with e; omega)
  have hB3 := below_own hB1 hg3.out hB1.size (Nat.le_refl _)
  go_wp2_with (refine wpList_store_blk rfl hr3 61 (.tmp 2) (.tmp 18) rfl rfl rfl rfl hi (by simp [Value.oneCell']) ?_; intro w4 hr4 hg4)
  try rw [Exit.noGoto_ret]
  refine bodyPost_ret (results_c rfl _ rfl (load_blk hr4 Try.underlying61 rfl hi)) rfl ?_
  exact ⟨by unfold pfC; rw [hkn.out], below_own hB3 hg4 hB3.size (by omega)⟩
theorem refCanon_any (w : World) (a n : Int) (h0 : 0 ≤ a) (h1 : a ≤ 4294967295) :
    Calls Try.prog 88 #[.agg #[.int .u32 a, .int .i64 n]] w fun e w' => e = .returned (.agg (pfC (cutA a (clampN n)) (clampN n))) ∧ Below w.heap.size w w' := by
  by_cases hl : n < 0
  · exact refCanon_lo w a n h0 h1 hl
  by_cases hh : 32 < n
  · exact refCanon_hi w a n h0 h1 hh
  exact refCanon_in w a n h0 h1 (by omega) (by omega)
end Go.Proofs.Ytfnclmacodchfaa
