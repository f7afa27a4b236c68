/- attr: what an attribute of a type must be. -/
import Derived.Test.YtfnclmacodchfaaAtK
import Derived.Deep.Cut
namespace Go.Proofs.Ytfnclmacodchfaa
set_option linter.unusedVariables false
open Go.RowKit

set_option maxHeartbeats 2000000 in
theorem rule1_any (w : World) (g : Nat) : Calls Try.prog 103 #[.pointer (some ⟨g, 0, none⟩), .int .i64 1] w fun e w' => e = .returned (.tuple #[.agg #[.int .i64 64, .int .i64 1, .func (.func 108) #[] #[.pointer (some ⟨w.heap.size, 0, none⟩)]], .bool true]) ∧ Below w.heap.size w w' ∧ Blk w' w.heap.size 139 #[.pointer (some ⟨g, 0, none⟩)] := by
  have hi : (Try.prog.info? 142).map (·.size) = some 3 := by kernel_rfl
  have hB := ((Below.refl w.heap.size w).alloc (Nat.le_refl _) (.cells #[.pointer (some ⟨g, 0, none⟩)] 139)).alloc (by simp) (.cells #[.int .i64 0, .int .i64 0, .nilFunc] 142)
  have hbx := (Blk.new w 139 #[.pointer (some ⟨g, 0, none⟩)]).alloc (.cells #[.int .i64 0, .int .i64 0, .nilFunc] 142)
  have hr : Blk ((w.alloc (.cells #[.pointer (some ⟨g, 0, none⟩)] 139)).alloc (.cells #[.int .i64 0, .int .i64 0, .nilFunc] 142)) (w.heap.size + 1) 142 #[.int .i64 0, .int .i64 0, .nilFunc] := by
    have := Blk.new (w.alloc (.cells #[.pointer (some ⟨g, 0, none⟩)] 139)) 142 #[.int .i64 0, .int .i64 0, .nilFunc]
    simpa using this
  go_enter Try.func103, Try.ntmps103
  go_upto_region 1 with (fail)
  generalize (w.alloc (.cells #[.pointer (some ⟨g, 0, none⟩)] 139)).alloc (.cells #[.int .i64 0, .int .i64 0, .nilFunc] 142) = w1 at *
  go_wp2_with (refine wpList_store_blk rfl hr 142 (.tmp 4) (.tmp 10) rfl rfl rfl rfl hi (by simp [Value.oneCell']) ?_; intro w2 hr2 hg2)
  try rw [Exit.noGoto_ret]
  try simp only [Exit.inBlock, Exit.then]
  refine bodyPost_ret (results_ct rfl _ rfl (load_blk hr2 Try.underlying142 rfl hi)) rfl ?_
  exact ⟨rfl, below_own hB hg2 hB.size (by omega), hbx.grown hg2 (by intro e; injection e with e; omega)⟩
set_option maxHeartbeats 2000000 in
theorem rule2_any (w : World) (g : Nat) : Calls Try.prog 103 #[.pointer (some ⟨g, 0, none⟩), .int .i64 2] w fun e w' => e = .returned (.tuple #[.agg #[.int .i64 64, .int .i64 0, .func (.func 109) #[] #[.pointer (some ⟨w.heap.size, 0, none⟩)]], .bool true]) ∧ Below w.heap.size w w' ∧ Blk w' w.heap.size 139 #[.pointer (some ⟨g, 0, none⟩)] := by
  have hi : (Try.prog.info? 142).map (·.size) = some 3 := by kernel_rfl
  have hB := ((Below.refl w.heap.size w).alloc (Nat.le_refl _) (.cells #[.pointer (some ⟨g, 0, none⟩)] 139)).alloc (by simp) (.cells #[.int .i64 0, .int .i64 0, .nilFunc] 142)
  have hbx := (Blk.new w 139 #[.pointer (some ⟨g, 0, none⟩)]).alloc (.cells #[.int .i64 0, .int .i64 0, .nilFunc] 142)
  have hr : Blk ((w.alloc (.cells #[.pointer (some ⟨g, 0, none⟩)] 139)).alloc (.cells #[.int .i64 0, .int .i64 0, .nilFunc] 142)) (w.heap.size + 1) 142 #[.int .i64 0, .int .i64 0, .nilFunc] := by
    have := Blk.new (w.alloc (.cells #[.pointer (some ⟨g, 0, none⟩)] 139)) 142 #[.int .i64 0, .int .i64 0, .nilFunc]
    simpa using this
  go_enter Try.func103, Try.ntmps103
  go_upto_region 1 with (fail)
  generalize (w.alloc (.cells #[.pointer (some ⟨g, 0, none⟩)] 139)).alloc (.cells #[.int .i64 0, .int .i64 0, .nilFunc] 142) = w1 at *
  go_wp2_with (refine wpList_store_blk rfl hr 142 (.tmp 4) (.tmp 14) rfl rfl rfl rfl hi (by simp [Value.oneCell']) ?_; intro w2 hr2 hg2)
  try rw [Exit.noGoto_ret]
  try simp only [Exit.inBlock, Exit.then]
  refine bodyPost_ret (results_ct rfl _ rfl (load_blk hr2 Try.underlying142 rfl hi)) rfl ?_
  exact ⟨rfl, below_own hB hg2 hB.size (by omega), hbx.grown hg2 (by intro e; injection e with e; omega)⟩
set_option maxHeartbeats 2000000 in
theorem rule3_any (w : World) (g : Nat) : Calls Try.prog 103 #[.pointer (some ⟨g, 0, none⟩), .int .i64 3] w fun e w' => e = .returned (.tuple #[.agg #[.int .i64 64, .int .i64 4, .func (.func 111) #[] #[.pointer (some ⟨w.heap.size, 0, none⟩)]], .bool true]) ∧ Below w.heap.size w w' ∧ Blk w' w.heap.size 139 #[.pointer (some ⟨g, 0, none⟩)] := by
  have hi : (Try.prog.info? 142).map (·.size) = some 3 := by kernel_rfl
  have hB := ((Below.refl w.heap.size w).alloc (Nat.le_refl _) (.cells #[.pointer (some ⟨g, 0, none⟩)] 139)).alloc (by simp) (.cells #[.int .i64 0, .int .i64 0, .nilFunc] 142)
  have hbx := (Blk.new w 139 #[.pointer (some ⟨g, 0, none⟩)]).alloc (.cells #[.int .i64 0, .int .i64 0, .nilFunc] 142)
  have hr : Blk ((w.alloc (.cells #[.pointer (some ⟨g, 0, none⟩)] 139)).alloc (.cells #[.int .i64 0, .int .i64 0, .nilFunc] 142)) (w.heap.size + 1) 142 #[.int .i64 0, .int .i64 0, .nilFunc] := by
    have := Blk.new (w.alloc (.cells #[.pointer (some ⟨g, 0, none⟩)] 139)) 142 #[.int .i64 0, .int .i64 0, .nilFunc]
    simpa using this
  go_enter Try.func103, Try.ntmps103
  go_upto_region 1 with (fail)
  generalize (w.alloc (.cells #[.pointer (some ⟨g, 0, none⟩)] 139)).alloc (.cells #[.int .i64 0, .int .i64 0, .nilFunc] 142) = w1 at *
  go_wp2_with (refine wpList_store_blk rfl hr 142 (.tmp 4) (.tmp 18) rfl rfl rfl rfl hi (by simp [Value.oneCell']) ?_; intro w2 hr2 hg2)
  try rw [Exit.noGoto_ret]
  try simp only [Exit.inBlock, Exit.then]
  refine bodyPost_ret (results_ct rfl _ rfl (load_blk hr2 Try.underlying142 rfl hi)) rfl ?_
  exact ⟨rfl, below_own hB hg2 hB.size (by omega), hbx.grown hg2 (by intro e; injection e with e; omega)⟩
set_option maxHeartbeats 2000000 in
theorem rule4_any (w : World) (g : Nat) : Calls Try.prog 103 #[.pointer (some ⟨g, 0, none⟩), .int .i64 4] w fun e w' => e = .returned (.tuple #[.agg #[.int .i64 128, .int .i64 4, .func (.func 112) #[] #[.pointer (some ⟨w.heap.size, 0, none⟩)]], .bool true]) ∧ Below w.heap.size w w' ∧ Blk w' w.heap.size 139 #[.pointer (some ⟨g, 0, none⟩)] := by
  have hi : (Try.prog.info? 142).map (·.size) = some 3 := by kernel_rfl
  have hB := ((Below.refl w.heap.size w).alloc (Nat.le_refl _) (.cells #[.pointer (some ⟨g, 0, none⟩)] 139)).alloc (by simp) (.cells #[.int .i64 0, .int .i64 0, .nilFunc] 142)
  have hbx := (Blk.new w 139 #[.pointer (some ⟨g, 0, none⟩)]).alloc (.cells #[.int .i64 0, .int .i64 0, .nilFunc] 142)
  have hr : Blk ((w.alloc (.cells #[.pointer (some ⟨g, 0, none⟩)] 139)).alloc (.cells #[.int .i64 0, .int .i64 0, .nilFunc] 142)) (w.heap.size + 1) 142 #[.int .i64 0, .int .i64 0, .nilFunc] := by
    have := Blk.new (w.alloc (.cells #[.pointer (some ⟨g, 0, none⟩)] 139)) 142 #[.int .i64 0, .int .i64 0, .nilFunc]
    simpa using this
  go_enter Try.func103, Try.ntmps103
  go_upto_region 1 with (fail)
  generalize (w.alloc (.cells #[.pointer (some ⟨g, 0, none⟩)] 139)).alloc (.cells #[.int .i64 0, .int .i64 0, .nilFunc] 142) = w1 at *
  go_wp2_with (refine wpList_store_blk rfl hr 142 (.tmp 4) (.tmp 22) rfl rfl rfl rfl hi (by simp [Value.oneCell']) ?_; intro w2 hr2 hg2)
  try rw [Exit.noGoto_ret]
  try simp only [Exit.inBlock, Exit.then]
  refine bodyPost_ret (results_ct rfl _ rfl (load_blk hr2 Try.underlying142 rfl hi)) rfl ?_
  exact ⟨rfl, below_own hB hg2 hB.size (by omega), hbx.grown hg2 (by intro e; injection e with e; omega)⟩
set_option maxHeartbeats 2000000 in
theorem rule0_any (w : World) (g : Nat) (t : Int) (h1 : t ≠ 1) (h2 : t ≠ 2) (h3 : t ≠ 3) (h4 : t ≠ 4) : Calls Try.prog 103 #[.pointer (some ⟨g, 0, none⟩), .int .i64 t] w fun e w' => e = .returned (.tuple #[.agg #[.int .i64 0, .int .i64 0, .nilFunc], .bool false]) ∧ Below w.heap.size w w' ∧ Blk w' w.heap.size 139 #[.pointer (some ⟨g, 0, none⟩)] := by
  have hi : (Try.prog.info? 142).map (·.size) = some 3 := by kernel_rfl
  have hB := ((Below.refl w.heap.size w).alloc (Nat.le_refl _) (.cells #[.pointer (some ⟨g, 0, none⟩)] 139)).alloc (by simp) (.cells #[.int .i64 0, .int .i64 0, .nilFunc] 142)
  have hbx := (Blk.new w 139 #[.pointer (some ⟨g, 0, none⟩)]).alloc (.cells #[.int .i64 0, .int .i64 0, .nilFunc] 142)
  have hr : Blk ((w.alloc (.cells #[.pointer (some ⟨g, 0, none⟩)] 139)).alloc (.cells #[.int .i64 0, .int .i64 0, .nilFunc] 142)) (w.heap.size + 1) 142 #[.int .i64 0, .int .i64 0, .nilFunc] := by
    have := Blk.new (w.alloc (.cells #[.pointer (some ⟨g, 0, none⟩)] 139)) 142 #[.int .i64 0, .int .i64 0, .nilFunc]
    simpa using this
  have b1 : (t == 1) = false := by simpa using h1
  have b2 : (t == 2) = false := by simpa using h2
  have b3 : (t == 3) = false := by simpa using h3
  have b4 : (t == 4) = false := by simpa using h4
  clear h1 h2 h3 h4
  go_enter Try.func103, Try.ntmps103
  go_upto_region 1 with (fail)
  generalize (w.alloc (.cells #[.pointer (some ⟨g, 0, none⟩)] 139)).alloc (.cells #[.int .i64 0, .int .i64 0, .nilFunc] 142) = w1 at *
  go_wp2_with (refine wpList_store_blk rfl hr 142 (.tmp 4) (.tmp 23) rfl rfl rfl rfl hi (by simp [Value.oneCell']) ?_; intro w2 hr2 hg2)
  try rw [Exit.noGoto_ret]
  try simp only [Exit.inBlock, Exit.then]
  refine bodyPost_ret (results_ct rfl _ rfl (load_blk hr2 Try.underlying142 rfl hi)) rfl ?_
  exact ⟨rfl, below_own hB hg2 hB.size (by omega), hbx.grown hg2 (by intro e; injection e with e; omega)⟩
end Go.Proofs.Ytfnclmacodchfaa
