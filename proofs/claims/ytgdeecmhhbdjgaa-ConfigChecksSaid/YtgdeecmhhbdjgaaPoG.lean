/- pool: Get, Up, Draining; a pool that no call made. -/
import Derived.Test.YtgdeecmhhbdjgaaPoF
namespace Go.Proofs.Ytgdeecmhhbdjgaa
set_option linter.unusedVariables false
open Go Go.RowKit Go.Maps

theorem got5 : (Try.prog.info? 179).map (·.size) = some 5 := by kernel_rfl
theorem got3 : (Try.prog.info? 114).map (·.size) = some 3 := by kernel_rfl
set_option maxHeartbeats 1000000 in
theorem addNil (w : World)  (id ad wt : Int) : Calls Try.prog 66 #[.pointer none, .agg #[.int .i64 id, .int .u32 ad, .int .i64 wt]] w fun e w' => e = .returned (.int .i64 1) ∧ Below w.heap.size w w' := by
  have hB := (Below.refl w.heap.size w).alloc (Nat.le_refl _) (.cells #[.int .i64 id, .int .u32 ad, .int .i64 wt] 114)
  skip
  go_enter Try.func66, Try.ntmps66
  go_upto_region 1 with (fail)
  generalize w.alloc (.cells #[.int .i64 id, .int .u32 ad, .int .i64 wt] 114) = w1 at *
  go_wp2_with (go_at_call 75; refine ((made_nil _)).mono ?_; rintro e w' ⟨rfl, rfl⟩)
  go_ret
  exact ⟨rfl, hB⟩
set_option maxHeartbeats 1000000 in
theorem addZero (w : World) (g : Nat) (pc : Int) (h : Blk w g 177 #[.int .i64 pc, .map none]) (id ad wt : Int) : Calls Try.prog 66 #[.pointer (some ⟨g, 0, none⟩), .agg #[.int .i64 id, .int .u32 ad, .int .i64 wt]] w fun e w' => e = .returned (.int .i64 1) ∧ Below w.heap.size w w' := by
  have hB := (Below.refl w.heap.size w).alloc (Nat.le_refl _) (.cells #[.int .i64 id, .int .u32 ad, .int .i64 wt] 114)
  have h1 := h.alloc (.cells #[.int .i64 id, .int .u32 ad, .int .i64 wt] 114)
  go_enter Try.func66, Try.ntmps66
  go_upto_region 1 with (fail)
  generalize w.alloc (.cells #[.int .i64 id, .int .u32 ad, .int .i64 wt] 114) = w1 at *
  go_wp2_with (go_at_call 75; refine ((made_zero _ g pc h1)).mono ?_; rintro e w' ⟨rfl, rfl⟩)
  go_ret
  exact ⟨rfl, hB⟩
end Go.Proofs.Ytgdeecmhhbdjgaa
