/- rise: the law RiseNone. -/
import Derived.Test.YtfmjedbpjjjdpaaRiseA
namespace Go.Proofs.Ytfmjedbpjjjdpaa
set_option linter.unusedVariables false
open Go.RowKit

section
variable (w : World)
set_option maxHeartbeats 400000 in
theorem note_nil (k : Bool) : Calls Try.prog 9 #[.pointer none, .bool k] w fun e w' => e = .returned (.bool false) ∧ w = w' := by
  go_enter Try.func9, Try.ntmps9
  go_wp2_with (go_at_call 17; refine (made_nil _).mono ?_; rintro e w' ⟨rfl, rfl⟩)
  go_ret
  exact ⟨rfl, rfl⟩
set_option maxHeartbeats 400000 in
theorem force_nil (k : Bool) : Calls Try.prog 11 #[.pointer none, .bool k] w fun e w' => e = .returned (.bool false) ∧ w = w' := by
  go_enter Try.func11, Try.ntmps11
  go_wp2_with (go_at_call 17; refine (made_nil _).mono ?_; rintro e w' ⟨rfl, rfl⟩)
  go_ret
  exact ⟨rfl, rfl⟩
set_option maxHeartbeats 400000 in
theorem up_nil : Calls Try.prog 8 #[.pointer none] w fun e w' => e = .returned (.bool false) ∧ w = w' := by
  go_enter Try.func8, Try.ntmps8
  go_wp2_with (go_at_call 17; refine (made_nil _).mono ?_; rintro e w' ⟨rfl, rfl⟩)
  go_ret
  exact ⟨rfl, rfl⟩
set_option maxHeartbeats 400000 in
theorem run_nil : Calls Try.prog 14 #[.pointer none] w fun e w' => e = .returned (.int .i64 0) ∧ w = w' := by
  go_enter Try.func14, Try.ntmps14
  go_wp2_with (go_at_call 17; refine (made_nil _).mono ?_; rintro e w' ⟨rfl, rfl⟩)
  go_ret
  exact ⟨rfl, rfl⟩
set_option maxHeartbeats 400000 in
theorem copy_nil : Calls Try.prog 15 #[.pointer none] w fun e w' => e = .returned (.pointer none) ∧ w = w' := by
  go_enter Try.func15, Try.ntmps15
  go_wp2_with (go_at_call 17; refine (made_nil _).mono ?_; rintro e w' ⟨rfl, rfl⟩)
  go_ret
  exact ⟨rfl, rfl⟩
variable (g : Nat) (hb : Blk w g 37 (riseCs 0 0 false 0))
include hb
theorem made_zero : Calls Try.prog 17 #[.pointer (some ⟨g, 0, none⟩)] w fun e w' => e = .returned (.bool false) ∧ w = w' := made_any 0 0 0 false g w hb
set_option maxHeartbeats 400000 in
theorem note_zero (k : Bool) : Calls Try.prog 9 #[.pointer (some ⟨g, 0, none⟩), .bool k] w fun e w' => e = .returned (.bool false) ∧ w = w' := by
  go_enter Try.func9, Try.ntmps9
  go_wp2_with (go_at_call 17; refine (made_zero _ g hb).mono ?_; rintro e w' ⟨rfl, rfl⟩)
  go_ret
  exact ⟨rfl, rfl⟩
set_option maxHeartbeats 400000 in
theorem force_zero (k : Bool) : Calls Try.prog 11 #[.pointer (some ⟨g, 0, none⟩), .bool k] w fun e w' => e = .returned (.bool false) ∧ w = w' := by
  go_enter Try.func11, Try.ntmps11
  go_wp2_with (go_at_call 17; refine (made_zero _ g hb).mono ?_; rintro e w' ⟨rfl, rfl⟩)
  go_ret
  exact ⟨rfl, rfl⟩
set_option maxHeartbeats 400000 in
theorem up_zero : Calls Try.prog 8 #[.pointer (some ⟨g, 0, none⟩)] w fun e w' => e = .returned (.bool false) ∧ w = w' := by
  go_enter Try.func8, Try.ntmps8
  go_wp2_with (go_at_call 17; refine (made_zero _ g hb).mono ?_; rintro e w' ⟨rfl, rfl⟩)
  go_ret
  exact ⟨rfl, rfl⟩
set_option maxHeartbeats 400000 in
theorem run_zero : Calls Try.prog 14 #[.pointer (some ⟨g, 0, none⟩)] w fun e w' => e = .returned (.int .i64 0) ∧ w = w' := by
  go_enter Try.func14, Try.ntmps14
  go_wp2_with (go_at_call 17; refine (made_zero _ g hb).mono ?_; rintro e w' ⟨rfl, rfl⟩)
  go_ret
  exact ⟨rfl, rfl⟩
set_option maxHeartbeats 400000 in
theorem copy_zero : Calls Try.prog 15 #[.pointer (some ⟨g, 0, none⟩)] w fun e w' => e = .returned (.pointer none) ∧ w = w' := by
  go_enter Try.func15, Try.ntmps15
  go_wp2_with (go_at_call 17; refine (made_zero _ g hb).mono ?_; rintro e w' ⟨rfl, rfl⟩)
  go_ret
  exact ⟨rfl, rfl⟩
end

set_option maxHeartbeats 1000000 in
theorem none_walk (k : Bool) (w : World) :
    Calls Try.prog 5 #[.bool k] w fun e w' => e = .returned (.bool true) ∧ Below w.heap.size w w' := by
  have i0 : ∀ (x0 x1 : Value) (w : World), (Instr.index 38 (.agg #[x0, x1]) (.int .i64 0)).run Try.prog w = .ok x0 w := fun _ _ _ => by kernel_rfl
  have i1 : ∀ (x0 x1 : Value) (w : World), (Instr.index 38 (.agg #[x0, x1]) (.int .i64 1)).run Try.prog w = .ok x1 w := fun _ _ _ => by kernel_rfl
  have hb := Blk.new w 37 (riseCs 0 0 false 0)
  have hB := (Below.refl w.heap.size w).alloc (Nat.le_refl _) (.cells (riseCs 0 0 false 0) 37)
  go_enter Try.func5, Try.ntmps5
  go_wp2_with fail
  refine wp_loop_rounds 3 ?_
  change Code.rounds _ _ _ _ _ (w.alloc (.cells (riseCs 0 0 false 0) 37))
  generalize (w.alloc (.cells (riseCs 0 0 false 0) 37)) = w1 at *
  have HB := Lib.hid hB
  clear hB
  rw [rounds_succ]
  go_wp2_with (first
    | (go_at_call 9; refine (note_nil _ _).mono ?_; rintro e w' ⟨rfl, rfl⟩)
    | (go_at_call 11; refine (force_nil _ _).mono ?_; rintro e w' ⟨rfl, rfl⟩)
    | (go_at_call 14; refine (run_nil _).mono ?_; rintro e w' ⟨rfl, rfl⟩)
    | (go_at_call 8; refine (up_nil _).mono ?_; rintro e w' ⟨rfl, rfl⟩)
    | (go_at_call 15; refine (copy_nil _).mono ?_; rintro e w' ⟨rfl, rfl⟩))
  rw [rounds_succ]
  go_wp2_with (first
    | (go_at_call 9; refine (note_zero _ _ hb _).mono ?_; rintro e w' ⟨rfl, rfl⟩)
    | (go_at_call 11; refine (force_zero _ _ hb _).mono ?_; rintro e w' ⟨rfl, rfl⟩)
    | (go_at_call 14; refine (run_zero _ _ hb).mono ?_; rintro e w' ⟨rfl, rfl⟩)
    | (go_at_call 8; refine (up_zero _ _ hb).mono ?_; rintro e w' ⟨rfl, rfl⟩)
    | (go_at_call 15; refine (copy_zero _ _ hb).mono ?_; rintro e w' ⟨rfl, rfl⟩))
  rw [rounds_succ]
  go_wp2_with (go_at_call 6; refine (lives_any _).mono ?_; rintro e w' ⟨rfl, hx⟩)
  go_ret
  exact ⟨rfl, HB.out.trans (hx.mono HB.out.size)⟩
end Go.Proofs.Ytfmjedbpjjjdpaa
