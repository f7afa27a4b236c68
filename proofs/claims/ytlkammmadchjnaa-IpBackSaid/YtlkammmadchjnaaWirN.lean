/- wire: a source that no call made; End. -/
import Derived.Test.YtlkammmadchjnaaWirL
namespace Go.Proofs.Ytlkammmadchjnaa
set_option linter.unusedVariables false
open Go.RowKit

/-- nil, or a Source that is zero. -/
def Dead (w : World) (v : Value) : Prop := v = .pointer none ∨ ∃ g, v = .pointer (some ⟨g, 0, none⟩) ∧ Blk w g 82 #[.bool false, .slice none 0 0, .int .i64 0, .int .i64 0]
theorem Dead.below {w w' : World} {v : Value} (h : Dead w v) (hb : Below w.heap.size w w') : Dead w' v := by
  rcases h with h | ⟨g, h, hk⟩
  · exact .inl h
  · exact .inr ⟨g, h, hk.below hb hk.lt⟩

set_option maxHeartbeats 400000 in
theorem ok_dead (w : World) (v : Value) (h : Dead w v) :
    Calls Try.prog 63 #[v] w fun e w' => e = .returned (.bool false) ∧ w = w' := by
  rcases h with rfl | ⟨g, rfl, h3⟩
  · go_enter Try.func63, Try.ntmps63
    go_wp2_with fail
    go_ret
    exact ⟨rfl, rfl⟩
  · have c0 := h3.cellv 0 (v := .bool false) rfl
    go_enter Try.func63, Try.ntmps63
    go_wp2_with fail
    go_ret
    exact ⟨rfl, rfl⟩
set_option maxHeartbeats 400000 in
theorem take_dead (w : World) (v : Value) (h : Dead w v) (m : Int) :
    Calls Try.prog 62 #[v, .int .i64 m] w fun e w' => e = .returned (.slice none 0 0) ∧ w = w' := by
  go_enter Try.func62, Try.ntmps62
  go_wp2_with fail
  refine (ok_dead w v h).mono ?_
  rintro e w' ⟨rfl, rfl⟩
  go_wp2_with fail
  go_ret
  exact ⟨rfl, rfl⟩
set_option maxHeartbeats 400000 in
theorem num_dead (w : World) (v : Value) (h : Dead w v) (size : Nat) (h1 : 0 < size) :
    Calls Try.prog 52 #[v, .int .i64 (size : Int)] w fun e w' => e = .returned (.int .u64 0) ∧ w = w' := by
  go_enter Try.func52, Try.ntmps52
  go_wp2_with fail
  refine (take_dead w v h _).mono ?_
  rintro e w' ⟨rfl, rfl⟩
  go_wp2_with fail
  go_ret
  exact ⟨rfl, rfl⟩
set_option maxHeartbeats 400000 in
theorem u8_dead (w : World) (v : Value) (h : Dead w v) : Calls Try.prog 32 #[v] w fun e w' => e = .returned (.int .i64 0) ∧ w = w' := by
  go_enter Try.func32, Try.ntmps32
  go_wp2_with fail
  refine (num_dead w v h 1 (by omega)).mono ?_
  rintro e w' ⟨rfl, rfl⟩
  go_wp2_with fail
  go_ret
  exact ⟨rfl, rfl⟩
set_option maxHeartbeats 400000 in
theorem u16_dead (w : World) (v : Value) (h : Dead w v) : Calls Try.prog 31 #[v] w fun e w' => e = .returned (.int .i64 0) ∧ w = w' := by
  go_enter Try.func31, Try.ntmps31
  go_wp2_with fail
  refine (num_dead w v h 2 (by omega)).mono ?_
  rintro e w' ⟨rfl, rfl⟩
  go_wp2_with fail
  go_ret
  exact ⟨rfl, rfl⟩
set_option maxHeartbeats 400000 in
theorem u32_dead (w : World) (v : Value) (h : Dead w v) : Calls Try.prog 33 #[v] w fun e w' => e = .returned (.int .u32 0) ∧ w = w' := by
  go_enter Try.func33, Try.ntmps33
  go_wp2_with fail
  refine (num_dead w v h 4 (by omega)).mono ?_
  rintro e w' ⟨rfl, rfl⟩
  go_wp2_with fail
  go_ret
  exact ⟨rfl, rfl⟩
set_option maxHeartbeats 400000 in
theorem clone_nil (w : World) : Calls Try.prog 35 #[.slice none 0 0] w fun e w' => e = .returned (.slice none 0 0) ∧ w = w' := by
  have heq := fun w => Go.run_eql_slice_nil (P := Try.prog) w 23 5 none 0 0 Try.underlying23
  go_enter Try.func35, Try.ntmps35
  go_wp2_with fail
  go_ret
  exact ⟨rfl, rfl⟩
set_option maxHeartbeats 400000 in
theorem bytes_dead (w : World) (v : Value) (h : Dead w v) (m : Int) : Calls Try.prog 53 #[v, .int .i64 m] w fun e w' => e = .returned (.slice none 0 0) ∧ w = w' := by
  go_enter Try.func53, Try.ntmps53
  go_wp2_with fail
  refine (take_dead w v h _).mono ?_
  rintro e w' ⟨rfl, rfl⟩
  go_wp2_with fail
  refine (clone_nil w).mono ?_
  rintro e w' ⟨rfl, rfl⟩
  go_wp2_with fail
  go_ret
  exact ⟨rfl, rfl⟩
set_option maxHeartbeats 400000 in
theorem left_dead (w : World) (v : Value) (h : Dead w v) : Calls Try.prog 54 #[v] w fun e w' => e = .returned (.int .i64 0) ∧ w = w' := by
  go_enter Try.func54, Try.ntmps54
  go_wp2_with fail
  refine (ok_dead w v h).mono ?_
  rintro e w' ⟨rfl, rfl⟩
  go_wp2_with fail
  go_ret
  exact ⟨rfl, rfl⟩
set_option maxHeartbeats 400000 in
theorem rest_dead (w : World) (v : Value) (h : Dead w v) : Calls Try.prog 34 #[v] w fun e w' => e = .returned (.slice none 0 0) ∧ w = w' := by
  go_enter Try.func34, Try.ntmps34
  go_wp2_with fail
  refine (left_dead w v h).mono ?_
  rintro e w' ⟨rfl, rfl⟩
  go_wp2_with fail
  refine (bytes_dead w v h _).mono ?_
  rintro e w' ⟨rfl, rfl⟩
  go_wp2_with fail
  go_ret
  exact ⟨rfl, rfl⟩
end Go.Proofs.Ytlkammmadchjnaa
