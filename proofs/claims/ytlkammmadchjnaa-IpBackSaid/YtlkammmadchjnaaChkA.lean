/- chk: small functions. -/
import Derived.Test.YtlkammmadchjnaaRows
import Derived.Test.YtlkammmadchjnaaBits
import Derived.Lib.Hide
namespace Go.Proofs.Ytlkammmadchjnaa
set_option linter.unusedVariables false
open Go.RowKit
set_option maxHeartbeats 400000 in
theorem word_any (n : Int) (w : World) :
    Calls Try.prog 64 #[.int .i64 n] w fun e w' => e = .returned (.int .i64 (n % 65536)) ∧ w = w' := by
  go_enter Try.func64, Try.ntmps64
  go_wp2
  go_ret
  exact ⟨rfl, rfl⟩

def foldV (n : Int) : Int := if n ≤ 65535 then n else (n - 1) % 65535 + 1
theorem foldV_step (n : Int) (h : 65535 < n) : foldV (n % 65536 + n / 65536) = foldV n := by
  unfold foldV; split <;> split <;> omega

set_option maxHeartbeats 400000 in
theorem fold_any (n : Int) (w : World) (hn : n ≤ 9223372036854775807) :
    Calls Try.prog 67 #[.int .i64 n] w fun e w' => e = .returned (.int .i64 (foldV n)) ∧ w = w' := by
  go_enter Try.func67, Try.ntmps67
  go_wp2
  go_step3
  go_wp2
  go_step3
  go_wp2
  go_loop [0] (fun v => ∃ m : Int, foldV m = foldV n ∧ m ≤ 9223372036854775807 ∧ v = .int .i64 m) (fun v => (intOf v).toNat)
  case atStart => exact ⟨n, rfl, hn, rfl⟩
  case round =>
    obtain ⟨m, hm, hm2, rfl⟩ := hrel
    have H := Lib.hid hm
    clear hm
    by_cases hlt : m ≤ 65535
    · go_wp2
      try rw [Exit.noGoto_ret]
      go_ret
      exact ⟨ret_int (by rw [← H.out]; simp [foldV, hlt]), rfl⟩
    · go_wp2
      go_round
      case rel => exact ⟨_, by rw [foldV_step m (by omega)]; exact H.out, by omega, rfl⟩
      case measure => simp [intOf]; omega
set_option maxHeartbeats 400000 in
theorem refAdd_any (s t : Int) (w : World) :
    Calls Try.prog 55 #[.int .i64 s, .int .i64 t] w fun e w' => e = .returned (.int .i64 (foldV (s % 65536 + t % 65536))) ∧ w = w' := by
  go_enter Try.func55, Try.ntmps55
  go_wp2_with (go_at_call 64; refine (word_any _ _).mono ?_; rintro e w' ⟨rfl, rfl⟩)
  all_goals go_ret
  · exact ⟨ret_int (by unfold foldV; split <;> omega), rfl⟩
  · exact ⟨ret_int (by unfold foldV; split <;> omega), rfl⟩
end Go.Proofs.Ytlkammmadchjnaa
