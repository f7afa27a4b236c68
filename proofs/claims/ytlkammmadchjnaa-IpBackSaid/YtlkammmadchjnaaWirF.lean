/- wire: End, Rest, Sub of a source that was made. -/
import Derived.Test.YtlkammmadchjnaaWirN
namespace Go.Proofs.Ytlkammmadchjnaa
set_option linter.unusedVariables false
open Go.RowKit

def endV (s : St) : Int := if s.e ≠ 0 then s.e else if 0 < leftV s then 4 else 0

theorem tk_at (s : St) (m : Int) : (tk s m).1.at_ = s.at_ + (tk s m).2.length := by
  unfold tk
  split
  · simp
  · split
    · simp
    · split
      · simp
      · simp only [List.length_take]; omega
set_option maxHeartbeats 400000 in
theorem rest_any (w : World) (g : Nat) (s : St) (h : Src w g s) :
    Calls Try.prog 34 #[.pointer (some ⟨g, 0, none⟩)] w fun e w' => ∃ v, e = .returned v ∧ OwnB w' w.heap.size v (tk s (leftV s)).2.length (tk s (leftV s)).2 ∧ Src w' g (tk s (leftV s)).1 ∧ w.grownBy w' (some g) := by
  go_enter Try.func34, Try.ntmps34
  go_wp2_with fail
  refine (left_any w g s h).mono ?_
  rintro e w' ⟨rfl, rfl⟩
  go_wp2_with fail
  refine (bytes_any w g s h _).mono ?_
  rintro e w' ⟨v, rfl, h1, h2, h3⟩
  go_wp2_with fail
  go_ret
  exact ⟨_, rfl, h1, h2, h3⟩
end Go.Proofs.Ytlkammmadchjnaa
