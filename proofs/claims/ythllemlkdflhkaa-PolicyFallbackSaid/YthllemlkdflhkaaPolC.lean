/- policy: lives. -/
import Derived.Test.YthllemlkdflhkaaPolB
namespace Go.Proofs.Ythllemlkdflhkaa
set_option linter.unusedVariables false
open Go.RowKit

set_option maxHeartbeats 1000000 in
theorem lives_any (w : World) :
    Calls Try.prog 5 #[] w fun e w' => e = .returned (.bool true) ∧ Below w.heap.size w w' := by
  go_enter Try.func5, Try.ntmps5
  go_wp2_with fail
  refine (attrs_fall 7 9 0 0 2 w (by omega) (by omega) (fun w => good9 w)).mono ?_
  rintro e w1 ⟨v, B, rfl, hB, hown, hb⟩
  obtain ⟨g, c, rfl, hg, hgs, hc, _⟩ := hown.form (by omega)
  have k2 := hown.cell 2 (by omega)
  go_wp2_with fail
  go_ret
  exact ⟨rfl, hb.alloc hb.size _⟩
end Go.Proofs.Ythllemlkdflhkaa
