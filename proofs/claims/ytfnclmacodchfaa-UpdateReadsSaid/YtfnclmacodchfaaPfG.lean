/- prefix: octets. -/
import Derived.Test.YtfnclmacodchfaaPfF
namespace Go.Proofs.Ytfnclmacodchfaa
set_option linter.unusedVariables false
open Go.RowKit

/-- how many octets so many bits take. -/
def octN (k : Nat) : Nat := (k + 7) / 8
theorem octN_le (k : Nat) (hk : k ≤ 32) : octN k ≤ 4 := by unfold octN; omega
set_option maxHeartbeats 1000000 in
theorem octets_any (k : Nat) (hk : k ≤ 32) (w : World) : Calls Try.prog 101 #[.int .i64 (k : Int)] w fun e w' => e = .returned (.int .i64 (octN k : Int)) ∧ w = w' := by
  have hki : (k : Int) ≤ 32 := by omega
  have hq : Int.tdiv ((k : Int) + 8 - 1) 8 = (octN k : Int) := by
    rw [Int.tdiv_eq_ediv_of_nonneg (by omega)]
    unfold octN; omega
  have ho : (octN k : Int) ≤ 4 := by have := octN_le k hk; omega
  generalize octN k = o at *
  go_enter Try.func101, Try.ntmps101
  go_wp2_with fail
  try rw [hq]
  go_ret
  exact ⟨rfl, rfl⟩
end Go.Proofs.Ytfnclmacodchfaa
