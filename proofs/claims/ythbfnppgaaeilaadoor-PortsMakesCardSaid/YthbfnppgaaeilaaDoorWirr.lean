/- wire: the document's Source. wire: the document's Source: numbers, Sub, Rest, End. -/
import Derived.Test.YthbfnppgaaeilaaDoorWird
import Derived.StillTailTactics
namespace Go.Proofs.YthbfnppgaaeilaaDoor
set_option linter.unusedVariables false
open Go.RowKit

section
variable {w w' : World} {lo g : Nat} {s : St}
end

theorem OwnB.less {w : World} {base base' n : Nat} {v : Value} {l : List UInt8} (h : OwnB w base v n l) (hle : base' ≤ base) : OwnB w base' v n l := by
  refine ⟨h.1, ?_⟩
  rcases h.2 with h0 | ⟨g2, cap, cur, q1, q2, q3⟩
  · exact .inl h0
  · exact .inr ⟨g2, cap, cur, q1, by omega, q3⟩
end Go.Proofs.YthbfnppgaaeilaaDoor

namespace Go.Proofs.YthbfnppgaaeilaaDoor
set_option linter.unusedVariables false
open Go.RowKit

theorem OwnB.any2 {w : World} {base n : Nat} {v : Value} {l : List UInt8} (h : OwnB w base v n l) : ∃ A cap, v = .slice A n cap ∧ n ≤ cap ∧ cap ≤ maxLen ∧ Byt w w.heap.size A n l ∧ (∀ a, A = some a → base ≤ a.block) := by
  obtain ⟨A1, c1, rfl, hc1, hby, hA⟩ := h.any
  have hc2 : c1 ≤ maxLen := by
    rcases h.2 with ⟨e, _⟩ | ⟨g, cap, cur, e, _, _, _, hm, _⟩
    · injection e with _ _ e; rw [e]; exact Nat.zero_le _
    · injection e with _ _ e; rw [e]; exact hm
  exact ⟨_, _, rfl, hc1, hc2, hby, hA⟩
theorem numV_get (s : St) (size : Nat) : getV (tk s size).2 0 size = numV s size := by
  unfold getV numV fitsB fromI
  by_cases h : (tk s size).2.length < size
  · rw [if_pos h, if_neg (by simp; omega)]
  · rw [if_neg h, if_pos (by simp; omega)]; rfl

end Go.Proofs.YthbfnppgaaeilaaDoor
