/- pool: Mark, Drain, Weigh. -/
import Derived.Test.YtgdeecmhhbdjgaaPoB
namespace Go.Proofs.Ytgdeecmhhbdjgaa
set_option linter.unusedVariables false
open Go Go.RowKit Go.Maps

theorem ent_ne {w : World} {b x : Nat} {l : List (Value × Value)} {T : TypeId} {cs : Array Value} (h : Ent Try.prog 3 w b l) (hx : Blk w x T cs) : x ≠ b := by
  intro e
  obtain ⟨es, c, h2, _⟩ := h
  unfold Blk at hx
  rw [e, h2] at hx
  cases hx
end Go.Proofs.Ytgdeecmhhbdjgaa
