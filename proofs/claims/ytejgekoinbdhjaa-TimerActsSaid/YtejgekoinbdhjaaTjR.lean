/- timer: what sweep leaves, in plain terms. -/
import Derived.Test.YtejgekoinbdhjaaTjP
import Derived.Test.YtejgekoinbdhjaaTjQ
namespace Go.Proofs.Ytejgekoinbdhjaa
set_option linter.unusedVariables false
open Go Go.RowKit Go.Maps

theorem sweep_len : ∀ (k : Nat) (H : List Slo), (sweepL k H).length = H.length
  | 0, _ => rfl
  | k + 1, H => (sweep_len k _).trans (downL_len H.length H k)
theorem GoodT.swept {mo no co : Int} {M A H : List Slo} (h : GoodT mo no co M A H) : GoodT mo no co M A (sweepL ((inA A H).length / 2) (inA A H)) := by
  have hl : (inA A H).length ≤ H.length := List.length_filter_le _ _
  refine ⟨h.hmo, h.hco, h.perm, h.asc, h.ids, h.late, fun s hs => ?_, ⟨sweep_heap _ _ (heap_half _), fun a ha => ?_⟩, ?_⟩
  · rw [sweep_mem] at hs
    exact h.rng s (List.mem_filter.1 hs).1
  · rw [sweep_mem]
    exact List.mem_filter.2 ⟨h.held.2 a ha, by simpa using ha⟩
  · rw [sweep_len]
    have := h.few
    omega
end Go.Proofs.Ytejgekoinbdhjaa
