/- timer: a heap is made from any list: in plain terms. -/
import Derived.Test.YtejgekoinbdhjaaTjO
namespace Go.Proofs.Ytejgekoinbdhjaa
set_option linter.unusedVariables false
open Go Go.RowKit Go.Maps

/-- down from k - 1 to 0. -/
def sweepL : Nat → List Slo → List Slo
  | 0, H => H
  | k + 1, H => sweepL k (downL H.length H k)
theorem heapD_of {k : Nat} {H : List Slo} (h : HeapL (k + 1) H) : HeapD k k H :=
  ⟨fun i h0 hi hlo hne => h i h0 hi (by omega), fun c h0 hc hp hk hlo => by omega⟩
theorem heap_half (H : List Slo) : HeapL (H.length / 2) H := fun i h0 hi hlo => by omega
theorem sweep_heap : ∀ (k : Nat) (H : List Slo), HeapL k H → HeapL 0 (sweepL k H)
  | 0, H, h => h
  | k + 1, H, h => sweep_heap k _ (down_heap H.length k k H (by omega) (heapD_of h))
theorem sweep_mem : ∀ (k : Nat) (H : List Slo) (s : Slo), s ∈ sweepL k H ↔ s ∈ H
  | 0, _, _ => Iff.rfl
  | k + 1, H, s => (sweep_mem k _ s).trans (down_mem H.length H k s)
end Go.Proofs.Ytejgekoinbdhjaa
