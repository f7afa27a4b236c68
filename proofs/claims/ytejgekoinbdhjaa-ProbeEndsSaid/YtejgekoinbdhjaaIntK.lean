/- ints as rows. -/
import Derived.Test.YtejgekoinbdhjaaLib
namespace Go.Proofs.Ytejgekoinbdhjaa
set_option linter.unusedVariables false
open Go Go.RowKit

def intK : RK Int where
  size := 1
  cel z := [.int .i64 z]
  ok _ _ z := (Lit.int .i64 z).wf = true
  pos := by omega
  len _ := rfl
  one _ u hu := by simp at hu; subst hu; rfl
  keep h _ := h
  more h _ := h
theorem int_ok : ElemOk Try.prog 92 3 intK.size 8 (.int .i64 0) := ⟨Try.underlying92, by kernel_rfl, rfl, intK.pos⟩
theorem int_cells {w : World} {S : Nat → Prop} {A : Option Addr} {n : Nat} {L : List Int} (h : Seen intK w S A n L) (hn : 0 < n) :
    ∃ b off, A = some ⟨b, off, none⟩ ∧ S b ∧ ∀ k z, L[k]? = some z → w.cell? ⟨b, off + k, none⟩ = some (.int .i64 z) := by
  obtain ⟨b, off, e, hb, hc⟩ := h.2.2 hn
  refine ⟨b, off, e, hb, fun k z hk => ?_⟩
  have h1 := hc k z hk 0 (by decide)
  have e1 : off + (k * intK.size + 0) = off + k := by show off + (k * 1 + 0) = _; omega
  rw [e1] at h1
  exact h1
theorem int_cell {w : World} {S : Nat → Prop} {A : Option Addr} {n : Nat} {L : List Int} {k : Nat} (h : Seen intK w S A n L) (hk : k < n) :
    ∃ b off z, A = some ⟨b, off, none⟩ ∧ S b ∧ L[k]? = some z ∧ w.cell? ⟨b, off + k, none⟩ = some (.int .i64 z) := by
  have hlt : k < L.length := by rw [h.1]; exact hk
  obtain ⟨b, off, e, hb, hc⟩ := int_cells h (by omega)
  exact ⟨b, off, _, e, hb, List.getElem?_eq_getElem hlt, hc k _ (List.getElem?_eq_getElem hlt)⟩
end Go.Proofs.Ytejgekoinbdhjaa
