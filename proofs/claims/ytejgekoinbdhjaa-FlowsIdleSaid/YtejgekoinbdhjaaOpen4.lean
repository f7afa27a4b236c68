/- Opening arrays of structs. -/
import Derived.Test.YtejgekoinbdhjaaLib
namespace Go.Proofs.Ytejgekoinbdhjaa
set_option linter.unusedVariables false
open Go Go.RowKit Go.ChangeShapes Go.WideShapes Go.ChangeAt

section
variable {H : Type} {enc : TypeId × Value → H} {P : Program} {W : World} {base b0 : Nat} {spare : Nat → Bool} {held : Bool} {r : Reach}
/-- an array by value: its cells, and how they read. -/
theorem open_wholeA {t e : TypeId} {k N : Nat} {v : Value} {d : DataW H} {p : List MemPlace} (ht : P.underlying t = some (.array k e)) (hC : P.cellsOf t = N)
    (hv : Value.okWide P W r b0 t v) (h : DataW.Trod enc P W base spare held t v d p) :
    ∃ (cs : List Value) (n : Nat) (x : DataW H × List MemPlace), v = .agg cs.toArray ∧ cs.length = N ∧ DataW.trod enc P W base spare held n t cs = some x := by
  simp only [Value.okWide, ht] at hv
  obtain ⟨cs, rfl, hsz, _⟩ := hv
  obtain ⟨fuel, hf⟩ := h
  have hf2 : DataW.trod enc P W base spare held fuel t cs.toList = some (d, p) := hf
  obtain ⟨xs, m, _, _, hlen, hxl, hi⟩ := DataW.trod_array ht hf2
  exact ⟨cs.toList, fuel, _, rfl, hlen.trans hC, hf2⟩
/-- an element of it. -/
theorem trod_elem {t T : TypeId} {k N n : Nat} {cs : List Value} {x : DataW H × List MemPlace} (ht : P.underlying t = some (.array N T)) (h : DataW.trod enc P W base spare held n t cs = some x) (j : Nat) (hj : j < N) (hk : P.cellsOf T = k) :
    ∃ (n' : Nat) (y : DataW H × List MemPlace), DataW.trod enc P W base spare held n' T ((cs.drop (j * k)).take k) = some y := by
  obtain ⟨xs, m, _, _, hlen, hxl, hi⟩ := DataW.trod_array ht h
  have h1 := hi j hj
  rw [hk, List.getElem?_eq_getElem (by omega)] at h1
  exact ⟨m, _, h1⟩
end
end Go.Proofs.Ytejgekoinbdhjaa
