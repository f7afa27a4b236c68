/- Opening structs with structs in them. -/
import Derived.Test.YtgdeecmhhbdjgaaLib
namespace Go.Proofs.Ytgdeecmhhbdjgaa
set_option linter.unusedVariables false
open Go Go.RowKit Go.ChangeShapes Go.WideShapes Go.ChangeAt

section
variable {H : Type} {enc : TypeId × Value → H} {P : Program} {W : World} {base b0 : Nat} {spare : Nat → Bool} {held : Bool} {r : Reach}
/-- a struct by value: its cells, and how they read. -/
theorem open_whole {t : TypeId} {fs : Array Field} {N : Nat} {v : Value} {d : DataW H} {p : List MemPlace} (hs : P.underlying t = some (.struct fs)) (hC : P.cellsOf t = N)
    (hv : Value.okWide P W r b0 t v) (h : DataW.Trod enc P W base spare held t v d p) :
    ∃ (cs : List Value) (n : Nat) (x : DataW H × List MemPlace), v = .agg cs.toArray ∧ cs.length = N ∧ DataW.trod enc P W base spare held n t cs = some x := by
  obtain ⟨cs, rfl, hsz⟩ := okWide_struct hs hv
  obtain ⟨fuel, hf⟩ := h
  exact ⟨cs.toList, fuel, _, rfl, by simpa using hsz.trans hC, hf⟩
/-- a field of it. -/
theorem trod_field {t T : TypeId} {fs : Array Field} {n off k : Nat} {cs : List Value} {x : DataW H × List MemPlace} {f : Field} (hs : P.underlying t = some (.struct fs)) (h : DataW.trod enc P W base spare held n t cs = some x) (j : Nat)
    (hf : fs[j]? = some f) (ho : f.offset = off) (hT : f.type = T) (hk : P.cellsOf T = k) : ∃ (n' : Nat) (y : DataW H × List MemPlace), DataW.trod enc P W base spare held n' T ((cs.drop off).take k) = some y := by
  obtain ⟨xs, n', _, _, _, hlen, hg⟩ := DataW.trod_struct hs h
  have hj : j < xs.length := by rw [hlen]; exact (Array.getElem?_eq_some_iff.1 hf).1
  have := hg j f hf
  rw [List.getElem?_eq_getElem hj, ho, hT, hk] at this
  exact ⟨n', _, this⟩
end
end Go.Proofs.Ytgdeecmhhbdjgaa
