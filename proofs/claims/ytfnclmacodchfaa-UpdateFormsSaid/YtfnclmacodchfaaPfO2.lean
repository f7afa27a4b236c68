/- rows of prefixes in a law's argument. -/
import Derived.Test.YtfnclmacodchfaaPfJ
import Derived.Test.YtfnclmacodchfaaRow2
import Derived.Test.YtfnclmacodchfaaOpen3
namespace Go.Proofs.Ytfnclmacodchfaa
set_option linter.unusedVariables false
open Go.RowKit

section
variable {H : Type} {enc : TypeId × Value → H} {P : Program} {W : World} {base : Nat} {spare : Nat → Bool} {held : Bool}
open Go.ChangeShapes Go.WideShapes Go.ChangeAt
/-- prefixes in a law's argument. -/
theorem field_pfs {t e : TypeId} {fs : Array Field} {u : Value} {n : Nat} {y : DataW H × List MemPlace} {f0 f1 : Field} (ht : P.underlying t = some (.slice e)) (hs : P.underlying e = some (.struct fs)) (hone : Go.Deep.oneCellFields P fs = true) (hC : P.cellsOf e = fs.size) (hz : fs.size = 2)
    (g0 : fs[0]? = some f0) (g1 : fs[1]? = some f1) (u0 : P.underlying f0.type = some (.int .u32)) (u1 : P.underlying f1.type = some (.int .i64))
    (h : DataW.trod enc P W base spare held n t [u] = some y) :
    ∃ A len cap cs, u = .slice A len cap ∧ len ≤ cap ∧ cap ≤ maxLen ∧ Seen pfK W (fun b => b < W.heap.size) A len cs := by
  obtain ⟨A, len, cap, vs, rfl, h1, h2, h3, h4⟩ := field_rows ht hs hone hC (by omega) h
  rw [hz] at h3
  obtain ⟨rs, hrs⟩ := seen_of_flat (R := pfK) h3 fun i hi => by
    obtain ⟨n0, y0, t0⟩ := h4 i hi 0 f0 g0
    obtain ⟨n1, y1, t1⟩ := h4 i hi 1 f1 g1
    obtain ⟨z0, e0, k0⟩ := field_int u0 t0
    obtain ⟨z1, e1, _⟩ := field_int u1 t1
    rw [hz] at e0 e1
    refine ⟨(z0, z1), fun j hj => ?_, (bounds_u32 k0).1, by have := (bounds_u32 k0).2; omega⟩
    show [Value.int .u32 z0, .int .i64 z1][j]? = some (vs (i * 2 + j))
    match j, hj with
    | 0, _ => rw [e0]; rfl
    | 1, _ => rw [e1]; rfl
  exact ⟨A, len, cap, rs, rfl, h1, h2, hrs⟩
end
end Go.Proofs.Ytfnclmacodchfaa
