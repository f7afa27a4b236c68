/- attr: AttrJoins, the walk. -/
import Derived.Test.YtfnclmacodchfaaAtI
import Derived.Test.YtfnclmacodchfaaRow2
namespace Go.Proofs.Ytfnclmacodchfaa
set_option linter.unusedVariables false
open Go.ChangeShapes Go.WideShapes Go.ChangeAt Go.RowKit

section
variable {H : Type} {enc : TypeId × Value → H} {P : Program} {W : World} {base : Nat} {spare : Nat → Bool} {held : Bool} {r : Reach} {b0 : Nat}
/-- attributes as a law's argument. -/
theorem open_raws {t e e8 : TypeId} {fs : Array Field} {v : Value} {d : DataW H} {p : List MemPlace} {f0 f1 f2 : Field} (ht : P.underlying t = some (.slice e)) (hs : P.underlying e = some (.struct fs)) (hone : Go.Deep.oneCellFields P fs = true) (hC : P.cellsOf e = fs.size) (hz : fs.size = 3)
    (g0 : fs[0]? = some f0) (g1 : fs[1]? = some f1) (g2 : fs[2]? = some f2) (u0 : P.underlying f0.type = some (.int .i64)) (u1 : P.underlying f1.type = some (.int .i64)) (u2 : P.underlying f2.type = some (.slice e8)) (u8 : P.underlying e8 = some (.int .u8)) (c8 : P.cellsOf e8 = 1)
    (hv : Value.okWide P W r b0 t v) (h : DataW.Trod enc P W base spare held t v d p) :
    ∃ A len cap rs, v = .slice A len cap ∧ len ≤ cap ∧ cap ≤ maxLen ∧ Seen rawK W (fun b => b < W.heap.size) A len rs := by
  obtain ⟨A, len, cap, vs, rfl, h1, h2, h3, h4⟩ := open_rows ht hs hone hC (by omega) hv h
  rw [hz] at h3
  obtain ⟨rs, hrs⟩ := seen_of_flat (R := rawK) h3 fun i hi => by
    obtain ⟨n0, y0, t0⟩ := h4 i hi 0 f0 g0
    obtain ⟨n1, y1, t1⟩ := h4 i hi 1 f1 g1
    obtain ⟨n2, y2, t2⟩ := h4 i hi 2 f2 g2
    obtain ⟨z0, e0, _⟩ := field_int u0 t0
    obtain ⟨z1, e1, _⟩ := field_int u1 t1
    obtain ⟨A2, m, c, l, e2, q1, q2, q3⟩ := field_byt u2 u8 c8 t2
    rw [hz] at e0 e1 e2
    refine ⟨⟨z0, z1, A2, m, c, l⟩, fun j hj => ?_, q1, q2, q3.bytA⟩
    show [Value.int .i64 z0, .int .i64 z1, .slice A2 m c][j]? = some (vs (i * 3 + j))
    match j, hj with
    | 0, _ => rw [e0]; rfl
    | 1, _ => rw [e1]; rfl
    | 2, _ => rw [e2]; rfl
  exact ⟨A, len, cap, rs, rfl, h1, h2, hrs⟩
end
theorem strB_list (l : List UInt8) : (strB l).toList = l := by
  rw [Lib.toList_data]; simp [strB]
end Go.Proofs.Ytfnclmacodchfaa
