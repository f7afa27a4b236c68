/- pool: acts as a law's argument; do both tell the same? -/
import Derived.Test.YtejgekoinbdhjaaPqC
import Derived.Test.YtejgekoinbdhjaaRow2
import Derived.Test.YtejgekoinbdhjaaOpen3
namespace Go.Proofs.Ytejgekoinbdhjaa
set_option linter.unusedVariables false
open Go Go.RowKit Go.Maps Go.ChangeShapes Go.WideShapes Go.ChangeAt

/-- acts as elements of rows. -/
def actK : RK ActV where
  size := 5
  cel a := [.int .i64 a.k, .int .i64 a.id, .int .u32 a.ad, .int .i64 a.wt, .bool a.on]
  ok _ _ a := -9223372036854775808 ≤ a.id ∧ a.id ≤ 9223372036854775807
  pos := by omega
  len _ := rfl
  one _ u hu := by simp at hu; rcases hu with rfl | rfl | rfl | rfl | rfl <;> rfl
  keep h _ := h
  more h _ := h
theorem act_cells {w : World} {S : Nat → Prop} {A : Option Addr} {n : Nat} {L : List ActV} {k : Nat} (h : Seen actK w S A n L) (hk : k < n) :
    ∃ b off a, A = some ⟨b, off, none⟩ ∧ S b ∧ L[k]? = some a ∧ (-9223372036854775808 ≤ a.id ∧ a.id ≤ 9223372036854775807) ∧ w.cell? ⟨b, off + k * 5, none⟩ = some (.int .i64 a.k) ∧ w.cell? ⟨b, off + k * 5 + 1, none⟩ = some (.int .i64 a.id) ∧
      w.cell? ⟨b, off + k * 5 + 2, none⟩ = some (.int .u32 a.ad) ∧ w.cell? ⟨b, off + k * 5 + 3, none⟩ = some (.int .i64 a.wt) ∧ w.cell? ⟨b, off + k * 5 + 4, none⟩ = some (.bool a.on) := by
  have hlt : k < L.length := by rw [h.1]; exact hk
  have hr := List.getElem?_eq_getElem hlt
  obtain ⟨b, off, e, hb, hc⟩ := h.cell hr
  exact ⟨b, off, _, e, hb, hr, h.2.1 _ (List.getElem_mem hlt), hc 0 (by decide), hc 1 (by decide), hc 2 (by decide), hc 3 (by decide), hc 4 (by decide)⟩
set_option maxRecDepth 100000 in
theorem open_acts {H : Type} {enc : TypeId × Value → H} {W : World} {base b0 : Nat} {spare : Nat → Bool} {held : Bool} {r : Reach} {v : Value} {d : DataW H} {p : List MemPlace}
    (hv : Value.okWide Try.prog W r b0 46 v) (h : DataW.Trod enc Try.prog W base spare held 46 v d p) :
    ∃ A len cap rs, v = .slice A len cap ∧ len ≤ cap ∧ cap ≤ maxLen ∧ Seen actK W (fun b => b < W.heap.size) A len rs := by
  obtain ⟨A, len, cap, vs, rfl, h1, h2, h3, h4⟩ := open_flat Try.underlying46 (show Try.prog.cellsOf 28 = 5 by kernel_rfl) (by omega) hv h
  obtain ⟨rs, hrs⟩ := seen_of_flat (R := actK) h3 fun i hi => by
    obtain ⟨n0, y0, hy⟩ := h4 i hi
    replace hy : DataW.trod enc Try.prog W base spare held n0 28 [vs (i * 5 + 0), vs (i * 5 + 1), vs (i * 5 + 2), vs (i * 5 + 3), vs (i * 5 + 4)] = some y0 := hy
    obtain ⟨m0, z0, t0⟩ := trod_field (off := 0) (k := 1) (T := 3) Try.underlying28 hy 0 rfl rfl rfl (by kernel_rfl)
    replace t0 : DataW.trod enc Try.prog W base spare held m0 3 [vs (i * 5 + 0)] = some z0 := t0
    obtain ⟨m1, z1, t1⟩ := trod_field (off := 1) (k := 3) (T := 26) Try.underlying28 hy 1 rfl rfl rfl (by kernel_rfl)
    replace t1 : DataW.trod enc Try.prog W base spare held m1 26 [vs (i * 5 + 1), vs (i * 5 + 2), vs (i * 5 + 3)] = some z1 := t1
    obtain ⟨m2, z2, t2⟩ := trod_field (off := 4) (k := 1) (T := 4) Try.underlying28 hy 2 rfl rfl rfl (by kernel_rfl)
    replace t2 : DataW.trod enc Try.prog W base spare held m2 4 [vs (i * 5 + 4)] = some z2 := t2
    obtain ⟨m3, z3, t3⟩ := trod_field (off := 0) (k := 1) (T := 3) Try.underlying26 t1 0 rfl rfl rfl (by kernel_rfl)
    replace t3 : DataW.trod enc Try.prog W base spare held m3 3 [vs (i * 5 + 1)] = some z3 := t3
    obtain ⟨m4, z4, t4⟩ := trod_field (off := 1) (k := 1) (T := 24) Try.underlying26 t1 1 rfl rfl rfl (by kernel_rfl)
    replace t4 : DataW.trod enc Try.prog W base spare held m4 24 [vs (i * 5 + 2)] = some z4 := t4
    obtain ⟨m5, z5, t5⟩ := trod_field (off := 2) (k := 1) (T := 3) Try.underlying26 t1 2 rfl rfl rfl (by kernel_rfl)
    replace t5 : DataW.trod enc Try.prog W base spare held m5 3 [vs (i * 5 + 3)] = some z5 := t5
    obtain ⟨x0, e0, _⟩ := field_int Try.underlying3 t0
    obtain ⟨x1, e1, w1⟩ := field_int Try.underlying3 t3
    obtain ⟨x2, e2, _⟩ := field_int Try.underlying24 t4
    obtain ⟨x3, e3, _⟩ := field_int Try.underlying3 t5
    obtain ⟨x4, e4⟩ := field_bool Try.underlying4 t2
    refine ⟨⟨x0, x1, x2, x3, x4⟩, fun j hj => ?_, ?_⟩
    · show [Value.int .i64 x0, .int .i64 x1, .int .u32 x2, .int .i64 x3, .bool x4][j]? = some (vs (i * 5 + j))
      match j, hj with
      | 0, _ => rw [e0]; rfl
      | 1, _ => rw [e1]; rfl
      | 2, _ => rw [e2]; rfl
      | 3, _ => rw [e3]; rfl
      | 4, _ => rw [e4]; rfl
    · simp only [Lit.wf, Bool.and_eq_true, decide_eq_true_eq] at w1
      exact w1
  exact ⟨A, len, cap, rs, rfl, h1, h2, hrs⟩
end Go.Proofs.Ytejgekoinbdhjaa
