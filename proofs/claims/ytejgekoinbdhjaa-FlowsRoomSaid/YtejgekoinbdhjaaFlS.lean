/- flows: acts as a law's argument; rows of the document. -/
import Derived.Test.YtejgekoinbdhjaaFlP
import Derived.Test.YtejgekoinbdhjaaRow2L
import Derived.Test.YtejgekoinbdhjaaOpen3
namespace Go.Proofs.Ytejgekoinbdhjaa
set_option linter.unusedVariables false
open Go Go.RowKit Go.Maps Go.ChangeShapes Go.WideShapes Go.ChangeAt

structure ActF where
  k : Int
  f : Flo
  b : Int
  t : Int
/-- acts as elements of rows. -/
def actFK : RK ActF where
  size := 8
  cel a := [.int .i64 a.k, .int .i64 a.f.pr, .int .u32 a.f.src, .int .u32 a.f.dst, .int .i64 a.f.sp, .int .i64 a.f.dp, .int .i64 a.b, .int .i64 a.t]
  ok _ _ a := FloOk a.f ∧ (Lit.int .i64 a.t).wf = true
  pos := by omega
  len _ := rfl
  one _ u hu := by simp at hu; rcases hu with rfl | rfl | rfl | rfl | rfl | rfl | rfl | rfl <;> rfl
  keep h _ := h
  more h _ := h
theorem actF_cells {w : World} {S : Nat → Prop} {A : Option Addr} {n : Nat} {L : List ActF} {k : Nat} (h : Seen actFK w S A n L) (hk : k < n) :
    ∃ b off a, A = some ⟨b, off, none⟩ ∧ S b ∧ L[k]? = some a ∧ FloOk a.f ∧ (Lit.int .i64 a.t).wf = true ∧ w.cell? ⟨b, off + k * 8, none⟩ = some (.int .i64 a.k) ∧ w.cell? ⟨b, off + k * 8 + 1, none⟩ = some (.int .i64 a.f.pr) ∧
      w.cell? ⟨b, off + k * 8 + 2, none⟩ = some (.int .u32 a.f.src) ∧ w.cell? ⟨b, off + k * 8 + 3, none⟩ = some (.int .u32 a.f.dst) ∧ w.cell? ⟨b, off + k * 8 + 4, none⟩ = some (.int .i64 a.f.sp) ∧ w.cell? ⟨b, off + k * 8 + 5, none⟩ = some (.int .i64 a.f.dp) ∧
      w.cell? ⟨b, off + k * 8 + 6, none⟩ = some (.int .i64 a.b) ∧ w.cell? ⟨b, off + k * 8 + 7, none⟩ = some (.int .i64 a.t) := by
  have hlt : k < L.length := by rw [h.1]; exact hk
  have hr := List.getElem?_eq_getElem hlt
  obtain ⟨b, off, e, hb, hc⟩ := h.cell hr
  obtain ⟨o1, o2⟩ := h.2.1 _ (List.getElem_mem hlt)
  exact ⟨b, off, _, e, hb, hr, o1, o2, hc 0 (by decide), hc 1 (by decide), hc 2 (by decide), hc 3 (by decide), hc 4 (by decide), hc 5 (by decide), hc 6 (by decide), hc 7 (by decide)⟩
set_option maxRecDepth 100000 in
theorem open_actsF {H : Type} {enc : TypeId × Value → H} {W : World} {base b0 : Nat} {spare : Nat → Bool} {held : Bool} {r : Reach} {v : Value} {d : DataW H} {p : List MemPlace}
    (hv : Value.okWide Try.prog W r b0 85 v) (h : DataW.Trod enc Try.prog W base spare held 85 v d p) :
    ∃ A len cap rs, v = .slice A len cap ∧ len ≤ cap ∧ cap ≤ maxLen ∧ Seen actFK W (fun b => b < W.heap.size) A len rs := by
  obtain ⟨A, len, cap, vs, rfl, h1, h2, h3, h4⟩ := open_flat Try.underlying85 (show Try.prog.cellsOf 72 = 8 by kernel_rfl) (by omega) hv h
  obtain ⟨rs, hrs⟩ := seen_of_flat (R := actFK) h3 fun i hi => by
    obtain ⟨n0, y0, hy⟩ := h4 i hi
    replace hy : DataW.trod enc Try.prog W base spare held n0 72 [vs (i * 8 + 0), vs (i * 8 + 1), vs (i * 8 + 2), vs (i * 8 + 3), vs (i * 8 + 4), vs (i * 8 + 5), vs (i * 8 + 6), vs (i * 8 + 7)] = some y0 := hy
    obtain ⟨m0, z0, t0⟩ := trod_field (off := 0) (k := 1) (T := 3) Try.underlying72 hy 0 rfl rfl rfl (by kernel_rfl)
    replace t0 : DataW.trod enc Try.prog W base spare held m0 3 [vs (i * 8 + 0)] = some z0 := t0
    obtain ⟨m1, z1, t1⟩ := trod_field (off := 1) (k := 5) (T := 57) Try.underlying72 hy 1 rfl rfl rfl (by kernel_rfl)
    replace t1 : DataW.trod enc Try.prog W base spare held m1 57 [vs (i * 8 + 1), vs (i * 8 + 2), vs (i * 8 + 3), vs (i * 8 + 4), vs (i * 8 + 5)] = some z1 := t1
    obtain ⟨m2, z2, t2⟩ := trod_field (off := 0) (k := 1) (T := 3) Try.underlying57 t1 0 rfl rfl rfl (by kernel_rfl)
    replace t2 : DataW.trod enc Try.prog W base spare held m2 3 [vs (i * 8 + 1)] = some z2 := t2
    obtain ⟨m3, z3, t3⟩ := trod_field (off := 1) (k := 1) (T := 24) Try.underlying57 t1 1 rfl rfl rfl (by kernel_rfl)
    replace t3 : DataW.trod enc Try.prog W base spare held m3 24 [vs (i * 8 + 2)] = some z3 := t3
    obtain ⟨m4, z4, t4⟩ := trod_field (off := 2) (k := 1) (T := 24) Try.underlying57 t1 2 rfl rfl rfl (by kernel_rfl)
    replace t4 : DataW.trod enc Try.prog W base spare held m4 24 [vs (i * 8 + 3)] = some z4 := t4
    obtain ⟨m5, z5, t5⟩ := trod_field (off := 3) (k := 1) (T := 3) Try.underlying57 t1 3 rfl rfl rfl (by kernel_rfl)
    replace t5 : DataW.trod enc Try.prog W base spare held m5 3 [vs (i * 8 + 4)] = some z5 := t5
    obtain ⟨m6, z6, t6⟩ := trod_field (off := 4) (k := 1) (T := 3) Try.underlying57 t1 4 rfl rfl rfl (by kernel_rfl)
    replace t6 : DataW.trod enc Try.prog W base spare held m6 3 [vs (i * 8 + 5)] = some z6 := t6
    obtain ⟨m7, z7, t7⟩ := trod_field (off := 6) (k := 1) (T := 3) Try.underlying72 hy 2 rfl rfl rfl (by kernel_rfl)
    replace t7 : DataW.trod enc Try.prog W base spare held m7 3 [vs (i * 8 + 6)] = some z7 := t7
    obtain ⟨m8, z8, t8⟩ := trod_field (off := 7) (k := 1) (T := 3) Try.underlying72 hy 3 rfl rfl rfl (by kernel_rfl)
    replace t8 : DataW.trod enc Try.prog W base spare held m8 3 [vs (i * 8 + 7)] = some z8 := t8
    obtain ⟨x0, e0, w0⟩ := field_int Try.underlying3 t0
    obtain ⟨x1, e1, w1⟩ := field_int Try.underlying3 t2
    obtain ⟨x2, e2, w2⟩ := field_int Try.underlying24 t3
    obtain ⟨x3, e3, w3⟩ := field_int Try.underlying24 t4
    obtain ⟨x4, e4, w4⟩ := field_int Try.underlying3 t5
    obtain ⟨x5, e5, w5⟩ := field_int Try.underlying3 t6
    obtain ⟨x6, e6, w6⟩ := field_int Try.underlying3 t7
    obtain ⟨x7, e7, w7⟩ := field_int Try.underlying3 t8
    refine ⟨⟨x0, ⟨x1, x2, x3, x4, x5⟩, x6, x7⟩, fun j hj => ?_, ?_⟩
    · show [.int .i64 x0, .int .i64 x1, .int .u32 x2, .int .u32 x3, .int .i64 x4, .int .i64 x5, .int .i64 x6, .int .i64 x7][j]? = some (vs (i * 8 + j))
      match j, hj with
      | 0, _ => rw [e0]; rfl
      | 1, _ => rw [e1]; rfl
      | 2, _ => rw [e2]; rfl
      | 3, _ => rw [e3]; rfl
      | 4, _ => rw [e4]; rfl
      | 5, _ => rw [e5]; rfl
      | 6, _ => rw [e6]; rfl
      | 7, _ => rw [e7]; rfl
    · exact ⟨⟨w1, w2, w3, w4, w5⟩, w7⟩
  exact ⟨A, len, cap, rs, rfl, h1, h2, hrs⟩
end Go.Proofs.Ytejgekoinbdhjaa
