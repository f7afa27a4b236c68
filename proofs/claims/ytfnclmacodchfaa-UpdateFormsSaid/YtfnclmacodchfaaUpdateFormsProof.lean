/-
  What is proved: fairway/fairwaylaw09.UpdateForms answers true for every input, and each argument reads afterwards as it read before. Conditions: those of the given statement Rows.UpdateFormsSaid, no others.
-/
import Derived.Test.YtfnclmacodchfaaRows
import Derived.Test.YtfnclmacodchfaaLib
import Derived.Test.YtfnclmacodchfaaPfV
namespace Go.Proofs.Ytfnclmacodchfaa.lawUpdateForms
open Go.ChangeShapes Go.WideShapes Go.ChangeAt Go.RowKit
set_option linter.unusedVariables false

theorem own : ownKnob Try.prog.godebug = none := by kernel_rfl
theorem laidOut : laidOutB Try.prog = true := by kernel_rfl

set_option maxRecDepth 100000 in
theorem lifted (os : Os) (started : os.Started) (H : Type) (enc : TypeId × Value → H) :
    ReturnsInHanded {} Try.checked os 3 .any (Rows.updateFormsSpec.pre6 enc Try.prog Try.f3 Rows.updateFormsRow.domain false) (Rows.updateFormsSpec.post enc Try.prog Try.f3 false true false false) := by
  refine returnsInHanded_of_change (C := Try.checked) own started (by kernel_rfl) Try.func3
    (ChangeSpec.witness6 (enc := enc) (C := Try.checked) false ⟨#[], #[.agg #[.slice none 0 0, .int .i64 0, .slice none 0 0, .int .u32 0, .int .i64 0, .bool false, .slice none 0 0], .agg #[.slice none 0 0, .int .i64 0, .slice none 0 0, .int .u32 0, .int .i64 0, .bool false, .slice none 0 0]], []⟩ 8 (by kernel_rfl) (by kernel_rfl) (by kernel_rfl) (by kernel_rfl)) ?_
  intro W base args ds gs before hval0 hW hcnd _
  have hval : ∀ (j : Nat) t v, Try.f3.params[j]? = some t → args[j]? = some v → Value.okWide Try.prog W .any base t v := hval0
  have hW' := hW
  obtain ⟨p, q, hA0, hV, rfl, hfz, hnd⟩ := hW
  have hA : DataW.TrodAll enc Try.prog W 0 (fun _ => true) true Try.f3.params.toList args.toList ds p := hA0
  rw [Try.params3] at hA hval
  obtain ⟨v0, vs0, d0, ds0, p0, q0, hargs, rfl, rfl, k0, r0⟩ := trodAll_cons hA
  obtain ⟨v1, vs1, d1, ds1, p1, q1, rfl, rfl, rfl, k1, r1⟩ := trodAll_cons r0
  obtain ⟨rfl, rfl, rfl⟩ := trodAll_nil r1
  obtain rfl : args = #[v0, v1] := by cases args; simp_all
  obtain ⟨rfl, rfl⟩ := trodVars_none hV
  have lt0 : ∀ x ∈ p0, x.block < W.heap.size := by obtain ⟨m, hm⟩ := k0; exact DataW.trod_lt m _ _ _ hm
  have lt1 : ∀ x ∈ p1, x.block < W.heap.size := by obtain ⟨m, hm⟩ := k1; exact DataW.trod_lt m _ _ _ hm
  obtain ⟨cs0, nf0, xf0, rfl, hn0, ht0⟩ := open_whole (N := 7) Try.underlying28 (by kernel_rfl) (hval 0 28 v0 rfl rfl) k0
  have hq0 : ∀ l : List Value, l.length = 7 → ∃ u0_0 u0_1 u0_2 u0_3 u0_4 u0_5 u0_6, l = [u0_0, u0_1, u0_2, u0_3, u0_4, u0_5, u0_6] := fun l h => match l, h with | [u0_0, u0_1, u0_2, u0_3, u0_4, u0_5, u0_6], _ => ⟨u0_0, u0_1, u0_2, u0_3, u0_4, u0_5, u0_6, rfl⟩
  obtain ⟨u0_0, u0_1, u0_2, u0_3, u0_4, u0_5, u0_6, rfl⟩ := hq0 cs0 hn0
  obtain ⟨n_0_1, y_0_1, h_0_1⟩ := trod_field (off := 0) (k := 1) (T := 22) Try.underlying28 ht0 0 rfl rfl rfl (by kernel_rfl)
  replace h_0_1 : DataW.trod _ _ _ _ _ _ _ 22 [u0_0] = some _ := h_0_1
  obtain ⟨x_0_1, n_0_1n, c_0_1, l_0_1, rfl, hl_0_1, hm_0_1, w_0_1⟩ := field_pfs Try.underlying22 Try.underlying61 (by kernel_rfl) (by kernel_rfl) rfl rfl rfl Try.underlying24 Try.underlying3 h_0_1
  obtain ⟨n_0_2, y_0_2, h_0_2⟩ := trod_field (off := 1) (k := 5) (T := 26) Try.underlying28 ht0 1 rfl rfl rfl (by kernel_rfl)
  replace h_0_2 : DataW.trod _ _ _ _ _ _ _ 26 [u0_1, u0_2, u0_3, u0_4, u0_5] = some _ := h_0_2
  obtain ⟨n_0_3, y_0_3, h_0_3⟩ := trod_field (off := 0) (k := 1) (T := 3) Try.underlying26 h_0_2 0 rfl rfl rfl (by kernel_rfl)
  replace h_0_3 : DataW.trod _ _ _ _ _ _ _ 3 [u0_1] = some _ := h_0_3
  obtain ⟨x_0_3, rfl, w_0_3⟩ := field_int Try.underlying3 h_0_3
  obtain ⟨n_0_4, y_0_4, h_0_4⟩ := trod_field (off := 1) (k := 1) (T := 23) Try.underlying26 h_0_2 1 rfl rfl rfl (by kernel_rfl)
  replace h_0_4 : DataW.trod _ _ _ _ _ _ _ 23 [u0_2] = some _ := h_0_4
  obtain ⟨x_0_4, n_0_4n, c_0_4, l_0_4, rfl, hl_0_4, hm_0_4, w_0_4⟩ := field_nums Try.underlying23 Try.underlying3 (by kernel_rfl) h_0_4
  obtain ⟨n_0_5, y_0_5, h_0_5⟩ := trod_field (off := 2) (k := 1) (T := 24) Try.underlying26 h_0_2 2 rfl rfl rfl (by kernel_rfl)
  replace h_0_5 : DataW.trod _ _ _ _ _ _ _ 24 [u0_3] = some _ := h_0_5
  obtain ⟨x_0_5, rfl, w_0_5⟩ := field_int Try.underlying24 h_0_5
  obtain ⟨n_0_6, y_0_6, h_0_6⟩ := trod_field (off := 3) (k := 1) (T := 3) Try.underlying26 h_0_2 3 rfl rfl rfl (by kernel_rfl)
  replace h_0_6 : DataW.trod _ _ _ _ _ _ _ 3 [u0_4] = some _ := h_0_6
  obtain ⟨x_0_6, rfl, w_0_6⟩ := field_int Try.underlying3 h_0_6
  obtain ⟨n_0_7, y_0_7, h_0_7⟩ := trod_field (off := 4) (k := 1) (T := 4) Try.underlying26 h_0_2 4 rfl rfl rfl (by kernel_rfl)
  replace h_0_7 : DataW.trod _ _ _ _ _ _ _ 4 [u0_5] = some _ := h_0_7
  obtain ⟨x_0_7, rfl⟩ := field_bool Try.underlying4 h_0_7
  obtain ⟨n_0_8, y_0_8, h_0_8⟩ := trod_field (off := 6) (k := 1) (T := 22) Try.underlying28 ht0 2 rfl rfl rfl (by kernel_rfl)
  replace h_0_8 : DataW.trod _ _ _ _ _ _ _ 22 [u0_6] = some _ := h_0_8
  obtain ⟨x_0_8, n_0_8n, c_0_8, l_0_8, rfl, hl_0_8, hm_0_8, w_0_8⟩ := field_pfs Try.underlying22 Try.underlying61 (by kernel_rfl) (by kernel_rfl) rfl rfl rfl Try.underlying24 Try.underlying3 h_0_8
  obtain ⟨cs1, nf1, xf1, rfl, hn1, ht1⟩ := open_whole (N := 7) Try.underlying28 (by kernel_rfl) (hval 1 28 v1 rfl rfl) k1
  have hq1 : ∀ l : List Value, l.length = 7 → ∃ u1_0 u1_1 u1_2 u1_3 u1_4 u1_5 u1_6, l = [u1_0, u1_1, u1_2, u1_3, u1_4, u1_5, u1_6] := fun l h => match l, h with | [u1_0, u1_1, u1_2, u1_3, u1_4, u1_5, u1_6], _ => ⟨u1_0, u1_1, u1_2, u1_3, u1_4, u1_5, u1_6, rfl⟩
  obtain ⟨u1_0, u1_1, u1_2, u1_3, u1_4, u1_5, u1_6, rfl⟩ := hq1 cs1 hn1
  obtain ⟨n_1_1, y_1_1, h_1_1⟩ := trod_field (off := 0) (k := 1) (T := 22) Try.underlying28 ht1 0 rfl rfl rfl (by kernel_rfl)
  replace h_1_1 : DataW.trod _ _ _ _ _ _ _ 22 [u1_0] = some _ := h_1_1
  obtain ⟨x_1_1, n_1_1n, c_1_1, l_1_1, rfl, hl_1_1, hm_1_1, w_1_1⟩ := field_pfs Try.underlying22 Try.underlying61 (by kernel_rfl) (by kernel_rfl) rfl rfl rfl Try.underlying24 Try.underlying3 h_1_1
  obtain ⟨n_1_2, y_1_2, h_1_2⟩ := trod_field (off := 1) (k := 5) (T := 26) Try.underlying28 ht1 1 rfl rfl rfl (by kernel_rfl)
  replace h_1_2 : DataW.trod _ _ _ _ _ _ _ 26 [u1_1, u1_2, u1_3, u1_4, u1_5] = some _ := h_1_2
  obtain ⟨n_1_3, y_1_3, h_1_3⟩ := trod_field (off := 0) (k := 1) (T := 3) Try.underlying26 h_1_2 0 rfl rfl rfl (by kernel_rfl)
  replace h_1_3 : DataW.trod _ _ _ _ _ _ _ 3 [u1_1] = some _ := h_1_3
  obtain ⟨x_1_3, rfl, w_1_3⟩ := field_int Try.underlying3 h_1_3
  obtain ⟨n_1_4, y_1_4, h_1_4⟩ := trod_field (off := 1) (k := 1) (T := 23) Try.underlying26 h_1_2 1 rfl rfl rfl (by kernel_rfl)
  replace h_1_4 : DataW.trod _ _ _ _ _ _ _ 23 [u1_2] = some _ := h_1_4
  obtain ⟨x_1_4, n_1_4n, c_1_4, l_1_4, rfl, hl_1_4, hm_1_4, w_1_4⟩ := field_nums Try.underlying23 Try.underlying3 (by kernel_rfl) h_1_4
  obtain ⟨n_1_5, y_1_5, h_1_5⟩ := trod_field (off := 2) (k := 1) (T := 24) Try.underlying26 h_1_2 2 rfl rfl rfl (by kernel_rfl)
  replace h_1_5 : DataW.trod _ _ _ _ _ _ _ 24 [u1_3] = some _ := h_1_5
  obtain ⟨x_1_5, rfl, w_1_5⟩ := field_int Try.underlying24 h_1_5
  obtain ⟨n_1_6, y_1_6, h_1_6⟩ := trod_field (off := 3) (k := 1) (T := 3) Try.underlying26 h_1_2 3 rfl rfl rfl (by kernel_rfl)
  replace h_1_6 : DataW.trod _ _ _ _ _ _ _ 3 [u1_4] = some _ := h_1_6
  obtain ⟨x_1_6, rfl, w_1_6⟩ := field_int Try.underlying3 h_1_6
  obtain ⟨n_1_7, y_1_7, h_1_7⟩ := trod_field (off := 4) (k := 1) (T := 4) Try.underlying26 h_1_2 4 rfl rfl rfl (by kernel_rfl)
  replace h_1_7 : DataW.trod _ _ _ _ _ _ _ 4 [u1_5] = some _ := h_1_7
  obtain ⟨x_1_7, rfl⟩ := field_bool Try.underlying4 h_1_7
  obtain ⟨n_1_8, y_1_8, h_1_8⟩ := trod_field (off := 6) (k := 1) (T := 22) Try.underlying28 ht1 2 rfl rfl rfl (by kernel_rfl)
  replace h_1_8 : DataW.trod _ _ _ _ _ _ _ 22 [u1_6] = some _ := h_1_8
  obtain ⟨x_1_8, n_1_8n, c_1_8, l_1_8, rfl, hl_1_8, hm_1_8, w_1_8⟩ := field_pfs Try.underlying22 Try.underlying61 (by kernel_rfl) (by kernel_rfl) rfl rfl rfl Try.underlying24 Try.underlying3 h_1_8
  clear hA0 hval0
  refine (forms9_walk x_0_1 n_0_1n c_0_1 l_0_1 x_0_3 x_0_4 n_0_4n c_0_4 l_0_4 x_0_5 x_0_6 x_0_7 x_0_8 n_0_8n c_0_8 l_0_8 x_1_1 n_1_1n c_1_1 l_1_1 x_1_3 x_1_4 n_1_4n c_1_4 l_1_4 x_1_5 x_1_6 x_1_7 x_1_8 n_1_8n c_1_8 l_1_8 W hl_0_1 hm_0_1 w_0_1 w_0_3 hl_0_4 hm_0_4 w_0_4 w_0_5 w_0_6 hl_0_8 hm_0_8 w_0_8 hl_1_1 hm_1_1 w_1_1 w_1_3 hl_1_4 hm_1_4 w_1_4 w_1_5 w_1_6 hl_1_8 hm_1_8 w_1_8).mono fun e W' ⟨he, bel⟩ => ?_
  subst he
  exact ⟨_, rfl, _, _, _, [], _, [], hW', trodAll_mk1 (shut_bool Try.underlying4 _), (trodAll_cons_mk (Below.trod laidOut (by kernel_rfl) (of_decide_eq_true (by kernel_rfl)) k0 bel lt0) (trodAll_cons_mk (Below.trod laidOut (by kernel_rfl) (of_decide_eq_true (by kernel_rfl)) k1 bel lt1) trodAll_mk0)), rfl, bel.frame _, fun h => by cases h⟩

theorem proved : Rows.UpdateFormsSaid :=
  OpenClaim.holds_of_wide 3 Try.f3 rfl rfl rfl rfl rfl rfl rfl ⟨rfl, rfl, rfl, rfl, rfl⟩ rfl rfl rfl rfl rfl (by kernel_rfl) Try.func3 (by kernel_rfl)
    (of_decide_eq_true (by kernel_rfl)) (by unfold Func.isWrapper; first | (rw [if_pos (by decide +kernel)]; kernel_rfl) | (rw [if_neg (by decide +kernel)]; exact ⟨rfl, rfl⟩))
    (fun os started H enc _ => lifted os started H enc)
#print axioms proved
end Go.Proofs.Ytfnclmacodchfaa.lawUpdateForms
