/-
  What is proved: fairway/fairwaylaw29.FlowsNone answers true for every input, and each argument reads afterwards as it read before. Conditions: those of the given statement Rows.FlowsNoneSaid, no others.
-/
import Derived.Test.YtejgekoinbdhjaaRows
import Derived.Test.YtejgekoinbdhjaaLib
import Derived.Test.YtejgekoinbdhjaaFlQ
namespace Go.Proofs.Ytejgekoinbdhjaa.lawFlowsNone
open Go.ChangeShapes Go.WideShapes Go.ChangeAt Go.RowKit
set_option linter.unusedVariables false

theorem own : ownKnob Try.prog.godebug = none := by kernel_rfl
theorem laidOut : laidOutB Try.prog = true := by kernel_rfl

set_option maxRecDepth 100000 in
theorem lifted (os : Os) (started : os.Started) (H : Type) (enc : TypeId × Value → H) :
    ReturnsInHanded {} Try.checked os 8 .any (Rows.flowsNoneSpec.pre6 enc Try.prog Try.f8 Rows.flowsNoneRow.domain false) (Rows.flowsNoneSpec.post enc Try.prog Try.f8 false true false false) := by
  refine returnsInHanded_of_change (C := Try.checked) own started (by kernel_rfl) Try.func8
    (ChangeSpec.witness6 (enc := enc) (C := Try.checked) false ⟨#[], #[.agg #[.int .i64 0, .int .i64 0, .int .u32 0, .int .u32 0, .int .i64 0, .int .i64 0, .int .i64 0, .int .i64 0]], []⟩ 8 (by kernel_rfl) (by kernel_rfl) (by kernel_rfl) (by kernel_rfl)) ?_
  intro W base args ds gs before hval0 hW hcnd _
  have hval : ∀ (j : Nat) t v, Try.f8.params[j]? = some t → args[j]? = some v → Value.okWide Try.prog W .any base t v := hval0
  have hW' := hW
  obtain ⟨p, q, hA0, hV, rfl, hfz, hnd⟩ := hW
  have hA : DataW.TrodAll enc Try.prog W 0 (fun _ => true) true Try.f8.params.toList args.toList ds p := hA0
  rw [Try.params8] at hA hval
  obtain ⟨v0, vs0, d0, ds0, p0, q0, hargs, rfl, rfl, k0, r0⟩ := trodAll_cons hA
  obtain ⟨rfl, rfl, rfl⟩ := trodAll_nil r0
  obtain rfl : args = #[v0] := by cases args; simp_all
  obtain ⟨rfl, rfl⟩ := trodVars_none hV
  have lt0 : ∀ x ∈ p0, x.block < W.heap.size := by obtain ⟨m, hm⟩ := k0; exact DataW.trod_lt m _ _ _ hm
  obtain ⟨cs0, nf0, xf0, rfl, hn0, ht0⟩ := open_whole (N := 8) Try.underlying72 (by kernel_rfl) (hval 0 72 v0 rfl rfl) k0
  have hq0 : ∀ l : List Value, l.length = 8 → ∃ u0_0 u0_1 u0_2 u0_3 u0_4 u0_5 u0_6 u0_7, l = [u0_0, u0_1, u0_2, u0_3, u0_4, u0_5, u0_6, u0_7] := fun l h => match l, h with | [u0_0, u0_1, u0_2, u0_3, u0_4, u0_5, u0_6, u0_7], _ => ⟨u0_0, u0_1, u0_2, u0_3, u0_4, u0_5, u0_6, u0_7, rfl⟩
  obtain ⟨u0_0, u0_1, u0_2, u0_3, u0_4, u0_5, u0_6, u0_7, rfl⟩ := hq0 cs0 hn0
  obtain ⟨n_0_1, y_0_1, h_0_1⟩ := trod_field (off := 0) (k := 1) (T := 3) Try.underlying72 ht0 0 rfl rfl rfl (by kernel_rfl)
  replace h_0_1 : DataW.trod _ _ _ _ _ _ _ 3 [u0_0] = some _ := h_0_1
  obtain ⟨x_0_1, rfl, w_0_1⟩ := field_int Try.underlying3 h_0_1
  obtain ⟨n_0_2, y_0_2, h_0_2⟩ := trod_field (off := 1) (k := 5) (T := 57) Try.underlying72 ht0 1 rfl rfl rfl (by kernel_rfl)
  replace h_0_2 : DataW.trod _ _ _ _ _ _ _ 57 [u0_1, u0_2, u0_3, u0_4, u0_5] = some _ := h_0_2
  obtain ⟨n_0_3, y_0_3, h_0_3⟩ := trod_field (off := 0) (k := 1) (T := 3) Try.underlying57 h_0_2 0 rfl rfl rfl (by kernel_rfl)
  replace h_0_3 : DataW.trod _ _ _ _ _ _ _ 3 [u0_1] = some _ := h_0_3
  obtain ⟨x_0_3, rfl, w_0_3⟩ := field_int Try.underlying3 h_0_3
  obtain ⟨n_0_4, y_0_4, h_0_4⟩ := trod_field (off := 1) (k := 1) (T := 24) Try.underlying57 h_0_2 1 rfl rfl rfl (by kernel_rfl)
  replace h_0_4 : DataW.trod _ _ _ _ _ _ _ 24 [u0_2] = some _ := h_0_4
  obtain ⟨x_0_4, rfl, w_0_4⟩ := field_int Try.underlying24 h_0_4
  obtain ⟨n_0_5, y_0_5, h_0_5⟩ := trod_field (off := 2) (k := 1) (T := 24) Try.underlying57 h_0_2 2 rfl rfl rfl (by kernel_rfl)
  replace h_0_5 : DataW.trod _ _ _ _ _ _ _ 24 [u0_3] = some _ := h_0_5
  obtain ⟨x_0_5, rfl, w_0_5⟩ := field_int Try.underlying24 h_0_5
  obtain ⟨n_0_6, y_0_6, h_0_6⟩ := trod_field (off := 3) (k := 1) (T := 3) Try.underlying57 h_0_2 3 rfl rfl rfl (by kernel_rfl)
  replace h_0_6 : DataW.trod _ _ _ _ _ _ _ 3 [u0_4] = some _ := h_0_6
  obtain ⟨x_0_6, rfl, w_0_6⟩ := field_int Try.underlying3 h_0_6
  obtain ⟨n_0_7, y_0_7, h_0_7⟩ := trod_field (off := 4) (k := 1) (T := 3) Try.underlying57 h_0_2 4 rfl rfl rfl (by kernel_rfl)
  replace h_0_7 : DataW.trod _ _ _ _ _ _ _ 3 [u0_5] = some _ := h_0_7
  obtain ⟨x_0_7, rfl, w_0_7⟩ := field_int Try.underlying3 h_0_7
  obtain ⟨n_0_8, y_0_8, h_0_8⟩ := trod_field (off := 6) (k := 1) (T := 3) Try.underlying72 ht0 2 rfl rfl rfl (by kernel_rfl)
  replace h_0_8 : DataW.trod _ _ _ _ _ _ _ 3 [u0_6] = some _ := h_0_8
  obtain ⟨x_0_8, rfl, w_0_8⟩ := field_int Try.underlying3 h_0_8
  obtain ⟨n_0_9, y_0_9, h_0_9⟩ := trod_field (off := 7) (k := 1) (T := 3) Try.underlying72 ht0 3 rfl rfl rfl (by kernel_rfl)
  replace h_0_9 : DataW.trod _ _ _ _ _ _ _ 3 [u0_7] = some _ := h_0_9
  obtain ⟨x_0_9, rfl, w_0_9⟩ := field_int Try.underlying3 h_0_9
  clear hA0 hval0
  refine (none29_row x_0_1 x_0_3 x_0_4 x_0_5 x_0_6 x_0_7 x_0_8 x_0_9 W w_0_1 w_0_3 w_0_4 w_0_5 w_0_6 w_0_7 w_0_8 w_0_9).mono fun e W' ⟨he, bel⟩ => ?_
  subst he
  exact ⟨_, rfl, _, _, _, [], _, [], hW', trodAll_mk1 (shut_bool Try.underlying4 _), (trodAll_cons_mk (Below.trod laidOut (by kernel_rfl) (of_decide_eq_true (by kernel_rfl)) k0 bel lt0) trodAll_mk0), rfl, bel.frame _, fun h => by cases h⟩

theorem proved : Rows.FlowsNoneSaid :=
  OpenClaim.holds_of_wide 8 Try.f8 rfl rfl rfl rfl rfl rfl rfl ⟨rfl, rfl, rfl, rfl, rfl⟩ rfl rfl rfl rfl rfl (by kernel_rfl) Try.func8 (by kernel_rfl)
    (of_decide_eq_true (by kernel_rfl)) (by unfold Func.isWrapper; first | (rw [if_pos (by decide +kernel)]; kernel_rfl) | (rw [if_neg (by decide +kernel)]; exact ⟨rfl, rfl⟩))
    (fun os started H enc _ => lifted os started H enc)
#print axioms proved
end Go.Proofs.Ytejgekoinbdhjaa.lawFlowsNone
