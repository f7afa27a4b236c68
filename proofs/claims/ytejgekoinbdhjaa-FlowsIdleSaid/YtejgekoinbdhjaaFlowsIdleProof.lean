/-
  What is proved: fairway/fairwaylaw29.FlowsIdle answers true for every input, and each argument reads afterwards as it read before. Conditions: those of the given statement Rows.FlowsIdleSaid, no others.
-/
import Derived.Test.YtejgekoinbdhjaaRows
import Derived.Test.YtejgekoinbdhjaaLib
import Derived.Test.YtejgekoinbdhjaaFlR
namespace Go.Proofs.Ytejgekoinbdhjaa.lawFlowsIdle
open Go.ChangeShapes Go.WideShapes Go.ChangeAt Go.RowKit
set_option linter.unusedVariables false

theorem own : ownKnob Try.prog.godebug = none := by kernel_rfl
theorem laidOut : laidOutB Try.prog = true := by kernel_rfl

set_option maxRecDepth 100000 in
theorem lifted (os : Os) (started : os.Started) (H : Type) (enc : TypeId × Value → H) :
    ReturnsInHanded {} Try.checked os 7 .any (Rows.flowsIdleSpec.pre6 enc Try.prog Try.f7 Rows.flowsIdleRow.domain false) (Rows.flowsIdleSpec.post enc Try.prog Try.f7 false true false false) := by
  refine returnsInHanded_of_change (C := Try.checked) own started (by kernel_rfl) Try.func7
    (ChangeSpec.witness6 (enc := enc) (C := Try.checked) false ⟨#[], #[.int .u8 0, .slice none 0 0, .agg #[.int .i64 0, .int .u32 0, .int .u32 0, .int .i64 0, .int .i64 0, .int .i64 0, .int .u32 0, .int .u32 0, .int .i64 0, .int .i64 0]], []⟩ 8 (by kernel_rfl) (by kernel_rfl) (by kernel_rfl) (by kernel_rfl)) ?_
  intro W base args ds gs before hval0 hW hcnd _
  have hval : ∀ (j : Nat) t v, Try.f7.params[j]? = some t → args[j]? = some v → Value.okWide Try.prog W .any base t v := hval0
  have hW' := hW
  obtain ⟨p, q, hA0, hV, rfl, hfz, hnd⟩ := hW
  have hA : DataW.TrodAll enc Try.prog W 0 (fun _ => true) true Try.f7.params.toList args.toList ds p := hA0
  rw [Try.params7] at hA hval
  obtain ⟨v0, vs0, d0, ds0, p0, q0, hargs, rfl, rfl, k0, r0⟩ := trodAll_cons hA
  obtain ⟨v1, vs1, d1, ds1, p1, q1, rfl, rfl, rfl, k1, r1⟩ := trodAll_cons r0
  obtain ⟨v2, vs2, d2, ds2, p2, q2, rfl, rfl, rfl, k2, r2⟩ := trodAll_cons r1
  obtain ⟨rfl, rfl, rfl⟩ := trodAll_nil r2
  obtain rfl : args = #[v0, v1, v2] := by cases args; simp_all
  obtain ⟨rfl, rfl⟩ := trodVars_none hV
  have lt0 : ∀ x ∈ p0, x.block < W.heap.size := by obtain ⟨m, hm⟩ := k0; exact DataW.trod_lt m _ _ _ hm
  have lt1 : ∀ x ∈ p1, x.block < W.heap.size := by obtain ⟨m, hm⟩ := k1; exact DataW.trod_lt m _ _ _ hm
  have lt2 : ∀ x ∈ p2, x.block < W.heap.size := by obtain ⟨m, hm⟩ := k2; exact DataW.trod_lt m _ _ _ hm
  obtain ⟨a0, rfl, -, -, w0⟩ := open_int Try.underlying5 (hval 0 5 v0 rfl rfl) k0
  obtain ⟨a1, n1, c1, l1, rfl, hl1, hm1, w1⟩ := open_byt Try.underlying55 Try.underlying5 (by kernel_rfl) (hval 1 55 v1 rfl rfl) k1
  obtain ⟨cs2, nf2, xf2, rfl, hn2, ht2⟩ := open_wholeA (N := 10) Try.underlying58 (by kernel_rfl) (hval 2 58 v2 rfl rfl) k2
  have hq2 : ∀ l : List Value, l.length = 10 → ∃ u2_0 u2_1 u2_2 u2_3 u2_4 u2_5 u2_6 u2_7 u2_8 u2_9, l = [u2_0, u2_1, u2_2, u2_3, u2_4, u2_5, u2_6, u2_7, u2_8, u2_9] := fun l h => match l, h with | [u2_0, u2_1, u2_2, u2_3, u2_4, u2_5, u2_6, u2_7, u2_8, u2_9], _ => ⟨u2_0, u2_1, u2_2, u2_3, u2_4, u2_5, u2_6, u2_7, u2_8, u2_9, rfl⟩
  obtain ⟨u2_0, u2_1, u2_2, u2_3, u2_4, u2_5, u2_6, u2_7, u2_8, u2_9, rfl⟩ := hq2 cs2 hn2
  obtain ⟨n_2_e0, y_2_e0, h_2_e0⟩ := trod_elem (k := 5) (T := 57) Try.underlying58 ht2 0 (by decide) (by kernel_rfl)
  replace h_2_e0 : DataW.trod _ _ _ _ _ _ _ 57 [u2_0, u2_1, u2_2, u2_3, u2_4] = some _ := h_2_e0
  obtain ⟨n_2_1, y_2_1, h_2_1⟩ := trod_field (off := 0) (k := 1) (T := 3) Try.underlying57 h_2_e0 0 rfl rfl rfl (by kernel_rfl)
  replace h_2_1 : DataW.trod _ _ _ _ _ _ _ 3 [u2_0] = some _ := h_2_1
  obtain ⟨x_2_1, rfl, w_2_1⟩ := field_int Try.underlying3 h_2_1
  obtain ⟨n_2_2, y_2_2, h_2_2⟩ := trod_field (off := 1) (k := 1) (T := 24) Try.underlying57 h_2_e0 1 rfl rfl rfl (by kernel_rfl)
  replace h_2_2 : DataW.trod _ _ _ _ _ _ _ 24 [u2_1] = some _ := h_2_2
  obtain ⟨x_2_2, rfl, w_2_2⟩ := field_int Try.underlying24 h_2_2
  obtain ⟨n_2_3, y_2_3, h_2_3⟩ := trod_field (off := 2) (k := 1) (T := 24) Try.underlying57 h_2_e0 2 rfl rfl rfl (by kernel_rfl)
  replace h_2_3 : DataW.trod _ _ _ _ _ _ _ 24 [u2_2] = some _ := h_2_3
  obtain ⟨x_2_3, rfl, w_2_3⟩ := field_int Try.underlying24 h_2_3
  obtain ⟨n_2_4, y_2_4, h_2_4⟩ := trod_field (off := 3) (k := 1) (T := 3) Try.underlying57 h_2_e0 3 rfl rfl rfl (by kernel_rfl)
  replace h_2_4 : DataW.trod _ _ _ _ _ _ _ 3 [u2_3] = some _ := h_2_4
  obtain ⟨x_2_4, rfl, w_2_4⟩ := field_int Try.underlying3 h_2_4
  obtain ⟨n_2_5, y_2_5, h_2_5⟩ := trod_field (off := 4) (k := 1) (T := 3) Try.underlying57 h_2_e0 4 rfl rfl rfl (by kernel_rfl)
  replace h_2_5 : DataW.trod _ _ _ _ _ _ _ 3 [u2_4] = some _ := h_2_5
  obtain ⟨x_2_5, rfl, w_2_5⟩ := field_int Try.underlying3 h_2_5
  obtain ⟨n_2_e1, y_2_e1, h_2_e1⟩ := trod_elem (k := 5) (T := 57) Try.underlying58 ht2 1 (by decide) (by kernel_rfl)
  replace h_2_e1 : DataW.trod _ _ _ _ _ _ _ 57 [u2_5, u2_6, u2_7, u2_8, u2_9] = some _ := h_2_e1
  obtain ⟨n_2_6, y_2_6, h_2_6⟩ := trod_field (off := 0) (k := 1) (T := 3) Try.underlying57 h_2_e1 0 rfl rfl rfl (by kernel_rfl)
  replace h_2_6 : DataW.trod _ _ _ _ _ _ _ 3 [u2_5] = some _ := h_2_6
  obtain ⟨x_2_6, rfl, w_2_6⟩ := field_int Try.underlying3 h_2_6
  obtain ⟨n_2_7, y_2_7, h_2_7⟩ := trod_field (off := 1) (k := 1) (T := 24) Try.underlying57 h_2_e1 1 rfl rfl rfl (by kernel_rfl)
  replace h_2_7 : DataW.trod _ _ _ _ _ _ _ 24 [u2_6] = some _ := h_2_7
  obtain ⟨x_2_7, rfl, w_2_7⟩ := field_int Try.underlying24 h_2_7
  obtain ⟨n_2_8, y_2_8, h_2_8⟩ := trod_field (off := 2) (k := 1) (T := 24) Try.underlying57 h_2_e1 2 rfl rfl rfl (by kernel_rfl)
  replace h_2_8 : DataW.trod _ _ _ _ _ _ _ 24 [u2_7] = some _ := h_2_8
  obtain ⟨x_2_8, rfl, w_2_8⟩ := field_int Try.underlying24 h_2_8
  obtain ⟨n_2_9, y_2_9, h_2_9⟩ := trod_field (off := 3) (k := 1) (T := 3) Try.underlying57 h_2_e1 3 rfl rfl rfl (by kernel_rfl)
  replace h_2_9 : DataW.trod _ _ _ _ _ _ _ 3 [u2_8] = some _ := h_2_9
  obtain ⟨x_2_9, rfl, w_2_9⟩ := field_int Try.underlying3 h_2_9
  obtain ⟨n_2_10, y_2_10, h_2_10⟩ := trod_field (off := 4) (k := 1) (T := 3) Try.underlying57 h_2_e1 4 rfl rfl rfl (by kernel_rfl)
  replace h_2_10 : DataW.trod _ _ _ _ _ _ _ 3 [u2_9] = some _ := h_2_10
  obtain ⟨x_2_10, rfl, w_2_10⟩ := field_int Try.underlying3 h_2_10
  clear hA0 hval0
  refine (idle29_row a0 a1 n1 c1 l1 x_2_1 x_2_2 x_2_3 x_2_4 x_2_5 x_2_6 x_2_7 x_2_8 x_2_9 x_2_10 W w0 hl1 hm1 w1 w_2_1 w_2_2 w_2_3 w_2_4 w_2_5 w_2_6 w_2_7 w_2_8 w_2_9 w_2_10).mono fun e W' ⟨he, bel⟩ => ?_
  subst he
  exact ⟨_, rfl, _, _, _, [], _, [], hW', trodAll_mk1 (shut_bool Try.underlying4 _), (trodAll_cons_mk (Below.trod laidOut (by kernel_rfl) (of_decide_eq_true (by kernel_rfl)) k0 bel lt0) (trodAll_cons_mk (Below.trod laidOut (by kernel_rfl) (of_decide_eq_true (by kernel_rfl)) k1 bel lt1) (trodAll_cons_mk (Below.trod laidOut (by kernel_rfl) (of_decide_eq_true (by kernel_rfl)) k2 bel lt2) trodAll_mk0))), rfl, bel.frame _, fun h => by cases h⟩

theorem proved : Rows.FlowsIdleSaid :=
  OpenClaim.holds_of_wide 7 Try.f7 rfl rfl rfl rfl rfl rfl rfl ⟨rfl, rfl, rfl, rfl, rfl⟩ rfl rfl rfl rfl rfl (by kernel_rfl) Try.func7 (by kernel_rfl)
    (of_decide_eq_true (by kernel_rfl)) (by unfold Func.isWrapper; first | (rw [if_pos (by decide +kernel)]; kernel_rfl) | (rw [if_neg (by decide +kernel)]; exact ⟨rfl, rfl⟩))
    (fun os started H enc _ => lifted os started H enc)
#print axioms proved
end Go.Proofs.Ytejgekoinbdhjaa.lawFlowsIdle
