import Derived.Test.YtecmhakapomepaaGreatRows
import Derived.Test.YtecmhakapomepaaGreatMConfigForms1
import Derived.Test.YtecmhakapomepaaGreatMConfigForms36
/-
  What is proved: fairway/fairwaylaw32.ConfigForms answers true for every input, and each argument reads afterwards as it read before. Conditions: those of the given statement Rows.ConfigFormsSaid, no others.
-/
namespace Go.Proofs.YtecmhakapomepaaGreat.lawConfigForms
open Go.ChangeShapes Go.WideShapes Go.ChangeAt Go.RowKit
set_option linter.unusedVariables false

theorem own : ownKnob Tryz.prog.godebug = none := by kernel_rfl
theorem laidOut : laidOutB Tryz.prog = true := by kernel_rfl

set_option maxRecDepth 100000 in
theorem lifted (os : Os) (started : os.Started) (H : Type) (enc : TypeId × Value → H) :
    ReturnsInHanded {} Tryz.checked os 3 .any (Rows.configFormsSpec.pre6 enc Tryz.prog Tryz.f3 Rows.configFormsRow.domain false) (Rows.configFormsSpec.post enc Tryz.prog Tryz.f3 false true false false) := by
  refine returnsInHanded_of_change (C := Tryz.checked) own started (by kernel_rfl) Tryz.func3
    (ChangeSpec.witness6 (enc := enc) (C := Tryz.checked) false ⟨#[], #[.agg #[.int .i64 0, .int .u32 0, .int .u32 0, .slice none 0 0, .slice none 0 0, .slice none 0 0, .int .i64 0, .int .i64 0, .int .i64 0, .int .i64 0, .int .i64 0, .int .i64 0, .int .i64 0, .int .i64 0, .int .i64 0, .int .i64 0, .int .i64 0, .int .i64 0, .int .i64 0], .agg #[.int .i64 0, .int .u32 0, .int .u32 0, .slice none 0 0, .slice none 0 0, .slice none 0 0, .int .i64 0, .int .i64 0, .int .i64 0, .int .i64 0, .int .i64 0, .int .i64 0, .int .i64 0, .int .i64 0, .int .i64 0, .int .i64 0, .int .i64 0, .int .i64 0, .int .i64 0], .slice none 0 0], []⟩ 8 (by kernel_rfl) (by kernel_rfl) (by kernel_rfl) (by kernel_rfl)) ?_
  intro W base args ds gs before hval0 hW hcnd _
  have hval : ∀ (j : Nat) t v, Tryz.f3.params[j]? = some t → args[j]? = some v → Value.okWide Tryz.prog W .any base t v := hval0
  have hW' := hW
  obtain ⟨p, q, hA0, hV, rfl, hfz, hnd⟩ := hW
  have hA : DataW.TrodAll enc Tryz.prog W 0 (fun _ => true) true Tryz.f3.params.toList args.toList ds p := hA0
  rw [Tryz.params3] at hA hval
  obtain ⟨v0, vs0, d0, ds0, p0, q0, hargs, rfl, rfl, k0, r0⟩ := trodAll_cons hA
  obtain ⟨v1, vs1, d1, ds1, p1, q1, rfl, rfl, rfl, k1, r1⟩ := trodAll_cons r0
  obtain ⟨v2, vs2, d2, ds2, p2, q2, rfl, rfl, rfl, k2, r2⟩ := trodAll_cons r1
  obtain ⟨rfl, rfl, rfl⟩ := trodAll_nil r2
  obtain rfl : args = #[v0, v1, v2] := by cases args; simp_all
  obtain ⟨rfl, rfl⟩ := trodVars_none hV
  have lt0 : ∀ x ∈ p0, x.block < W.heap.size := by obtain ⟨m, hm⟩ := k0; exact DataW.trod_lt m _ _ _ hm
  have lt1 : ∀ x ∈ p1, x.block < W.heap.size := by obtain ⟨m, hm⟩ := k1; exact DataW.trod_lt m _ _ _ hm
  have lt2 : ∀ x ∈ p2, x.block < W.heap.size := by obtain ⟨m, hm⟩ := k2; exact DataW.trod_lt m _ _ _ hm
  obtain ⟨cs0, nf0, xf0, rfl, hn0, ht0⟩ := open_whole (N := 19) Tryz.underlying29 (by kernel_rfl) (hval 0 29 v0 rfl rfl) k0
  have hq0 : ∀ l : List Value, l.length = 19 → ∃ u0_0 u0_1 u0_2 u0_3 u0_4 u0_5 u0_6 u0_7 u0_8 u0_9 u0_10 u0_11 u0_12 u0_13 u0_14 u0_15 u0_16 u0_17 u0_18, l = [u0_0, u0_1, u0_2, u0_3, u0_4, u0_5, u0_6, u0_7, u0_8, u0_9, u0_10, u0_11, u0_12, u0_13, u0_14, u0_15, u0_16, u0_17, u0_18] := fun l h => match l, h with | [u0_0, u0_1, u0_2, u0_3, u0_4, u0_5, u0_6, u0_7, u0_8, u0_9, u0_10, u0_11, u0_12, u0_13, u0_14, u0_15, u0_16, u0_17, u0_18], _ => ⟨u0_0, u0_1, u0_2, u0_3, u0_4, u0_5, u0_6, u0_7, u0_8, u0_9, u0_10, u0_11, u0_12, u0_13, u0_14, u0_15, u0_16, u0_17, u0_18, rfl⟩
  obtain ⟨u0_0, u0_1, u0_2, u0_3, u0_4, u0_5, u0_6, u0_7, u0_8, u0_9, u0_10, u0_11, u0_12, u0_13, u0_14, u0_15, u0_16, u0_17, u0_18, rfl⟩ := hq0 cs0 hn0
  obtain ⟨n_0_1, y_0_1, h_0_1⟩ := trod_field (off := 0) (k := 1) (T := 3) Tryz.underlying29 ht0 0 rfl rfl rfl (by kernel_rfl)
  replace h_0_1 : DataW.trod _ _ _ _ _ _ _ 3 [u0_0] = some _ := h_0_1
  obtain ⟨x_0_1, rfl, w_0_1⟩ := field_int Tryz.underlying3 h_0_1
  obtain ⟨n_0_2, y_0_2, h_0_2⟩ := trod_field (off := 1) (k := 1) (T := 22) Tryz.underlying29 ht0 1 rfl rfl rfl (by kernel_rfl)
  replace h_0_2 : DataW.trod _ _ _ _ _ _ _ 22 [u0_1] = some _ := h_0_2
  obtain ⟨x_0_2, rfl, w_0_2⟩ := field_int Tryz.underlying22 h_0_2
  obtain ⟨n_0_3, y_0_3, h_0_3⟩ := trod_field (off := 2) (k := 1) (T := 22) Tryz.underlying29 ht0 2 rfl rfl rfl (by kernel_rfl)
  replace h_0_3 : DataW.trod _ _ _ _ _ _ _ 22 [u0_2] = some _ := h_0_3
  obtain ⟨x_0_3, rfl, w_0_3⟩ := field_int Tryz.underlying22 h_0_3
  obtain ⟨n_0_4, y_0_4, h_0_4⟩ := trod_field (off := 3) (k := 1) (T := 23) Tryz.underlying29 ht0 3 rfl rfl rfl (by kernel_rfl)
  replace h_0_4 : DataW.trod _ _ _ _ _ _ _ 23 [u0_3] = some _ := h_0_4
  obtain ⟨x_0_4, n_0_4n, c_0_4, l_0_4, rfl, hl_0_4, hm_0_4, w_0_4⟩ := field_peers Tryz.underlying23 Tryz.underlying62 (by kernel_rfl) (by kernel_rfl) rfl rfl rfl rfl rfl rfl rfl rfl Tryz.underlying3 Tryz.underlying3 Tryz.underlying3 Tryz.underlying3 Tryz.underlying3 Tryz.underlying3 Tryz.underlying3 h_0_4
  obtain ⟨n_0_5, y_0_5, h_0_5⟩ := trod_field (off := 4) (k := 1) (T := 24) Tryz.underlying29 ht0 4 rfl rfl rfl (by kernel_rfl)
  replace h_0_5 : DataW.trod _ _ _ _ _ _ _ 24 [u0_4] = some _ := h_0_5
  obtain ⟨x_0_5, n_0_5n, c_0_5, l_0_5, rfl, hl_0_5, hm_0_5, w_0_5⟩ := field_vips (tb := 0) Tryz.underlying24 Tryz.underlying53 (by kernel_rfl) (by kernel_rfl) rfl rfl rfl rfl Tryz.underlying22 Tryz.underlying3 Tryz.underlying51 Tryz.underlying67 (by kernel_rfl) (by kernel_rfl) rfl rfl rfl rfl Tryz.underlying3 Tryz.underlying22 Tryz.underlying3 h_0_5
  obtain ⟨n_0_6, y_0_6, h_0_6⟩ := trod_field (off := 5) (k := 1) (T := 25) Tryz.underlying29 ht0 5 rfl rfl rfl (by kernel_rfl)
  replace h_0_6 : DataW.trod _ _ _ _ _ _ _ 25 [u0_5] = some _ := h_0_6
  obtain ⟨x_0_6, n_0_6n, c_0_6, l_0_6, rfl, hl_0_6, hm_0_6, w_0_6⟩ := field_sites Tryz.underlying25 Tryz.underlying72 (by kernel_rfl) (by kernel_rfl) rfl rfl rfl rfl Tryz.underlying3 Tryz.underlying22 Tryz.underlying3 h_0_6
  obtain ⟨n_0_7, y_0_7, h_0_7⟩ := trod_field (off := 6) (k := 1) (T := 3) Tryz.underlying29 ht0 6 rfl rfl rfl (by kernel_rfl)
  replace h_0_7 : DataW.trod _ _ _ _ _ _ _ 3 [u0_6] = some _ := h_0_7
  obtain ⟨x_0_7, rfl, w_0_7⟩ := field_int Tryz.underlying3 h_0_7
  obtain ⟨n_0_8, y_0_8, h_0_8⟩ := trod_field (off := 7) (k := 1) (T := 3) Tryz.underlying29 ht0 7 rfl rfl rfl (by kernel_rfl)
  replace h_0_8 : DataW.trod _ _ _ _ _ _ _ 3 [u0_7] = some _ := h_0_8
  obtain ⟨x_0_8, rfl, w_0_8⟩ := field_int Tryz.underlying3 h_0_8
  obtain ⟨n_0_9, y_0_9, h_0_9⟩ := trod_field (off := 8) (k := 1) (T := 3) Tryz.underlying29 ht0 8 rfl rfl rfl (by kernel_rfl)
  replace h_0_9 : DataW.trod _ _ _ _ _ _ _ 3 [u0_8] = some _ := h_0_9
  obtain ⟨x_0_9, rfl, w_0_9⟩ := field_int Tryz.underlying3 h_0_9
  obtain ⟨n_0_10, y_0_10, h_0_10⟩ := trod_field (off := 9) (k := 1) (T := 3) Tryz.underlying29 ht0 9 rfl rfl rfl (by kernel_rfl)
  replace h_0_10 : DataW.trod _ _ _ _ _ _ _ 3 [u0_9] = some _ := h_0_10
  obtain ⟨x_0_10, rfl, w_0_10⟩ := field_int Tryz.underlying3 h_0_10
  obtain ⟨n_0_11, y_0_11, h_0_11⟩ := trod_field (off := 10) (k := 1) (T := 3) Tryz.underlying29 ht0 10 rfl rfl rfl (by kernel_rfl)
  replace h_0_11 : DataW.trod _ _ _ _ _ _ _ 3 [u0_10] = some _ := h_0_11
  obtain ⟨x_0_11, rfl, w_0_11⟩ := field_int Tryz.underlying3 h_0_11
  obtain ⟨n_0_12, y_0_12, h_0_12⟩ := trod_field (off := 11) (k := 1) (T := 3) Tryz.underlying29 ht0 11 rfl rfl rfl (by kernel_rfl)
  replace h_0_12 : DataW.trod _ _ _ _ _ _ _ 3 [u0_11] = some _ := h_0_12
  obtain ⟨x_0_12, rfl, w_0_12⟩ := field_int Tryz.underlying3 h_0_12
  obtain ⟨n_0_13, y_0_13, h_0_13⟩ := trod_field (off := 12) (k := 1) (T := 3) Tryz.underlying29 ht0 12 rfl rfl rfl (by kernel_rfl)
  replace h_0_13 : DataW.trod _ _ _ _ _ _ _ 3 [u0_12] = some _ := h_0_13
  obtain ⟨x_0_13, rfl, w_0_13⟩ := field_int Tryz.underlying3 h_0_13
  obtain ⟨n_0_14, y_0_14, h_0_14⟩ := trod_field (off := 13) (k := 5) (T := 27) Tryz.underlying29 ht0 13 rfl rfl rfl (by kernel_rfl)
  replace h_0_14 : DataW.trod _ _ _ _ _ _ _ 27 [u0_13, u0_14, u0_15, u0_16, u0_17] = some _ := h_0_14
  obtain ⟨n_0_15, y_0_15, h_0_15⟩ := trod_field (off := 0) (k := 1) (T := 3) Tryz.underlying27 h_0_14 0 rfl rfl rfl (by kernel_rfl)
  replace h_0_15 : DataW.trod _ _ _ _ _ _ _ 3 [u0_13] = some _ := h_0_15
  obtain ⟨x_0_15, rfl, w_0_15⟩ := field_int Tryz.underlying3 h_0_15
  obtain ⟨n_0_16, y_0_16, h_0_16⟩ := trod_field (off := 1) (k := 1) (T := 3) Tryz.underlying27 h_0_14 1 rfl rfl rfl (by kernel_rfl)
  replace h_0_16 : DataW.trod _ _ _ _ _ _ _ 3 [u0_14] = some _ := h_0_16
  obtain ⟨x_0_16, rfl, w_0_16⟩ := field_int Tryz.underlying3 h_0_16
  obtain ⟨n_0_17, y_0_17, h_0_17⟩ := trod_field (off := 2) (k := 1) (T := 3) Tryz.underlying27 h_0_14 2 rfl rfl rfl (by kernel_rfl)
  replace h_0_17 : DataW.trod _ _ _ _ _ _ _ 3 [u0_15] = some _ := h_0_17
  obtain ⟨x_0_17, rfl, w_0_17⟩ := field_int Tryz.underlying3 h_0_17
  obtain ⟨n_0_18, y_0_18, h_0_18⟩ := trod_field (off := 3) (k := 1) (T := 3) Tryz.underlying27 h_0_14 3 rfl rfl rfl (by kernel_rfl)
  replace h_0_18 : DataW.trod _ _ _ _ _ _ _ 3 [u0_16] = some _ := h_0_18
  obtain ⟨x_0_18, rfl, w_0_18⟩ := field_int Tryz.underlying3 h_0_18
  obtain ⟨n_0_19, y_0_19, h_0_19⟩ := trod_field (off := 4) (k := 1) (T := 3) Tryz.underlying27 h_0_14 4 rfl rfl rfl (by kernel_rfl)
  replace h_0_19 : DataW.trod _ _ _ _ _ _ _ 3 [u0_17] = some _ := h_0_19
  obtain ⟨x_0_19, rfl, w_0_19⟩ := field_int Tryz.underlying3 h_0_19
  obtain ⟨n_0_20, y_0_20, h_0_20⟩ := trod_field (off := 18) (k := 1) (T := 3) Tryz.underlying29 ht0 14 rfl rfl rfl (by kernel_rfl)
  replace h_0_20 : DataW.trod _ _ _ _ _ _ _ 3 [u0_18] = some _ := h_0_20
  obtain ⟨x_0_20, rfl, w_0_20⟩ := field_int Tryz.underlying3 h_0_20
  obtain ⟨cs1, nf1, xf1, rfl, hn1, ht1⟩ := open_whole (N := 19) Tryz.underlying29 (by kernel_rfl) (hval 1 29 v1 rfl rfl) k1
  have hq1 : ∀ l : List Value, l.length = 19 → ∃ u1_0 u1_1 u1_2 u1_3 u1_4 u1_5 u1_6 u1_7 u1_8 u1_9 u1_10 u1_11 u1_12 u1_13 u1_14 u1_15 u1_16 u1_17 u1_18, l = [u1_0, u1_1, u1_2, u1_3, u1_4, u1_5, u1_6, u1_7, u1_8, u1_9, u1_10, u1_11, u1_12, u1_13, u1_14, u1_15, u1_16, u1_17, u1_18] := fun l h => match l, h with | [u1_0, u1_1, u1_2, u1_3, u1_4, u1_5, u1_6, u1_7, u1_8, u1_9, u1_10, u1_11, u1_12, u1_13, u1_14, u1_15, u1_16, u1_17, u1_18], _ => ⟨u1_0, u1_1, u1_2, u1_3, u1_4, u1_5, u1_6, u1_7, u1_8, u1_9, u1_10, u1_11, u1_12, u1_13, u1_14, u1_15, u1_16, u1_17, u1_18, rfl⟩
  obtain ⟨u1_0, u1_1, u1_2, u1_3, u1_4, u1_5, u1_6, u1_7, u1_8, u1_9, u1_10, u1_11, u1_12, u1_13, u1_14, u1_15, u1_16, u1_17, u1_18, rfl⟩ := hq1 cs1 hn1
  obtain ⟨n_1_1, y_1_1, h_1_1⟩ := trod_field (off := 0) (k := 1) (T := 3) Tryz.underlying29 ht1 0 rfl rfl rfl (by kernel_rfl)
  replace h_1_1 : DataW.trod _ _ _ _ _ _ _ 3 [u1_0] = some _ := h_1_1
  obtain ⟨x_1_1, rfl, w_1_1⟩ := field_int Tryz.underlying3 h_1_1
  obtain ⟨n_1_2, y_1_2, h_1_2⟩ := trod_field (off := 1) (k := 1) (T := 22) Tryz.underlying29 ht1 1 rfl rfl rfl (by kernel_rfl)
  replace h_1_2 : DataW.trod _ _ _ _ _ _ _ 22 [u1_1] = some _ := h_1_2
  obtain ⟨x_1_2, rfl, w_1_2⟩ := field_int Tryz.underlying22 h_1_2
  obtain ⟨n_1_3, y_1_3, h_1_3⟩ := trod_field (off := 2) (k := 1) (T := 22) Tryz.underlying29 ht1 2 rfl rfl rfl (by kernel_rfl)
  replace h_1_3 : DataW.trod _ _ _ _ _ _ _ 22 [u1_2] = some _ := h_1_3
  obtain ⟨x_1_3, rfl, w_1_3⟩ := field_int Tryz.underlying22 h_1_3
  obtain ⟨n_1_4, y_1_4, h_1_4⟩ := trod_field (off := 3) (k := 1) (T := 23) Tryz.underlying29 ht1 3 rfl rfl rfl (by kernel_rfl)
  replace h_1_4 : DataW.trod _ _ _ _ _ _ _ 23 [u1_3] = some _ := h_1_4
  obtain ⟨x_1_4, n_1_4n, c_1_4, l_1_4, rfl, hl_1_4, hm_1_4, w_1_4⟩ := field_peers Tryz.underlying23 Tryz.underlying62 (by kernel_rfl) (by kernel_rfl) rfl rfl rfl rfl rfl rfl rfl rfl Tryz.underlying3 Tryz.underlying3 Tryz.underlying3 Tryz.underlying3 Tryz.underlying3 Tryz.underlying3 Tryz.underlying3 h_1_4
  obtain ⟨n_1_5, y_1_5, h_1_5⟩ := trod_field (off := 4) (k := 1) (T := 24) Tryz.underlying29 ht1 4 rfl rfl rfl (by kernel_rfl)
  replace h_1_5 : DataW.trod _ _ _ _ _ _ _ 24 [u1_4] = some _ := h_1_5
  obtain ⟨x_1_5, n_1_5n, c_1_5, l_1_5, rfl, hl_1_5, hm_1_5, w_1_5⟩ := field_vips (tb := 0) Tryz.underlying24 Tryz.underlying53 (by kernel_rfl) (by kernel_rfl) rfl rfl rfl rfl Tryz.underlying22 Tryz.underlying3 Tryz.underlying51 Tryz.underlying67 (by kernel_rfl) (by kernel_rfl) rfl rfl rfl rfl Tryz.underlying3 Tryz.underlying22 Tryz.underlying3 h_1_5
  obtain ⟨n_1_6, y_1_6, h_1_6⟩ := trod_field (off := 5) (k := 1) (T := 25) Tryz.underlying29 ht1 5 rfl rfl rfl (by kernel_rfl)
  replace h_1_6 : DataW.trod _ _ _ _ _ _ _ 25 [u1_5] = some _ := h_1_6
  obtain ⟨x_1_6, n_1_6n, c_1_6, l_1_6, rfl, hl_1_6, hm_1_6, w_1_6⟩ := field_sites Tryz.underlying25 Tryz.underlying72 (by kernel_rfl) (by kernel_rfl) rfl rfl rfl rfl Tryz.underlying3 Tryz.underlying22 Tryz.underlying3 h_1_6
  obtain ⟨n_1_7, y_1_7, h_1_7⟩ := trod_field (off := 6) (k := 1) (T := 3) Tryz.underlying29 ht1 6 rfl rfl rfl (by kernel_rfl)
  replace h_1_7 : DataW.trod _ _ _ _ _ _ _ 3 [u1_6] = some _ := h_1_7
  obtain ⟨x_1_7, rfl, w_1_7⟩ := field_int Tryz.underlying3 h_1_7
  obtain ⟨n_1_8, y_1_8, h_1_8⟩ := trod_field (off := 7) (k := 1) (T := 3) Tryz.underlying29 ht1 7 rfl rfl rfl (by kernel_rfl)
  replace h_1_8 : DataW.trod _ _ _ _ _ _ _ 3 [u1_7] = some _ := h_1_8
  obtain ⟨x_1_8, rfl, w_1_8⟩ := field_int Tryz.underlying3 h_1_8
  obtain ⟨n_1_9, y_1_9, h_1_9⟩ := trod_field (off := 8) (k := 1) (T := 3) Tryz.underlying29 ht1 8 rfl rfl rfl (by kernel_rfl)
  replace h_1_9 : DataW.trod _ _ _ _ _ _ _ 3 [u1_8] = some _ := h_1_9
  obtain ⟨x_1_9, rfl, w_1_9⟩ := field_int Tryz.underlying3 h_1_9
  obtain ⟨n_1_10, y_1_10, h_1_10⟩ := trod_field (off := 9) (k := 1) (T := 3) Tryz.underlying29 ht1 9 rfl rfl rfl (by kernel_rfl)
  replace h_1_10 : DataW.trod _ _ _ _ _ _ _ 3 [u1_9] = some _ := h_1_10
  obtain ⟨x_1_10, rfl, w_1_10⟩ := field_int Tryz.underlying3 h_1_10
  obtain ⟨n_1_11, y_1_11, h_1_11⟩ := trod_field (off := 10) (k := 1) (T := 3) Tryz.underlying29 ht1 10 rfl rfl rfl (by kernel_rfl)
  replace h_1_11 : DataW.trod _ _ _ _ _ _ _ 3 [u1_10] = some _ := h_1_11
  obtain ⟨x_1_11, rfl, w_1_11⟩ := field_int Tryz.underlying3 h_1_11
  obtain ⟨n_1_12, y_1_12, h_1_12⟩ := trod_field (off := 11) (k := 1) (T := 3) Tryz.underlying29 ht1 11 rfl rfl rfl (by kernel_rfl)
  replace h_1_12 : DataW.trod _ _ _ _ _ _ _ 3 [u1_11] = some _ := h_1_12
  obtain ⟨x_1_12, rfl, w_1_12⟩ := field_int Tryz.underlying3 h_1_12
  obtain ⟨n_1_13, y_1_13, h_1_13⟩ := trod_field (off := 12) (k := 1) (T := 3) Tryz.underlying29 ht1 12 rfl rfl rfl (by kernel_rfl)
  replace h_1_13 : DataW.trod _ _ _ _ _ _ _ 3 [u1_12] = some _ := h_1_13
  obtain ⟨x_1_13, rfl, w_1_13⟩ := field_int Tryz.underlying3 h_1_13
  obtain ⟨n_1_14, y_1_14, h_1_14⟩ := trod_field (off := 13) (k := 5) (T := 27) Tryz.underlying29 ht1 13 rfl rfl rfl (by kernel_rfl)
  replace h_1_14 : DataW.trod _ _ _ _ _ _ _ 27 [u1_13, u1_14, u1_15, u1_16, u1_17] = some _ := h_1_14
  obtain ⟨n_1_15, y_1_15, h_1_15⟩ := trod_field (off := 0) (k := 1) (T := 3) Tryz.underlying27 h_1_14 0 rfl rfl rfl (by kernel_rfl)
  replace h_1_15 : DataW.trod _ _ _ _ _ _ _ 3 [u1_13] = some _ := h_1_15
  obtain ⟨x_1_15, rfl, w_1_15⟩ := field_int Tryz.underlying3 h_1_15
  obtain ⟨n_1_16, y_1_16, h_1_16⟩ := trod_field (off := 1) (k := 1) (T := 3) Tryz.underlying27 h_1_14 1 rfl rfl rfl (by kernel_rfl)
  replace h_1_16 : DataW.trod _ _ _ _ _ _ _ 3 [u1_14] = some _ := h_1_16
  obtain ⟨x_1_16, rfl, w_1_16⟩ := field_int Tryz.underlying3 h_1_16
  obtain ⟨n_1_17, y_1_17, h_1_17⟩ := trod_field (off := 2) (k := 1) (T := 3) Tryz.underlying27 h_1_14 2 rfl rfl rfl (by kernel_rfl)
  replace h_1_17 : DataW.trod _ _ _ _ _ _ _ 3 [u1_15] = some _ := h_1_17
  obtain ⟨x_1_17, rfl, w_1_17⟩ := field_int Tryz.underlying3 h_1_17
  obtain ⟨n_1_18, y_1_18, h_1_18⟩ := trod_field (off := 3) (k := 1) (T := 3) Tryz.underlying27 h_1_14 3 rfl rfl rfl (by kernel_rfl)
  replace h_1_18 : DataW.trod _ _ _ _ _ _ _ 3 [u1_16] = some _ := h_1_18
  obtain ⟨x_1_18, rfl, w_1_18⟩ := field_int Tryz.underlying3 h_1_18
  obtain ⟨n_1_19, y_1_19, h_1_19⟩ := trod_field (off := 4) (k := 1) (T := 3) Tryz.underlying27 h_1_14 4 rfl rfl rfl (by kernel_rfl)
  replace h_1_19 : DataW.trod _ _ _ _ _ _ _ 3 [u1_17] = some _ := h_1_19
  obtain ⟨x_1_19, rfl, w_1_19⟩ := field_int Tryz.underlying3 h_1_19
  obtain ⟨n_1_20, y_1_20, h_1_20⟩ := trod_field (off := 18) (k := 1) (T := 3) Tryz.underlying29 ht1 14 rfl rfl rfl (by kernel_rfl)
  replace h_1_20 : DataW.trod _ _ _ _ _ _ _ 3 [u1_18] = some _ := h_1_20
  obtain ⟨x_1_20, rfl, w_1_20⟩ := field_int Tryz.underlying3 h_1_20
  obtain ⟨a2, n2, c2, l2, rfl, hl2, hm2, w2⟩ := open_byt Tryz.underlying30 Tryz.underlying5 (by kernel_rfl) (hval 2 30 v2 rfl rfl) k2
  clear hA0 hval0
  refine (forms32_law x_0_1 x_0_2 x_0_3 x_0_4 n_0_4n c_0_4 l_0_4 x_0_5 n_0_5n c_0_5 l_0_5 x_0_6 n_0_6n c_0_6 l_0_6 x_0_7 x_0_8 x_0_9 x_0_10 x_0_11 x_0_12 x_0_13 x_0_15 x_0_16 x_0_17 x_0_18 x_0_19 x_0_20 x_1_1 x_1_2 x_1_3 x_1_4 n_1_4n c_1_4 l_1_4 x_1_5 n_1_5n c_1_5 l_1_5 x_1_6 n_1_6n c_1_6 l_1_6 x_1_7 x_1_8 x_1_9 x_1_10 x_1_11 x_1_12 x_1_13 x_1_15 x_1_16 x_1_17 x_1_18 x_1_19 x_1_20 a2 n2 c2 l2 W w_0_1 w_0_2 w_0_3 hl_0_4 hm_0_4 w_0_4 hl_0_5 hm_0_5 w_0_5 hl_0_6 hm_0_6 w_0_6 w_0_7 w_0_8 w_0_9 w_0_10 w_0_11 w_0_12 w_0_13 w_0_15 w_0_16 w_0_17 w_0_18 w_0_19 w_0_20 w_1_1 w_1_2 w_1_3 hl_1_4 hm_1_4 w_1_4 hl_1_5 hm_1_5 w_1_5 hl_1_6 hm_1_6 w_1_6 w_1_7 w_1_8 w_1_9 w_1_10 w_1_11 w_1_12 w_1_13 w_1_15 w_1_16 w_1_17 w_1_18 w_1_19 w_1_20 hl2 hm2 w2).mono fun e W' ⟨he, bel⟩ => ?_
  subst he
  exact ⟨_, rfl, _, _, _, [], _, [], hW', trodAll_mk1 (shut_bool Tryz.underlying4 _), (trodAll_cons_mk (Below.trod laidOut (by kernel_rfl) (of_decide_eq_true (by kernel_rfl)) k0 bel lt0) (trodAll_cons_mk (Below.trod laidOut (by kernel_rfl) (of_decide_eq_true (by kernel_rfl)) k1 bel lt1) (trodAll_cons_mk (Below.trod laidOut (by kernel_rfl) (of_decide_eq_true (by kernel_rfl)) k2 bel lt2) trodAll_mk0))), rfl, bel.frame _, fun h => by cases h⟩

theorem proved : Rows.ConfigFormsSaid :=
  OpenClaim.holds_of_wide 3 Tryz.f3 rfl rfl rfl rfl rfl rfl rfl ⟨rfl, rfl, rfl, rfl, rfl⟩ rfl rfl rfl rfl rfl (by kernel_rfl) Tryz.func3 (by kernel_rfl)
    (of_decide_eq_true (by kernel_rfl)) (by unfold Func.isWrapper; first | (rw [if_pos (by decide +kernel)]; kernel_rfl) | (rw [if_neg (by decide +kernel)]; exact ⟨rfl, rfl⟩))
    (fun os started H enc _ => lifted os started H enc)
#print axioms proved
end Go.Proofs.YtecmhakapomepaaGreat.lawConfigForms
