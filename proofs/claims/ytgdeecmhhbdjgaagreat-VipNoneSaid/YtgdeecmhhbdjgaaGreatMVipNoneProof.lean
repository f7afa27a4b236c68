import Derived.Test.YtgdeecmhhbdjgaaGreatRows
import Derived.Test.YtgdeecmhhbdjgaaGreatMVipNone1
import Derived.Test.YtgdeecmhhbdjgaaGreatMVipNone31
/-
  What is proved: fairway/fairwaylaw33.VipNone answers true for every input, and each argument reads afterwards as it read before. Conditions: those of the given statement Rows.VipNoneSaid, no others.
-/
namespace Go.Proofs.YtgdeecmhhbdjgaaGreat.lawVipNone
open Go.ChangeShapes Go.WideShapes Go.ChangeAt Go.RowKit
set_option linter.unusedVariables false

theorem own : ownKnob Tryz.prog.godebug = none := by kernel_rfl
theorem laidOut : laidOutB Tryz.prog = true := by kernel_rfl

set_option maxRecDepth 100000 in
theorem lifted (os : Os) (started : os.Started) (H : Type) (enc : TypeId × Value → H) :
    ReturnsInHanded {} Tryz.checked os 4 .any (Rows.vipNoneSpec.pre6 enc Tryz.prog Tryz.f4 Rows.vipNoneRow.domain false) (Rows.vipNoneSpec.post enc Tryz.prog Tryz.f4 false true false false) := by
  refine returnsInHanded_of_change (C := Tryz.checked) own started (by kernel_rfl) Tryz.func4
    (ChangeSpec.witness6 (enc := enc) (C := Tryz.checked) false ⟨#[], #[.agg #[.int .i64 0, .int .i64 0, .int .i64 0, .bool false, .bool false]], []⟩ 8 (by kernel_rfl) (by kernel_rfl) (by kernel_rfl) (by kernel_rfl)) ?_
  intro W base args ds gs before hval0 hW hcnd _
  have hval : ∀ (j : Nat) t v, Tryz.f4.params[j]? = some t → args[j]? = some v → Value.okWide Tryz.prog W .any base t v := hval0
  have hW' := hW
  obtain ⟨p, q, hA0, hV, rfl, hfz, hnd⟩ := hW
  have hA : DataW.TrodAll enc Tryz.prog W 0 (fun _ => true) true Tryz.f4.params.toList args.toList ds p := hA0
  rw [Tryz.params4] at hA hval
  obtain ⟨v0, vs0, d0, ds0, p0, q0, hargs, rfl, rfl, k0, r0⟩ := trodAll_cons hA
  obtain ⟨rfl, rfl, rfl⟩ := trodAll_nil r0
  obtain rfl : args = #[v0] := by cases args; simp_all
  obtain ⟨rfl, rfl⟩ := trodVars_none hV
  have lt0 : ∀ x ∈ p0, x.block < W.heap.size := by obtain ⟨m, hm⟩ := k0; exact DataW.trod_lt m _ _ _ hm
  obtain ⟨ll0, nn0, rfl, hn0, hf0⟩ := open_fields Tryz.underlying52 (by kernel_rfl) (by kernel_rfl) (hval 0 52 v0 rfl rfl) k0
  obtain ⟨u0_0, y0_0, hu0_0, ht0_0⟩ := hf0 0 _ rfl
  obtain ⟨x0_0, rfl, w0_0⟩ := field_int Tryz.underlying3 ht0_0
  obtain ⟨u0_1, y0_1, hu0_1, ht0_1⟩ := hf0 1 _ rfl
  obtain ⟨x0_1, rfl, w0_1⟩ := field_int Tryz.underlying3 ht0_1
  obtain ⟨u0_2, y0_2, hu0_2, ht0_2⟩ := hf0 2 _ rfl
  obtain ⟨x0_2, rfl, w0_2⟩ := field_int Tryz.underlying3 ht0_2
  obtain ⟨u0_3, y0_3, hu0_3, ht0_3⟩ := hf0 3 _ rfl
  obtain ⟨x0_3, rfl⟩ := field_bool Tryz.underlying4 ht0_3
  obtain ⟨u0_4, y0_4, hu0_4, ht0_4⟩ := hf0 4 _ rfl
  obtain ⟨x0_4, rfl⟩ := field_bool Tryz.underlying4 ht0_4
  obtain rfl : ll0 = [.int .i64 x0_0, .int .i64 x0_1, .int .i64 x0_2, .bool x0_3, .bool x0_4] := list_eq_of_get _ _ (by simpa using hn0) (by intro j hj; match j, hj with | 0, _ => exact hu0_0 | 1, _ => exact hu0_1 | 2, _ => exact hu0_2 | 3, _ => exact hu0_3 | 4, _ => exact hu0_4)
  clear hA0 hval0
  refine (none33_row x0_0 x0_1 x0_2 x0_3 x0_4 W w0_0 w0_1 w0_2).mono fun e W' ⟨he, bel⟩ => ?_
  subst he
  exact ⟨_, rfl, _, _, _, [], _, [], hW', trodAll_mk1 (shut_bool Tryz.underlying4 _), (trodAll_cons_mk (Below.trod laidOut (by kernel_rfl) (of_decide_eq_true (by kernel_rfl)) k0 bel lt0) trodAll_mk0), rfl, bel.frame _, fun h => by cases h⟩

theorem proved : Rows.VipNoneSaid :=
  OpenClaim.holds_of_wide 4 Tryz.f4 rfl rfl rfl rfl rfl rfl rfl ⟨rfl, rfl, rfl, rfl, rfl⟩ rfl rfl rfl rfl rfl (by kernel_rfl) Tryz.func4 (by kernel_rfl)
    (of_decide_eq_true (by kernel_rfl)) (by unfold Func.isWrapper; first | (rw [if_pos (by decide +kernel)]; kernel_rfl) | (rw [if_neg (by decide +kernel)]; exact ⟨rfl, rfl⟩))
    (fun os started H enc _ => lifted os started H enc)
#print axioms proved
end Go.Proofs.YtgdeecmhhbdjgaaGreat.lawVipNone
