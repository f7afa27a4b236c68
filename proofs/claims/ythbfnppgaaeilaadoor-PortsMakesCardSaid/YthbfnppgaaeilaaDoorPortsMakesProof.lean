/-
  What is proved: fairway/fairwaylaw05.PortsMakes answers true for every input, and each argument reads afterwards as it read before, where the listed variables read as start-up lays them; the card ties these to the program's text. Conditions: those of the given statement Rows.PortsMakesCardSaid, no others.
-/
import Derived.Test.YthbfnppgaaeilaaDoorRows
import Derived.Test.YthbfnppgaaeilaaDoorTie
import Derived.Test.YthbfnppgaaeilaaDoorCards
import Derived.Test.YthbfnppgaaeilaaDoorLib
import Derived.Test.YthbfnppgaaeilaaDoorPmF
import Derived.ProofKit
import Derived.LaidMore
import Derived.OpenShut
import Derived.Stop.Joined
import Derived.SevenTiedAt
namespace Go.Proofs.YthbfnppgaaeilaaDoor.lawPortsMakes
open Go.ChangeShapes Go.WideShapes Go.ChangeAt Go.RowKit
set_option linter.unusedVariables false

theorem own : ownKnob Tryd.prog.godebug = none := by kernel_rfl
theorem laidOut : laidOutB Tryd.prog = true := by kernel_rfl
theorem door_met (os : Os) (args : Array Value) : laidMetH Tryd.prog laidL ((World.doorLaid Tryd.prog 65 os).forCall (fun _ _ => 0) ⟨#[], args, []⟩).memory :=
  laidMetH_of_parts3 (fuel := 8) (laidMet_of_run' 8 (by kernel_rfl) (by kernel_rfl)) (by kernel_rfl) (by kernel_rfl)

set_option maxRecDepth 100000 in
theorem lifted (os : Os) (started : os.Started) (H : Type) (enc : TypeId × Value → H) :
    ReturnsInHanded {} Tryd.checked os 4 .any (fun w args => (Rows.portsMakesSpec.pre enc Tryd.prog Tryd.f4 [] false w args ∧ laidMetH Tryd.prog laidL w) ∧ sizedMet enc Tryd.prog Tryd.f4 (OpenSpec.ofChange Rows.portsMakesSpec) false w args) (Rows.portsMakesSpec.post enc Tryd.prog Tryd.f4 false true false false) := by
  refine returnsInHanded_of_change_and (C := Tryd.checked) (X := fun w _ => laidMetH Tryd.prog laidL w) (fun _ _ _ hh h => h.of_heap hh) own started (by kernel_rfl) Tryd.func4
    (ChangeSpec.witness_shaped (enc := enc) (C := Tryd.checked) (os := os) (X := fun w _ => laidMetH Tryd.prog laidL w) false (World.doorLaid Tryd.prog 65 os) #[.agg #[.int .i64 0, .int .u32 0, .int .u32 0, .int .i64 0, .int .i64 0], .int .i64 0, .slice none 0 0] 8 rfl (World.shaped_of_RefB (by kernel_rfl) (by kernel_rfl)) (by kernel_rfl) (by kernel_rfl) (by kernel_rfl) (door_met os _)) ?_
  intro W base args ds gs before hval0 hW _ _ hL _
  have hval : ∀ (j : Nat) t v, Tryd.f4.params[j]? = some t → args[j]? = some v → Value.okWide Tryd.prog W .any base t v := hval0
  have hW' := hW
  obtain ⟨p, q, hA0, hV, rfl, hfz, hnd⟩ := hW
  have hA : DataW.TrodAll enc Tryd.prog W 0 (fun _ => true) true Tryd.f4.params.toList args.toList ds p := hA0
  rw [Tryd.params4] at hA hval
  obtain ⟨v0, vs0, d0, ds0, p0, q0, hargs, rfl, rfl, k0, r0⟩ := trodAll_cons hA
  obtain ⟨v1, vs1, d1, ds1, p1, q1, rfl, rfl, rfl, k1, r1⟩ := trodAll_cons r0
  obtain ⟨v2, vs2, d2, ds2, p2, q2, rfl, rfl, rfl, k2, r2⟩ := trodAll_cons r1
  obtain ⟨rfl, rfl, rfl⟩ := trodAll_nil r2
  obtain rfl : args = #[v0, v1, v2] := by cases args; simp_all
  obtain ⟨rfl, rfl⟩ := trodVars_none hV
  have lt0 : ∀ x ∈ p0, x.block < W.heap.size := by obtain ⟨m, hm⟩ := k0; exact DataW.trod_lt m _ _ _ hm
  have lt1 : ∀ x ∈ p1, x.block < W.heap.size := by obtain ⟨m, hm⟩ := k1; exact DataW.trod_lt m _ _ _ hm
  have lt2 : ∀ x ∈ p2, x.block < W.heap.size := by obtain ⟨m, hm⟩ := k2; exact DataW.trod_lt m _ _ _ hm
  obtain ⟨ll0, nn0, rfl, hn0, hf0⟩ := open_fields Tryd.underlying42 (by kernel_rfl) (by kernel_rfl) (hval 0 42 v0 rfl rfl) k0
  obtain ⟨u0_0, y0_0, hu0_0, ht0_0⟩ := hf0 0 _ rfl
  obtain ⟨x0_0, rfl, w0_0⟩ := field_int Tryd.underlying3 ht0_0
  obtain ⟨u0_1, y0_1, hu0_1, ht0_1⟩ := hf0 1 _ rfl
  obtain ⟨x0_1, rfl, w0_1⟩ := field_int Tryd.underlying22 ht0_1
  obtain ⟨u0_2, y0_2, hu0_2, ht0_2⟩ := hf0 2 _ rfl
  obtain ⟨x0_2, rfl, w0_2⟩ := field_int Tryd.underlying22 ht0_2
  obtain ⟨u0_3, y0_3, hu0_3, ht0_3⟩ := hf0 3 _ rfl
  obtain ⟨x0_3, rfl, w0_3⟩ := field_int Tryd.underlying3 ht0_3
  obtain ⟨u0_4, y0_4, hu0_4, ht0_4⟩ := hf0 4 _ rfl
  obtain ⟨x0_4, rfl, w0_4⟩ := field_int Tryd.underlying3 ht0_4
  obtain rfl : ll0 = [.int .i64 x0_0, .int .u32 x0_1, .int .u32 x0_2, .int .i64 x0_3, .int .i64 x0_4] := list_eq_of_get _ _ (by simpa using hn0) (by intro j hj; match j, hj with | 0, _ => exact hu0_0 | 1, _ => exact hu0_1 | 2, _ => exact hu0_2 | 3, _ => exact hu0_3 | 4, _ => exact hu0_4)
  obtain ⟨a1, rfl, -, -, w1⟩ := open_int Tryd.underlying3 (hval 1 3 v1 rfl rfl) k1
  obtain ⟨a2, n2, c2, l2, rfl, hl2, hm2, w2⟩ := open_byt Tryd.underlying43 Tryd.underlying5 (by kernel_rfl) (hval 2 43 v2 rfl rfl) k2
  clear hA0 hval0
  refine (makes_walk x0_0 x0_1 x0_2 x0_3 x0_4 a1 a2 n2 c2 l2 W w0_0 w0_1 w0_2 w0_3 w0_4 w1 hl2 hm2 w2 hL).mono fun e W' ⟨he, bel⟩ => ?_
  subst he
  exact ⟨_, rfl, _, _, _, [], _, [], hW', trodAll_mk1 (shut_bool Tryd.underlying4 _), (trodAll_cons_mk (Below.trod laidOut (by kernel_rfl) (of_decide_eq_true (by kernel_rfl)) k0 bel lt0) (trodAll_cons_mk (Below.trod laidOut (by kernel_rfl) (of_decide_eq_true (by kernel_rfl)) k1 bel lt1) (trodAll_cons_mk (Below.trod laidOut (by kernel_rfl) (of_decide_eq_true (by kernel_rfl)) k2 bel lt2) trodAll_mk0))), rfl, bel.frame _, fun h => by cases h⟩

theorem row_holds : Rows.PortsMakesSaid :=
  OpenClaim.holds_of_wide 4 Tryd.f4 rfl rfl rfl rfl rfl rfl rfl ⟨rfl, rfl, rfl, rfl, rfl⟩ rfl rfl rfl rfl rfl (by kernel_rfl) Tryd.func4 (by kernel_rfl)
    (of_decide_eq_true (by kernel_rfl)) (by unfold Func.isWrapper; first | (rw [if_pos (by decide +kernel)]; kernel_rfl) | (rw [if_neg (by decide +kernel)]; exact ⟨rfl, rfl⟩))
    (fun os started H enc _ => lifted os started H enc)
theorem proved : Rows.PortsMakesCardSaid :=
  Claim7.holds_tied_plain_at .later [] [.data, .data, .data] true (true, "a74853e63a9ba73bb0f2bf5da8ae2ae6b4bc1ee558c9fff6a6d121b624e83793") false
    row_holds (fun _ h => by cases h) (by kernel_rfl) (fun _ h => by cases h) portsMakes_row_tie rfl ⟨rfl, rfl⟩ (by kernel_rfl) rfl
    (fun f fn hf hfn => by
      obtain rfl : f = 4 := Option.some.inj ((show Tryd.prog.funcNamed "fairway/fairwaylaw05.PortsMakes" = some 4 by kernel_rfl).symm.trans hf) |>.symm
      obtain rfl : fn = Tryd.f4 := (Option.some.inj (Tryd.func4.symm.trans hfn)).symm
      exact ⟨by kernel_rfl, fun j t ht => by
        rw [Tryd.params4] at ht
        have hm : t ∈ [42, 3, 43] := by simpa using Array.mem_of_getElem? ht
        have hall : ([42, 3, 43].all fun u => !Tryd.prog.wantsStandIn u) = true := by kernel_rfl
        exact (show Tryd.prog.wantsStandIn t = false by simpa using List.all_eq_true.1 hall t hm)⟩)
    (by kernel_rfl)
#print axioms proved
end Go.Proofs.YthbfnppgaaeilaaDoor.lawPortsMakes
