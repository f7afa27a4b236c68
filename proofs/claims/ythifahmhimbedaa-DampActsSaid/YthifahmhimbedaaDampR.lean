/- damp: the document's answer: Good, New, Flap, Tick. -/
import Derived.Test.YthifahmhimbedaaDampC
import Derived.BigGuardPart
namespace Go.Proofs.Ythifahmhimbedaa
set_option linter.unusedVariables false
open Go.RowKit

set_option maxHeartbeats 1000000 in
theorem refGood_any (F S R C H : Int) (w : World) :
    Calls Try.prog 23 #[.agg #[.int .i64 F, .int .i64 S, .int .i64 R, .int .i64 C, .int .i64 H]] w fun e w' => e = .returned (.bool (goodR F S R C H)) ∧ Below w.heap.size w w' := by
  go_enter Try.func23, Try.ntmps23
  go_wp2
  all_goals go_ret
  all_goals exact ⟨ret_bool (by unfold goodR; rw [Bool.eq_iff_iff]; simp only [decide_eq_true_eq, Bool.false_eq_true, false_iff]; omega), (Below.refl _ _).alloc (Nat.le_refl _) _⟩

set_option maxHeartbeats 400000 in
theorem refNew_yes (F S R C H : Int) (w : World) (h : goodR F S R C H = true) :
    Calls Try.prog 20 #[.agg #[.int .i64 F, .int .i64 S, .int .i64 R, .int .i64 C, .int .i64 H]] w fun e w' => ∃ g, e = .returned (.pointer (some ⟨g, 0, none⟩)) ∧ w.heap.size ≤ g ∧ Blk w' g 44 (dampCs F S R C H 0 false) ∧ Below w.heap.size w w' := by
  have HH := Lib.hid h
  clear h
  go_enter Try.func20, Try.ntmps20
  go_wp2_with fail
  refine (refGood_any F S R C H _).mono ?_
  rintro e w1 ⟨rfl, hb⟩
  rw [HH.out]
  have hk := (Blk.new w 29 #[.int .i64 F, .int .i64 S, .int .i64 R, .int .i64 C, .int .i64 H]).below hb (by simp)
  have c0 := hk.cellv 0 (v := .int .i64 F) rfl
  have c1 := hk.cellv 1 (v := .int .i64 S) rfl
  have c2 := hk.cellv 2 (v := .int .i64 R) rfl
  have c3 := hk.cellv 3 (v := .int .i64 C) rfl
  have c4 := hk.cellv 4 (v := .int .i64 H) rfl
  have hB : Below w.heap.size w w1 := ((Below.refl _ _).alloc (Nat.le_refl _) _).trans (hb.mono (by simp))
  clear hk hb
  go_wp2_with fail
  go_ret
  exact ⟨_, rfl, hB.size, Blk.new _ _ _, hB.alloc hB.size _⟩

set_option maxHeartbeats 400000 in
theorem refNew_no (F S R C H : Int) (w : World) (h : goodR F S R C H = false) :
    Calls Try.prog 20 #[.agg #[.int .i64 F, .int .i64 S, .int .i64 R, .int .i64 C, .int .i64 H]] w fun e w' => e = .returned (.pointer none) ∧ Below w.heap.size w w' := by
  have HH := Lib.hid h
  clear h
  go_enter Try.func20, Try.ntmps20
  go_wp2_with fail
  refine (refGood_any F S R C H _).mono ?_
  rintro e w1 ⟨rfl, hb⟩
  rw [HH.out]
  have hB : Below w.heap.size w w1 := ((Below.refl _ _).alloc (Nat.le_refl _) _).trans (hb.mono (by simp))
  clear hb
  go_wp2_with fail
  go_ret
  exact ⟨rfl, hB⟩

theorem stepP {w : World} {g : Nat} {T : TypeId} {F S R C H p : Int} {h : Bool} (hb : Blk w g T (dampCs F S R C H p h)) (q : Int) : Blk (w.setCell ⟨g, 5, none⟩ (.int .i64 q)) g T (dampCs F S R C H q h) ∧ w.grownBy (w.setCell ⟨g, 5, none⟩ (.int .i64 q)) (some g) :=
  ⟨by rw [← dampCs_p F S R C H p]; exact hb.set_ 5 _, grown_setCell (grown_refl _ _) (.inl rfl) _⟩
theorem stepH {w : World} {g : Nat} {T : TypeId} {F S R C H p : Int} {h : Bool} (hb : Blk w g T (dampCs F S R C H p h)) (k : Bool) : Blk (w.setCell ⟨g, 6, none⟩ (.bool k)) g T (dampCs F S R C H p k) ∧ w.grownBy (w.setCell ⟨g, 6, none⟩ (.bool k)) (some g) :=
  ⟨by rw [← dampCs_h F S R C H p h]; exact hb.set_ 6 _, grown_setCell (grown_refl _ _) (.inl rfl) _⟩

set_option maxHeartbeats 1000000 in
theorem refFlap_any (F S R C H p : Int) (h : Bool) (g : Nat) (w : World) (hF : 1 ≤ F) (hF2 : F ≤ 100000) (p1 : 0 ≤ p) (p2 : p ≤ 1000000) (hb : Blk w g 44 (dampCs F S R C H p h)) :
    Calls Try.prog 21 #[.pointer (some ⟨g, 0, none⟩)] w fun e w' => e = .returned (.int .i64 (lowest (p + F) C)) ∧
      Blk w' g 44 (dampCs F S R C H (lowest (p + F) C) (h || decide (S ≤ lowest (p + F) C))) ∧ w.grownBy w' (some g) := by
  have c5 := hb.cellv 5 (v := .int .i64 p) rfl
  have c0 := hb.cellv 0 (v := .int .i64 F) rfl
  have f5 := hb.frozen 5
  have hw : IntKind.i64.wrap (p + F) = p + F := IntWalk.i64_in _ ⟨by omega, by omega⟩
  obtain ⟨hb1, hg1⟩ := stepP hb (p + F)
  have HB1 := Lib.hid hb1.drew
  have HG1 := Lib.hid (grown_drew hg1)
  clear hb hb1 hg1
  go_enter Try.func21, Try.ntmps21
  go_wp2_with fail
  go_region
  go_wp2_with fail
  have hb1 := HB1.out
  have hg1 := HG1.out
  clear HB1 HG1 c5 c0 f5 hw
  generalize (w.setCell ⟨g, 5, none⟩ (.int .i64 (p + F))).drew = w1 at *
  have c5 := hb1.cellv 5 (v := .int .i64 (p + F)) rfl
  have c3 := hb1.cellv 3 (v := .int .i64 C) rfl
  have f5 := hb1.frozen 5
  by_cases c : C < p + F
  · obtain ⟨hb2, hg2⟩ := stepP hb1.drew C
    have HB2 := Lib.hid hb2
    have HG2 := Lib.hid (grown_trans (grown_drew hg1) hg2)
    have HQ := Lib.hid (lowest_hi (p + F) C c)
    clear hb1 hg1 hb2 hg2
    go_region
    go_wp2_with fail
    have hb2 : Blk (w1.setCell ⟨g, 5, none⟩ (.int .i64 C)).drew g 44 (dampCs F S R C H C h) := HB2.out
    have hg2 : w.grownBy (w1.setCell ⟨g, 5, none⟩ (.int .i64 C)).drew (some g) := HG2.out
    clear HB2 HG2 c5 c3 f5 c
    generalize (w1.setCell ⟨g, 5, none⟩ (.int .i64 C)).drew = w2 at *
    have c5 := hb2.cellv 5 (v := .int .i64 C) rfl
    have c1 := hb2.cellv 1 (v := .int .i64 S) rfl
    have c6 := hb2.cellv 6 (v := .bool h) rfl
    have f6 := hb2.frozen 6
    have HB2 := Lib.hid hb2
    have HG2 := Lib.hid hg2
    clear hb2 hg2
    by_cases c2 : S ≤ C
    · go_region
      go_wp2_with fail
      go_ret
      have K1 := (stepH HB2.out true).1.drew
      have K2 := grown_drew (grown_trans HG2.out (stepH HB2.out true).2)
      exact ⟨by rw [HQ.out]; rfl, by rw [HQ.out, show (h || decide (S ≤ C)) = true from by simp [c2]]; exact K1, K2⟩
    · go_region
      go_wp2_with fail
      go_ret
      exact ⟨by rw [HQ.out]; rfl, by rw [HQ.out, show (h || decide (S ≤ C)) = h from by rw [show decide (S ≤ C) = false from by simp; omega, Bool.or_false]]; exact HB2.out.drew, grown_drew HG2.out⟩
  · have HQ := Lib.hid (lowest_lo (p + F) C (by omega))
    have HB1 := Lib.hid hb1
    have HG1 := Lib.hid hg1
    clear hb1 hg1
    go_region
    go_wp2_with fail
    have hb2 := HB1.out.drew
    have hg2 := grown_drew HG1.out
    clear HB1 HG1 c5 c3 f5 c
    generalize w1.drew = w2 at *
    have c5 := hb2.cellv 5 (v := .int .i64 (p + F)) rfl
    have c1 := hb2.cellv 1 (v := .int .i64 S) rfl
    have c6 := hb2.cellv 6 (v := .bool h) rfl
    have f6 := hb2.frozen 6
    have HB2 := Lib.hid hb2
    have HG2 := Lib.hid hg2
    clear hb2 hg2
    by_cases c2 : S ≤ (p + F)
    · go_region
      go_wp2_with fail
      go_ret
      have K1 := (stepH HB2.out true).1.drew
      have K2 := grown_drew (grown_trans HG2.out (stepH HB2.out true).2)
      exact ⟨by rw [HQ.out]; rfl, by rw [HQ.out, show (h || decide (S ≤ (p + F))) = true from by simp [c2]]; exact K1, K2⟩
    · go_region
      go_wp2_with fail
      go_ret
      exact ⟨by rw [HQ.out]; rfl, by rw [HQ.out, show (h || decide (S ≤ (p + F))) = h from by rw [show decide (S ≤ (p + F)) = false from by simp; omega, Bool.or_false]]; exact HB2.out.drew, grown_drew HG2.out⟩

set_option maxHeartbeats 1000000 in
theorem refTick_any (F S R C H p : Int) (h : Bool) (g : Nat) (w : World) (hF : 1 ≤ F) (p1 : 0 ≤ p) (p2 : p ≤ 1000000) (hb : Blk w g 44 (dampCs F S R C H p h)) :
    Calls Try.prog 22 #[.pointer (some ⟨g, 0, none⟩)] w fun e w' => e = .returned (.int .i64 (decay p H)) ∧
      Blk w' g 44 (dampCs F S R C H (decay p H) (h && decide (R < decay p H))) ∧ w.grownBy w' (some g) := by
  have c5 := hb.cellv 5 (v := .int .i64 p) rfl
  have c4 := hb.cellv 4 (v := .int .i64 H) rfl
  have f5 := hb.frozen 5
  obtain ⟨hb1, hg1⟩ := stepP hb (decay p H)
  have HB1 := Lib.hid hb1.drew
  have HG1 := Lib.hid (grown_drew hg1)
  clear hb hb1 hg1
  go_enter Try.func22, Try.ntmps22
  go_wp2_with fail
  go_still_tail 13, (by kernel_rfl)
  still_call ((refDecay_any p H _ (by omega) (by omega)).mono fun _ _ h => ⟨h.1, h.2.symm⟩)
  repeat still_step
  refine wpStill_nil ?_
  change wpList _ _ _ _ _ w.drew
  go_wp2_with fail
  have hb2 : Blk (w.setCell ⟨g, 5, none⟩ (.int .i64 (decay p H))).drew g 44 (dampCs F S R C H (decay p H) h) := HB1.out
  have hg2 : w.grownBy (w.setCell ⟨g, 5, none⟩ (.int .i64 (decay p H))).drew (some g) := HG1.out
  clear HB1 HG1 c5 c4 f5
  generalize (w.setCell ⟨g, 5, none⟩ (.int .i64 (decay p H))).drew = w2 at *
  obtain ⟨q, hq⟩ : ∃ q, q = decay p H := ⟨_, rfl⟩
  rw [← hq] at hb2 ⊢
  have c5 := hb2.cellv 5 (v := .int .i64 q) rfl
  have c2 := hb2.cellv 2 (v := .int .i64 R) rfl
  have c6 := hb2.cellv 6 (v := .bool h) rfl
  have f6 := hb2.frozen 6
  have HB2 := Lib.hid hb2
  have HG2 := Lib.hid hg2
  have HQ := Lib.hid hq
  clear hb2 hg2 hq
  by_cases c : q ≤ R
  · go_region
    go_wp2_with fail
    go_ret
    exact ⟨by rw [← HQ.out]; rfl, by rw [← HQ.out, show (h && decide (R < q)) = false from by rw [show decide (R < q) = false from by simp; omega, Bool.and_false]]; exact (stepH HB2.out false).1.drew, grown_drew (grown_trans HG2.out (stepH HB2.out false).2)⟩
  · go_region
    go_wp2_with fail
    go_ret
    exact ⟨by rw [← HQ.out]; rfl, by rw [← HQ.out, show (h && decide (R < q)) = h from by rw [show decide (R < q) = true from by simp; omega, Bool.and_true]]; exact HB2.out.drew, grown_drew HG2.out⟩
end Go.Proofs.Ythifahmhimbedaa
