/- damp: to, Flap, Tick, Held, Penalty, Copy, New. -/
import Derived.Test.YthifahmhimbedaaDampB
import Derived.StillTailTactics
namespace Go.Proofs.Ythifahmhimbedaa
set_option linter.unusedVariables false
open Go.RowKit

set_option maxHeartbeats 1000000 in
theorem to_rise (F S R C H p q : Int) (h : Bool) (g : Nat) (w : World) (hF : 1 ≤ F) (hb : Blk w g 36 (dampCs F S R C H p h)) :
    Calls Try.prog 26 #[.pointer (some ⟨g, 0, none⟩), .int .i64 q, .func (.func 27) #[] #[]] w fun e w' => e = .returned (.int .i64 (lowest q C)) ∧
      Blk w' g 36 (dampCs F S R C H (lowest q C) (h || decide (S ≤ lowest q C))) ∧ w.grownBy w' (some g) := by
  have c5 := hb.cellv 5 (v := .int .i64 p) rfl
  have f5 := hb.frozen 5
  have hb1 : Blk (w.setCell ⟨g, 5, none⟩ (.int .i64 q)) g 36 (dampCs F S R C H q h) := by
    rw [← dampCs_p F S R C H p]; exact hb.set_ 5 _
  have hg1 : w.grownBy (w.setCell ⟨g, 5, none⟩ (.int .i64 q)) (some g) := grown_setCell (grown_refl _ _) (.inl rfl) _
  go_enter Try.func26, Try.ntmps26
  go_wp2_with fail
  refine (made_yes F S R C H p h g _ hF hb).mono ?_
  rintro e w' ⟨rfl, rfl⟩
  clear hb
  go_wp2_with fail
  refine (rising_any F S R C H q h g _ hb1).mono ?_
  rintro e w2 ⟨rfl, hb2, hg2⟩
  have hg3 := grown_trans hg1 hg2
  have c5 := hb2.cellv 5 (v := .int .i64 (lowest q C)) rfl
  have HB := Lib.hid hb2
  have HG := Lib.hid hg3
  clear hb1 hg1 f5 hb2 hg2 hg3
  go_wp2
  go_ret
  exact ⟨rfl, HB.out, HG.out⟩

set_option maxHeartbeats 1000000 in
theorem to_fall (F S R C H p q : Int) (h : Bool) (g : Nat) (w : World) (hF : 1 ≤ F) (hb : Blk w g 36 (dampCs F S R C H p h)) :
    Calls Try.prog 26 #[.pointer (some ⟨g, 0, none⟩), .int .i64 q, .func (.func 28) #[] #[]] w fun e w' => e = .returned (.int .i64 q) ∧
      Blk w' g 36 (dampCs F S R C H q (h && decide (R < q))) ∧ w.grownBy w' (some g) := by
  have c5 := hb.cellv 5 (v := .int .i64 p) rfl
  have f5 := hb.frozen 5
  have hb1 : Blk (w.setCell ⟨g, 5, none⟩ (.int .i64 q)) g 36 (dampCs F S R C H q h) := by
    rw [← dampCs_p F S R C H p]; exact hb.set_ 5 _
  have hg1 : w.grownBy (w.setCell ⟨g, 5, none⟩ (.int .i64 q)) (some g) := grown_setCell (grown_refl _ _) (.inl rfl) _
  go_enter Try.func26, Try.ntmps26
  go_wp2_with fail
  refine (made_yes F S R C H p h g _ hF hb).mono ?_
  rintro e w' ⟨rfl, rfl⟩
  clear hb
  go_wp2_with fail
  refine (falling_any F S R C H q h g _ hb1).mono ?_
  rintro e w2 ⟨rfl, hb2, hg2⟩
  have hg3 := grown_trans hg1 hg2
  have c5 := hb2.cellv 5 (v := .int .i64 q) rfl
  have HB := Lib.hid hb2
  have HG := Lib.hid hg3
  clear hb1 hg1 f5 hb2 hg2 hg3
  go_wp2
  go_ret
  exact ⟨rfl, HB.out, HG.out⟩

set_option maxHeartbeats 1000000 in
theorem flap_any (F S R C H p : Int) (h : Bool) (g : Nat) (w : World) (hF : 1 ≤ F) (hF2 : F ≤ 100000) (p1 : 0 ≤ p) (p2 : p ≤ 1000000) (hb : Blk w g 36 (dampCs F S R C H p h)) :
    Calls Try.prog 15 #[.pointer (some ⟨g, 0, none⟩)] w fun e w' => e = .returned (.int .i64 (lowest (p + F) C)) ∧
      Blk w' g 36 (dampCs F S R C H (lowest (p + F) C) (h || decide (S ≤ lowest (p + F) C))) ∧ w.grownBy w' (some g) := by
  have c5 := hb.cellv 5 (v := .int .i64 p) rfl
  have c0 := hb.cellv 0 (v := .int .i64 F) rfl
  go_enter Try.func15, Try.ntmps15
  go_wp2_with fail
  refine (made_yes F S R C H p h g _ hF hb).mono ?_
  rintro e w' ⟨rfl, rfl⟩
  go_wp2_with fail
  go_still_tail 11, (by kernel_rfl)
  change wpList _ _ _ _ _ w.drew
  have hb1 := hb.drew
  have hg1 : w.grownBy w.drew (some g) := grown_drew (grown_refl _ _)
  have HG1 := Lib.hid hg1
  generalize w.drew = w1 at *
  have hw : IntKind.i64.wrap (p + F) = p + F := IntWalk.i64_in _ ⟨by omega, by omega⟩
  rw [hw]
  clear hw hb c5 c0 hg1
  go_wp2_with fail
  refine (to_rise F S R C H p (p + F) h g _ hF hb1).mono ?_
  rintro e w2 ⟨rfl, hb2, hg2⟩
  have HB := Lib.hid hb2
  have HG := Lib.hid (grown_trans HG1.out hg2)
  clear hb1 hb2 hg2 HG1
  go_wp2
  go_ret
  exact ⟨rfl, HB.out, HG.out⟩

set_option maxHeartbeats 1000000 in
theorem tick_any (F S R C H p : Int) (h : Bool) (g : Nat) (w : World) (hF : 1 ≤ F) (p1 : 0 ≤ p) (p2 : p ≤ 1000000) (hb : Blk w g 36 (dampCs F S R C H p h)) :
    Calls Try.prog 17 #[.pointer (some ⟨g, 0, none⟩)] w fun e w' => e = .returned (.int .i64 (decay p H)) ∧
      Blk w' g 36 (dampCs F S R C H (decay p H) (h && decide (R < decay p H))) ∧ w.grownBy w' (some g) := by
  have c5 := hb.cellv 5 (v := .int .i64 p) rfl
  have c4 := hb.cellv 4 (v := .int .i64 H) rfl
  go_enter Try.func17, Try.ntmps17
  go_wp2_with fail
  refine (made_yes F S R C H p h g _ hF hb).mono ?_
  rintro e w' ⟨rfl, rfl⟩
  go_wp2_with fail
  go_still_tail 11, (by kernel_rfl)
  still_call ((decay_any p H _ (by omega) (by omega)).mono fun _ _ h => ⟨h.1, h.2.symm⟩)
  repeat still_step
  refine wpStill_nil ?_
  change wpList _ _ _ _ _ w.drew
  have hb1 := hb.drew
  have hg1 : w.grownBy w.drew (some g) := grown_drew (grown_refl _ _)
  have HG1 := Lib.hid hg1
  generalize w.drew = w1 at *
  clear hb c5 c4 hg1
  go_wp2_with fail
  refine (to_fall F S R C H p (decay p H) h g _ hF hb1).mono ?_
  rintro e w2 ⟨rfl, hb2, hg2⟩
  have HB := Lib.hid hb2
  have HG := Lib.hid (grown_trans HG1.out hg2)
  clear hb1 hb2 hg2 HG1
  go_wp2
  go_ret
  exact ⟨rfl, HB.out, HG.out⟩

set_option maxHeartbeats 400000 in
theorem held_any (F S R C H p : Int) (h : Bool) (g : Nat) (w : World) (hF : 1 ≤ F) (hb : Blk w g 36 (dampCs F S R C H p h)) :
    Calls Try.prog 16 #[.pointer (some ⟨g, 0, none⟩)] w fun e w' => e = .returned (.bool h) ∧ w = w' := by
  have c6 := hb.cellv 6 (v := .bool h) rfl
  go_enter Try.func16, Try.ntmps16
  go_wp2_with (go_at_call 25; refine (made_yes F S R C H p h g _ hF hb).mono ?_; rintro e w' ⟨rfl, rfl⟩)
  go_ret
  exact ⟨rfl, rfl⟩

set_option maxHeartbeats 400000 in
theorem penalty_any (F S R C H p : Int) (h : Bool) (g : Nat) (w : World) (hF : 1 ≤ F) (hb : Blk w g 36 (dampCs F S R C H p h)) :
    Calls Try.prog 18 #[.pointer (some ⟨g, 0, none⟩)] w fun e w' => e = .returned (.int .i64 p) ∧ w = w' := by
  have c5 := hb.cellv 5 (v := .int .i64 p) rfl
  go_enter Try.func18, Try.ntmps18
  go_wp2_with (go_at_call 25; refine (made_yes F S R C H p h g _ hF hb).mono ?_; rintro e w' ⟨rfl, rfl⟩)
  go_ret
  exact ⟨rfl, rfl⟩

set_option maxHeartbeats 400000 in
theorem copy_any (F S R C H p : Int) (h : Bool) (g : Nat) (w : World) (hF : 1 ≤ F) (hb : Blk w g 36 (dampCs F S R C H p h)) :
    Calls Try.prog 19 #[.pointer (some ⟨g, 0, none⟩)] w fun e w' => e = .returned (.pointer (some ⟨w.heap.size, 0, none⟩)) ∧ Blk w' w.heap.size 36 (dampCs F S R C H p h) ∧ Below w.heap.size w w' := by
  have c0 := hb.cellv 0 (v := .int .i64 F) rfl
  have c1 := hb.cellv 1 (v := .int .i64 S) rfl
  have c2 := hb.cellv 2 (v := .int .i64 R) rfl
  have c3 := hb.cellv 3 (v := .int .i64 C) rfl
  have c4 := hb.cellv 4 (v := .int .i64 H) rfl
  have c5 := hb.cellv 5 (v := .int .i64 p) rfl
  have c6 := hb.cellv 6 (v := .bool h) rfl
  go_enter Try.func19, Try.ntmps19
  go_wp2_with (go_at_call 25; refine (made_yes F S R C H p h g _ hF hb).mono ?_; rintro e w' ⟨rfl, rfl⟩)
  go_ret
  exact ⟨rfl, Blk.new _ _ _, (Below.refl _ _).alloc (Nat.le_refl _) _⟩

set_option maxHeartbeats 400000 in
theorem new_yes (F S R C H : Int) (w : World) (h : goodR F S R C H = true) :
    Calls Try.prog 14 #[.agg #[.int .i64 F, .int .i64 S, .int .i64 R, .int .i64 C, .int .i64 H]] w fun e w' => ∃ g, e = .returned (.pointer (some ⟨g, 0, none⟩)) ∧ w.heap.size ≤ g ∧ Blk w' g 36 (dampCs F S R C H 0 false) ∧ Below w.heap.size w w' := by
  have HH := Lib.hid h
  clear h
  go_enter Try.func14, Try.ntmps14
  go_wp2_with fail
  refine (good_yes F S R C H _ HH.out).mono ?_
  rintro e w1 ⟨rfl, hb⟩
  have hk := (Blk.new w 26 #[.int .i64 F, .int .i64 S, .int .i64 R, .int .i64 C, .int .i64 H]).below hb (by simp)
  have c0 := hk.cellv 0 (v := .int .i64 F) rfl
  have c1 := hk.cellv 1 (v := .int .i64 S) rfl
  have c2 := hk.cellv 2 (v := .int .i64 R) rfl
  have c3 := hk.cellv 3 (v := .int .i64 C) rfl
  have c4 := hk.cellv 4 (v := .int .i64 H) rfl
  have hB : Below w.heap.size w w1 := ((Below.refl _ _).alloc (Nat.le_refl _) _).trans (hb.mono (by simp))
  clear hk hb
  go_wp2_with fail
  go_ret
  exact ⟨_, rfl, hB.size, Blk.new _ _ _, hB.alloc hB.size _⟩

set_option maxHeartbeats 400000 in
theorem new_no (F S R C H : Int) (w : World) (h : goodR F S R C H = false) :
    Calls Try.prog 14 #[.agg #[.int .i64 F, .int .i64 S, .int .i64 R, .int .i64 C, .int .i64 H]] w fun e w' => e = .returned (.pointer none) ∧ Below w.heap.size w w' := by
  have HH := Lib.hid h
  clear h
  go_enter Try.func14, Try.ntmps14
  go_wp2_with fail
  refine (good_no F S R C H _ HH.out).mono ?_
  rintro e w1 ⟨rfl, hb⟩
  have hB : Below w.heap.size w w1 := ((Below.refl _ _).alloc (Nat.le_refl _) _).trans (hb.mono (by simp))
  clear hb
  go_wp2_with fail
  go_ret
  exact ⟨rfl, hB⟩

/-- the document's examples. -/
theorem lives_any (w : World) : Calls Try.prog 10 #[] w fun e W' => e = .returned (.bool true) ∧ Below w.heap.size w W' := by
  have e1 : Hid (lowest (0 + 1000) 4000 = 1000) := (by decide : lowest (0 + 1000) 4000 = 1000)
  have e2 : Hid (lowest (1000 + 1000) 4000 = 2000) := (by decide : lowest (1000 + 1000) 4000 = 2000)
  have e3 : Hid (decay 1000 100 = 994) := (by decide : decay 1000 100 = 994)
  go_enter Try.func10, Try.ntmps10
  go_wp2_with fail
  refine (new_yes 1000 2000 750 4000 60 _ (by decide)).mono ?_
  rintro e w1 ⟨g, rfl, hg, hb, hB⟩
  go_wp2_with fail
  refine (flap_any _ _ _ _ _ _ _ g _ (by omega) (by omega) (by omega) (by omega) hb).mono ?_
  rintro e w2 ⟨rfl, hb, hg2⟩
  have hB := below_own hB hg2 hB.size hg
  rw [e1.out] at hb ⊢
  clear hg2
  go_wp2_with fail
  refine (held_any _ _ _ _ _ _ _ g _ (by omega) hb).mono ?_
  rintro e w' ⟨rfl, rfl⟩
  go_wp2_with fail
  refine (flap_any _ _ _ _ _ _ _ g _ (by omega) (by omega) (by omega) (by omega) hb).mono ?_
  rintro e w3 ⟨rfl, hb, hg2⟩
  have hB := below_own hB hg2 hB.size hg
  rw [e2.out] at hb ⊢
  clear hg2
  go_wp2_with fail
  refine (decay_any _ _ _ (by omega) (by omega)).mono ?_
  rintro e w' ⟨rfl, rfl⟩
  rw [e3.out]
  go_wp2_with fail
  refine (held_any _ _ _ _ _ _ _ g _ (by omega) hb).mono ?_
  rintro e w' ⟨rfl, rfl⟩
  go_wp2_with fail
  go_ret
  exact ⟨rfl, hB⟩

set_option maxHeartbeats 1000000 in
theorem decays_walk (p q h : Int) (w : World) (wp : (Lit.int .i64 p).wf = true) (wq : (Lit.int .i64 q).wf = true) (_wh : (Lit.int .i64 h).wf = true) :
    Calls Try.prog 3 #[.int .i64 p, .int .i64 q, .int .i64 h] w fun e w' => e = .returned (.bool true) ∧ Below w.heap.size w w' := by
  obtain ⟨p1, p2⟩ := bounds_i64 wp
  obtain ⟨q1, q2⟩ := bounds_i64 wq
  have l1 := decay_lo p h
  clear wp wq
  have l2 : p ≤ 0 ∨ decay p h < p := by
    by_cases c : 0 < p
    · exact .inr (decay_lt p h c)
    · exact .inl (by omega)
  have l3 : q < p ∨ decay p h ≤ decay q h := by
    by_cases c : q < p
    · exact .inl c
    · exact .inr (decay_mono p q h (by omega))
  rcases l2 with l2 | l2 <;> rcases l3 with l3 | l3
  all_goals
    go_enter Try.func3, Try.ntmps3
    go_wp2_with (first
      | (go_at_call 8; refine (decay_any _ _ _ (by omega) (by omega)).mono ?_; rintro e w' ⟨rfl, rfl⟩)
      | (go_at_call 9; refine (refDecay_any _ _ _ (by omega) (by omega)).mono ?_; rintro e w' ⟨rfl, rfl⟩)
      | (go_at_call 10; refine (lives_any _).mono ?_; rintro e w' ⟨rfl, hb⟩))
    all_goals go_ret
    all_goals exact ⟨rfl, hb⟩
end Go.Proofs.Ythifahmhimbedaa
