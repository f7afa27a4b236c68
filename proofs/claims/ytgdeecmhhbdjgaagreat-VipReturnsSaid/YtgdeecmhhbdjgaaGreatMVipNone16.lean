import Derived.Test.YtgdeecmhhbdjgaaGreatMVipNone14
import Derived.BigGuardPart
/- damp: the document's answer: Good, New, Flap, Tick. -/
namespace Go.Proofs.YtgdeecmhhbdjgaaGreat.dm
set_option maxRecDepth 100000
set_option linter.unusedVariables false
open Go.RowKit

set_option maxHeartbeats 1000000 in
theorem refGood_any (F S R C H : Int) (w : World) :
    Calls Tryz.prog 148 #[.agg #[.int .i64 F, .int .i64 S, .int .i64 R, .int .i64 C, .int .i64 H]] w fun e w' => e = .returned (.bool (goodR F S R C H)) ∧ Below w.heap.size w w' := by
  go_enter Tryz.func148, Tryz.ntmps148
  go_wp2
  all_goals go_ret
  all_goals exact ⟨ret_bool (by unfold goodR; rw [Bool.eq_iff_iff]; simp only [decide_eq_true_eq, Bool.false_eq_true, false_iff]; omega), (Below.refl _ _).alloc (Nat.le_refl _) _⟩

set_option maxHeartbeats 400000 in
theorem refNew_yes (F S R C H : Int) (w : World) (h : goodR F S R C H = true) :
    Calls Tryz.prog 112 #[.agg #[.int .i64 F, .int .i64 S, .int .i64 R, .int .i64 C, .int .i64 H]] w fun e w' => ∃ g, e = .returned (.pointer (some ⟨g, 0, none⟩)) ∧ w.heap.size ≤ g ∧ Blk w' g 95 (dampCs F S R C H 0 false) ∧ Below w.heap.size w w' := by
  have HH := Lib.hid h
  clear h
  go_enter Tryz.func112, Tryz.ntmps112
  go_wp2_with fail
  refine (refGood_any F S R C H _).mono ?_
  rintro e w1 ⟨rfl, hb⟩
  rw [HH.out]
  have hk := (Blk.new w 39 #[.int .i64 F, .int .i64 S, .int .i64 R, .int .i64 C, .int .i64 H]).below hb (by simp)
  have c0 := hk.cellv 0 (v := .int .i64 F) rfl
  have c1 := hk.cellv 1 (v := .int .i64 S) rfl
  have c2 := hk.cellv 2 (v := .int .i64 R) rfl
  have c3 := hk.cellv 3 (v := .int .i64 C) rfl
  have c4 := hk.cellv 4 (v := .int .i64 H) rfl
  have hB : Below w.heap.size w w1 := ((Below.refl _ _).alloc (Nat.le_refl _) _).trans (hb.mono (by simp))
  clear hk hb
  go_wp2_with fail
  go_ret
  exact ⟨_, rfl, hB.size, Blk.new _ _ _, hB.alloc hB.size _⟩

set_option maxHeartbeats 400000 in
theorem refNew_no (F S R C H : Int) (w : World) (h : goodR F S R C H = false) :
    Calls Tryz.prog 112 #[.agg #[.int .i64 F, .int .i64 S, .int .i64 R, .int .i64 C, .int .i64 H]] w fun e w' => e = .returned (.pointer none) ∧ Below w.heap.size w w' := by
  have HH := Lib.hid h
  clear h
  go_enter Tryz.func112, Tryz.ntmps112
  go_wp2_with fail
  refine (refGood_any F S R C H _).mono ?_
  rintro e w1 ⟨rfl, hb⟩
  rw [HH.out]
  have hB : Below w.heap.size w w1 := ((Below.refl _ _).alloc (Nat.le_refl _) _).trans (hb.mono (by simp))
  clear hb
  go_wp2_with fail
  go_ret
  exact ⟨rfl, hB⟩

theorem stepP {w : World} {g : Nat} {T : TypeId} {F S R C H p : Int} {h : Bool} (hb : Blk w g T (dampCs F S R C H p h)) (q : Int) : Blk (w.setCell ⟨g, 5, none⟩ (.int .i64 q)) g T (dampCs F S R C H q h) ∧ w.grownBy (w.setCell ⟨g, 5, none⟩ (.int .i64 q)) (some g) :=
  ⟨by rw [← dampCs_p F S R C H p]; exact hb.set_ 5 _, grown_setCell (grown_refl _ _) (.inl rfl) _⟩
theorem stepH {w : World} {g : Nat} {T : TypeId} {F S R C H p : Int} {h : Bool} (hb : Blk w g T (dampCs F S R C H p h)) (k : Bool) : Blk (w.setCell ⟨g, 6, none⟩ (.bool k)) g T (dampCs F S R C H p k) ∧ w.grownBy (w.setCell ⟨g, 6, none⟩ (.bool k)) (some g) :=
  ⟨by rw [← dampCs_h F S R C H p h]; exact hb.set_ 6 _, grown_setCell (grown_refl _ _) (.inl rfl) _⟩

set_option maxHeartbeats 1000000 in
theorem refFlap_any (F S R C H p : Int) (h : Bool) (g : Nat) (w : World) (hF : 1 ≤ F) (hF2 : F ≤ 100000) (p1 : 0 ≤ p) (p2 : p ≤ 1000000) (hb : Blk w g 95 (dampCs F S R C H p h)) :
    Calls Tryz.prog 137 #[.pointer (some ⟨g, 0, none⟩)] w fun e w' => e = .returned (.int .i64 (lowest (p + F) C)) ∧
      Blk w' g 95 (dampCs F S R C H (lowest (p + F) C) (h || decide (S ≤ lowest (p + F) C))) ∧ w.grownBy w' (some g) := by
  have c5 := hb.cellv 5 (v := .int .i64 p) rfl
  have c0 := hb.cellv 0 (v := .int .i64 F) rfl
  have f5 := hb.frozen 5
  have hw : IntKind.i64.wrap (p + F) = p + F := IntWalk.i64_in _ ⟨by omega, by omega⟩
  obtain ⟨hb1, hg1⟩ := stepP hb (p + F)
  have HB1 := Lib.hid hb1.drew
  have HG1 := Lib.hid (grown_drew hg1)
  clear hb hb1 hg1
  go_enter Tryz.func137, Tryz.ntmps137
  go_wp2_with fail
  go_region
  go_wp2_with fail
  have hb1 := HB1.out
  have hg1 := HG1.out
  clear HB1 HG1 c5 c0 f5 hw
  generalize (w.setCell ⟨g, 5, none⟩ (.int .i64 (p + F))).drew = w1 at *
  have c5 := hb1.cellv 5 (v := .int .i64 (p + F)) rfl
  have c3 := hb1.cellv 3 (v := .int .i64 C) rfl
  have f5 := hb1.frozen 5
  by_cases c : C < p + F
  · obtain ⟨hb2, hg2⟩ := stepP hb1.drew C
    have HB2 := Lib.hid hb2
    have HG2 := Lib.hid (grown_trans (grown_drew hg1) hg2)
    have HQ := Lib.hid (lowest_hi (p + F) C c)
    clear hb1 hg1 hb2 hg2
    go_region
    go_wp2_with fail
    have hb2 : Blk (w1.setCell ⟨g, 5, none⟩ (.int .i64 C)).drew g 95 (dampCs F S R C H C h) := HB2.out
    have hg2 : w.grownBy (w1.setCell ⟨g, 5, none⟩ (.int .i64 C)).drew (some g) := HG2.out
    clear HB2 HG2 c5 c3 f5 c
    generalize (w1.setCell ⟨g, 5, none⟩ (.int .i64 C)).drew = w2 at *
    have c5 := hb2.cellv 5 (v := .int .i64 C) rfl
    have c1 := hb2.cellv 1 (v := .int .i64 S) rfl
    have c6 := hb2.cellv 6 (v := .bool h) rfl
    have f6 := hb2.frozen 6
    have HB2 := Lib.hid hb2
    have HG2 := Lib.hid hg2
    clear hb2 hg2
    by_cases c2 : S ≤ C
    · go_region
      go_wp2_with fail
      go_ret
      have K1 := (stepH HB2.out true).1.drew
      have K2 := grown_drew (grown_trans HG2.out (stepH HB2.out true).2)
      exact ⟨by rw [HQ.out]; rfl, by rw [HQ.out, show (h || decide (S ≤ C)) = true from by simp [c2]]; exact K1, K2⟩
    · go_region
      go_wp2_with fail
      go_ret
      exact ⟨by rw [HQ.out]; rfl, by rw [HQ.out, show (h || decide (S ≤ C)) = h from by rw [show decide (S ≤ C) = false from by simp; omega, Bool.or_false]]; exact HB2.out.drew, grown_drew HG2.out⟩
  · have HQ := Lib.hid (lowest_lo (p + F) C (by omega))
    have HB1 := Lib.hid hb1
    have HG1 := Lib.hid hg1
    clear hb1 hg1
    go_region
    go_wp2_with fail
    have hb2 := HB1.out.drew
    have hg2 := grown_drew HG1.out
    clear HB1 HG1 c5 c3 f5 c
    generalize w1.drew = w2 at *
    have c5 := hb2.cellv 5 (v := .int .i64 (p + F)) rfl
    have c1 := hb2.cellv 1 (v := .int .i64 S) rfl
    have c6 := hb2.cellv 6 (v := .bool h) rfl
    have f6 := hb2.frozen 6
    have HB2 := Lib.hid hb2
    have HG2 := Lib.hid hg2
    clear hb2 hg2
    by_cases c2 : S ≤ (p + F)
    · go_region
      go_wp2_with fail
      go_ret
      have K1 := (stepH HB2.out true).1.drew
      have K2 := grown_drew (grown_trans HG2.out (stepH HB2.out true).2)
      exact ⟨by rw [HQ.out]; rfl, by rw [HQ.out, show (h || decide (S ≤ (p + F))) = true from by simp [c2]]; exact K1, K2⟩
    · go_region
      go_wp2_with fail
      go_ret
      exact ⟨by rw [HQ.out]; rfl, by rw [HQ.out, show (h || decide (S ≤ (p + F))) = h from by rw [show decide (S ≤ (p + F)) = false from by simp; omega, Bool.or_false]]; exact HB2.out.drew, grown_drew HG2.out⟩

set_option maxHeartbeats 1000000 in
theorem refTick_any (F S R C H p : Int) (h : Bool) (g : Nat) (w : World) (hF : 1 ≤ F) (p1 : 0 ≤ p) (p2 : p ≤ 1000000) (hb : Blk w g 95 (dampCs F S R C H p h)) :
    Calls Tryz.prog 196 #[.pointer (some ⟨g, 0, none⟩)] w fun e w' => e = .returned (.int .i64 (decay p H)) ∧
      Blk w' g 95 (dampCs F S R C H (decay p H) (h && decide (R < decay p H))) ∧ w.grownBy w' (some g) := by
  have c5 := hb.cellv 5 (v := .int .i64 p) rfl
  have c4 := hb.cellv 4 (v := .int .i64 H) rfl
  have f5 := hb.frozen 5
  obtain ⟨hb1, hg1⟩ := stepP hb (decay p H)
  have HB1 := Lib.hid hb1.drew
  have HG1 := Lib.hid (grown_drew hg1)
  clear hb hb1 hg1
  go_enter Tryz.func196, Tryz.ntmps196
  go_wp2_with fail
  go_still_tail 13, (by kernel_rfl)
  still_call ((refDecay_any p H _ (by omega) (by omega)).mono fun _ _ h => ⟨h.1, h.2.symm⟩)
  repeat still_step
  refine wpStill_nil ?_
  change wpList _ _ _ _ _ w.drew
  go_wp2_with fail
  have hb2 : Blk (w.setCell ⟨g, 5, none⟩ (.int .i64 (decay p H))).drew g 95 (dampCs F S R C H (decay p H) h) := HB1.out
  have hg2 : w.grownBy (w.setCell ⟨g, 5, none⟩ (.int .i64 (decay p H))).drew (some g) := HG1.out
  clear HB1 HG1 c5 c4 f5
  generalize (w.setCell ⟨g, 5, none⟩ (.int .i64 (decay p H))).drew = w2 at *
  obtain ⟨q, hq⟩ : ∃ q, q = decay p H := ⟨_, rfl⟩
  rw [← hq] at hb2 ⊢
  have c5 := hb2.cellv 5 (v := .int .i64 q) rfl
  have c2 := hb2.cellv 2 (v := .int .i64 R) rfl
  have c6 := hb2.cellv 6 (v := .bool h) rfl
  have f6 := hb2.frozen 6
  have HB2 := Lib.hid hb2
  have HG2 := Lib.hid hg2
  have HQ := Lib.hid hq
  clear hb2 hg2 hq
  by_cases c : q ≤ R
  · go_region
    go_wp2_with fail
    go_ret
    exact ⟨by rw [← HQ.out]; rfl, by rw [← HQ.out, show (h && decide (R < q)) = false from by rw [show decide (R < q) = false from by simp; omega, Bool.and_false]]; exact (stepH HB2.out false).1.drew, grown_drew (grown_trans HG2.out (stepH HB2.out false).2)⟩
  · go_region
    go_wp2_with fail
    go_ret
    exact ⟨by rw [← HQ.out]; rfl, by rw [← HQ.out, show (h && decide (R < q)) = h from by rw [show decide (R < q) = true from by simp; omega, Bool.and_true]]; exact HB2.out.drew, grown_drew HG2.out⟩
end Go.Proofs.YtgdeecmhhbdjgaaGreat.dm

/- damp: Ticks, and the laws DampTicks, DampNone. -/
namespace Go.Proofs.YtgdeecmhhbdjgaaGreat.dm
set_option maxRecDepth 100000
set_option linter.unusedVariables false
open Go.RowKit

/-- how many ticks from p down to R, in at most so many. -/
def tk (R H : Int) : Nat → Int → Nat
  | 0, _ => 0
  | f + 1, p => if R < p then tk R H f (decay p H) + 1 else 0
theorem tk_more (R H : Int) (hR : 0 ≤ R) : ∀ (f : Nat) (p : Int), p ≤ f → tk R H (f + 1) p = tk R H f p := by
  intro f
  induction f with
  | zero => intro p hp; simp only [tk]; rw [if_neg (by omega)]
  | succ f ih =>
    intro p hp
    show (if R < p then tk R H (f + 1) (decay p H) + 1 else 0) = (if R < p then tk R H f (decay p H) + 1 else 0)
    by_cases c : R < p
    · rw [if_pos c, if_pos c, ih]
      have := decay_lt p H (by omega); omega
    · rw [if_neg c, if_neg c]
theorem tk_enough (R H : Int) (hR : 0 ≤ R) (p : Int) (f : Nat) (hp : p ≤ f) : tk R H f p = tk R H p.toNat p := by
  have key : ∀ k : Nat, tk R H (p.toNat + k) p = tk R H p.toNat p := by
    intro k
    induction k with
    | zero => rfl
    | succ k ih => rw [← Nat.add_assoc, tk_more R H hR _ p (by omega), ih]
  have := key (f - p.toNat)
  rw [show p.toNat + (f - p.toNat) = f from by omega] at this
  exact this
/-- how many ticks from p on. -/
def ticks (R H p : Int) : Nat := tk R H p.toNat p
theorem ticks_step (R H p : Int) (hR : 0 ≤ R) (h : R < p) : ticks R H p = ticks R H (decay p H) + 1 := by
  unfold ticks
  obtain ⟨f, hf⟩ : ∃ f, p.toNat = f + 1 := ⟨p.toNat - 1, by omega⟩
  rw [hf, tk, if_pos h, tk_enough R H hR (decay p H) f]
  have := decay_lt p H (by omega); omega
theorem ticks_end (R H p : Int) (h : p ≤ R) : ticks R H p = 0 := by
  unfold ticks
  cases p.toNat with
  | zero => rfl
  | succ f => rw [tk, if_neg (by omega)]
theorem ticks_le (R H p : Int) (hR : 0 ≤ R) : ticks R H p ≤ p.toNat := by
  have key : ∀ (n : Nat) (p : Int), p.toNat ≤ n → ticks R H p ≤ p.toNat := by
    intro n
    induction n with
    | zero => intro p hp; rw [ticks_end R H p (by omega)]; omega
    | succ n ih =>
      intro p hp
      by_cases c : R < p
      · have h1 := decay_lt p H (by omega)
        have h2 := decay_lo p H
        have h3 := ih (decay p H) (by omega)
        rw [ticks_step R H p hR c]; omega
      · rw [ticks_end R H p (by omega)]; omega
  exact key _ p (Nat.le_refl _)
theorem ticks_mono (R H p q : Int) (hR : 0 ≤ R) (hpq : p ≤ q) : ticks R H p ≤ ticks R H q := by
  have key : ∀ (n : Nat) (p q : Int), p.toNat ≤ n → p ≤ q → ticks R H p ≤ ticks R H q := by
    intro n
    induction n with
    | zero => intro p q hp hpq; rw [ticks_end R H p (by omega)]; omega
    | succ n ih =>
      intro p q hp hpq
      by_cases c : R < p
      · have h1 := decay_lt p H (by omega)
        have h2 := decay_lo p H
        have h3 := ih (decay p H) (decay q H) (by omega) (decay_mono p q H hpq)
        rw [ticks_step R H p hR c, ticks_step R H q hR (by omega)]; omega
      · rw [ticks_end R H p (by omega)]; omega
  exact key _ p q (Nat.le_refl _) hpq

set_option maxHeartbeats 1000000 in
theorem refTicks_yes (F S R C H : Int) (w : World) (h : goodR F S R C H = true) :
    Calls Tryz.prog 47 #[.agg #[.int .i64 F, .int .i64 S, .int .i64 R, .int .i64 C, .int .i64 H]] w fun e w' => e = .returned (.int .i64 (ticks R H C : Nat)) ∧ Below w.heap.size w w' := by
  obtain ⟨_, _, _, _, h5, h6, h7, h8, _, _⟩ := of_decide_eq_true h
  have HH := Lib.hid h
  clear h
  have hlim := ticks_le R H C h5
  go_enter Tryz.func47, Tryz.ntmps47
  go_wp2_with fail
  refine (refGood_any F S R C H _).mono ?_
  rintro e w1 ⟨rfl, hb⟩
  rw [HH.out]
  have hk := (Blk.new w 39 #[.int .i64 F, .int .i64 S, .int .i64 R, .int .i64 C, .int .i64 H]).below hb (by simp)
  have c2 := hk.cellv 2 (v := .int .i64 R) rfl
  have c3 := hk.cellv 3 (v := .int .i64 C) rfl
  have c4 := hk.cellv 4 (v := .int .i64 H) rfl
  have HB : Hid (Below w.heap.size w w1) := ((Below.refl _ _).alloc (Nat.le_refl _) _).trans (hb.mono (by simp))
  clear hk hb
  go_wp2_with fail
  go_loop [3, 4] (fun n p => ∃ (k : Nat) (q : Int), q ≤ C ∧ 0 ≤ q ∧ k + ticks R H q = ticks R H C ∧ n = .int .i64 k ∧ p = .int .i64 q) (fun _ p => (intOf p).toNat)
  case atStart => exact ⟨0, C, Int.le_refl _, by omega, Nat.zero_add _, rfl, rfl⟩
  case round =>
    obtain ⟨k, q, q1, q2, hq, rfl, rfl⟩ := hrel
    have hk : k ≤ ticks R H C := by omega
    have HQ := Lib.hid hq
    clear hq
    by_cases c : R < q
    · have l1 := decay_lt q H (by omega)
      have l2 := decay_lo q H
      go_wp2_with (go_at_call 149; refine (refDecay_any _ _ _ (by omega) (by omega)).mono ?_; rintro e w' ⟨rfl, rfl⟩)
      go_round
      case rel => exact ⟨k + 1, decay q H, by omega, by omega, by rw [← HQ.out, ticks_step R H q h5 c]; omega, by go_num, rfl⟩
      case measure => simp [intOf]; omega
    · have HE : Hid ((k : Int) = (ticks R H C : Nat)) := by rw [← HQ.out, ticks_end R H q (by omega)]; rfl
      go_wp2_with fail
      go_ret
      exact ⟨by rw [← HE.out]; rfl, HB.out⟩

set_option maxHeartbeats 400000 in
theorem refTicks_no (F S R C H : Int) (w : World) (h : goodR F S R C H = false) :
    Calls Tryz.prog 47 #[.agg #[.int .i64 F, .int .i64 S, .int .i64 R, .int .i64 C, .int .i64 H]] w fun e w' => e = .returned (.int .i64 0) ∧ Below w.heap.size w w' := by
  have HH := Lib.hid h
  clear h
  go_enter Tryz.func47, Tryz.ntmps47
  go_wp2_with fail
  refine (refGood_any F S R C H _).mono ?_
  rintro e w1 ⟨rfl, hb⟩
  rw [HH.out]
  have hB : Below w.heap.size w w1 := ((Below.refl _ _).alloc (Nat.le_refl _) _).trans (hb.mono (by simp))
  clear hb
  go_wp2_with fail
  go_ret
  exact ⟨rfl, hB⟩

end Go.Proofs.YtgdeecmhhbdjgaaGreat.dm
