/- damp: rising, falling, to, and the methods. -/
import Derived.Test.YthifahmhimbedaaDampA
namespace Go.Proofs.Ythifahmhimbedaa
set_option linter.unusedVariables false
open Go.RowKit

def lowest (p C : Int) : Int := if p ≤ C then p else C
theorem lowest_lo (p C : Int) (h : p ≤ C) : lowest p C = p := if_pos h
theorem lowest_hi (p C : Int) (h : C < p) : lowest p C = C := if_neg (by omega)

theorem dampCs_p (F S R C H p q : Int) (h : Bool) : (dampCs F S R C H p h).setIfInBounds 5 (.int .i64 q) = dampCs F S R C H q h := rfl
theorem dampCs_h (F S R C H p : Int) (h k : Bool) : (dampCs F S R C H p h).setIfInBounds 6 (.bool k) = dampCs F S R C H p k := rfl

set_option maxHeartbeats 1000000 in
theorem rising_any (F S R C H p : Int) (h : Bool) (g : Nat) (w : World) (hb : Blk w g 36 (dampCs F S R C H p h)) :
    Calls Try.prog 27 #[.pointer (some ⟨g, 0, none⟩)] w fun e w' => e = .returned (.tuple #[]) ∧ Blk w' g 36 (dampCs F S R C H (lowest p C) (h || decide (S ≤ lowest p C))) ∧ w.grownBy w' (some g) := by
  have c3 := hb.cellv 3 (v := .int .i64 C) rfl
  have c5 := hb.cellv 5 (v := .int .i64 p) rfl
  have f5 := hb.frozen 5
  have hb1 : Blk (w.setCell ⟨g, 5, none⟩ (.int .i64 (lowest p C))).drew g 36 (dampCs F S R C H (lowest p C) h) := by
    rw [← dampCs_p F S R C H p]; exact (hb.set_ 5 _).drew
  have hg1 : w.grownBy (w.setCell ⟨g, 5, none⟩ (.int .i64 (lowest p C))).drew (some g) := grown_drew (grown_setCell (grown_refl _ _) (.inl rfl) _)
  clear hb
  have key : ∀ (q : Int) (w1 : World), Blk w1 g 36 (dampCs F S R C H q h) → w.grownBy w1 (some g) → q = lowest p C →
      Blk (w1.setCell ⟨g, 6, none⟩ (.bool (h || decide (S ≤ q)))).drew g 36 (dampCs F S R C H (lowest p C) (h || decide (S ≤ lowest p C))) ∧ w.grownBy (w1.setCell ⟨g, 6, none⟩ (.bool (h || decide (S ≤ q)))).drew (some g) := by
    rintro q w1 hk hg rfl
    exact ⟨by rw [← dampCs_h F S R C H (lowest p C) h]; exact (hk.set_ 6 _).drew, grown_drew (grown_setCell hg (.inl rfl) _)⟩
  have KEY := Lib.hid key
  clear key
  obtain ⟨q, hq⟩ : ∃ q, q = lowest p C := ⟨_, rfl⟩
  rw [← hq] at hb1 hg1
  have c6 := hb1.cellv 6 (v := .bool h) rfl
  have c1 := hb1.cellv 1 (v := .int .i64 S) rfl
  have c5' := hb1.cellv 5 (v := .int .i64 q) rfl
  have f6 := hb1.frozen 6
  clear c6 c1 c5' f6
  have HB1 := Lib.hid hb1
  have HG1 := Lib.hid hg1
  have HQ := Lib.hid hq
  clear hb1 hg1
  by_cases c : p ≤ C
  · rw [lowest_lo p C c] at hq
    subst hq
    go_enter Try.func27, Try.ntmps27
    go_wp2_with fail
    go_region
    go_wp2_with fail
    have hb1 := HB1.out
    have hg1 := HG1.out
    clear HB1 HG1 c3 c5 f5 c
    generalize (w.setCell ⟨g, 5, none⟩ (.int .i64 q)).drew = w1 at *
    have c6 := hb1.cellv 6 (v := .bool h) rfl
    have c1 := hb1.cellv 1 (v := .int .i64 S) rfl
    have c5 := hb1.cellv 5 (v := .int .i64 q) rfl
    have f6 := hb1.frozen 6
    have K := Lib.hid (KEY.out q w1 hb1 hg1 HQ.out)
    clear KEY hb1 hg1 HQ
    cases h with
    | true =>
      go_region
      go_wp2
      go_end0
      exact ⟨rfl, K.out.1, K.out.2⟩
    | false =>
      by_cases c2 : S ≤ q
      · have K' := K.out
        rw [show (false || decide (S ≤ q)) = true from by simp [c2]] at K'
        have K2 := Lib.hid K'
        clear K K'
        go_region
        go_wp2
        go_end0
        exact ⟨rfl, K2.out.1, K2.out.2⟩
      · have K' := K.out
        rw [show (false || decide (S ≤ q)) = false from by simp; omega] at K'
        have K2 := Lib.hid K'
        clear K K'
        go_region
        go_wp2
        go_end0
        exact ⟨rfl, K2.out.1, K2.out.2⟩
  · rw [lowest_hi p C (by omega)] at hq
    subst hq
    go_enter Try.func27, Try.ntmps27
    go_wp2_with fail
    go_region
    go_wp2_with fail
    have hb1 := HB1.out
    have hg1 := HG1.out
    clear HB1 HG1 c3 c5 f5 c
    generalize (w.setCell ⟨g, 5, none⟩ (.int .i64 q)).drew = w1 at *
    have c6 := hb1.cellv 6 (v := .bool h) rfl
    have c1 := hb1.cellv 1 (v := .int .i64 S) rfl
    have c5 := hb1.cellv 5 (v := .int .i64 q) rfl
    have f6 := hb1.frozen 6
    have K := Lib.hid (KEY.out q w1 hb1 hg1 HQ.out)
    clear KEY hb1 hg1 HQ
    cases h with
    | true =>
      go_region
      go_wp2
      go_end0
      exact ⟨rfl, K.out.1, K.out.2⟩
    | false =>
      by_cases c2 : S ≤ q
      · have K' := K.out
        rw [show (false || decide (S ≤ q)) = true from by simp [c2]] at K'
        have K2 := Lib.hid K'
        clear K K'
        go_region
        go_wp2
        go_end0
        exact ⟨rfl, K2.out.1, K2.out.2⟩
      · have K' := K.out
        rw [show (false || decide (S ≤ q)) = false from by simp; omega] at K'
        have K2 := Lib.hid K'
        clear K K'
        go_region
        go_wp2
        go_end0
        exact ⟨rfl, K2.out.1, K2.out.2⟩

set_option maxHeartbeats 1000000 in
theorem falling_any (F S R C H p : Int) (h : Bool) (g : Nat) (w : World) (hb : Blk w g 36 (dampCs F S R C H p h)) :
    Calls Try.prog 28 #[.pointer (some ⟨g, 0, none⟩)] w fun e w' => e = .returned (.tuple #[]) ∧ Blk w' g 36 (dampCs F S R C H p (h && decide (R < p))) ∧ w.grownBy w' (some g) := by
  have c2 := hb.cellv 2 (v := .int .i64 R) rfl
  have c5 := hb.cellv 5 (v := .int .i64 p) rfl
  have c6 := hb.cellv 6 (v := .bool h) rfl
  have f6 := hb.frozen 6
  have key : ∀ k : Bool, Blk (w.setCell ⟨g, 6, none⟩ (.bool k)).drew g 36 (dampCs F S R C H p k) ∧ w.grownBy (w.setCell ⟨g, 6, none⟩ (.bool k)).drew (some g) := fun k =>
    ⟨by rw [← dampCs_h F S R C H p h]; exact (hb.set_ 6 _).drew, grown_drew (grown_setCell (grown_refl _ _) (.inl rfl) _)⟩
  have K := Lib.hid key
  clear key hb
  cases h with
  | false =>
    go_enter Try.func28, Try.ntmps28
    go_region
    go_wp2
    go_end0
    exact ⟨rfl, (K.out false).1, (K.out false).2⟩
  | true =>
    by_cases c : R < p
    · have HE := Lib.hid (show (true && decide (R < p)) = true from by simp [c])
      go_enter Try.func28, Try.ntmps28
      go_region
      go_wp2
      go_end0
      exact ⟨rfl, by have := (K.out true).1; simpa [c] using this, (K.out true).2⟩
    · go_enter Try.func28, Try.ntmps28
      go_region
      go_wp2
      go_end0
      have c' : decide (R < p) = false := by simp; omega
      exact ⟨rfl, by have := (K.out false).1; rw [c']; exact this, (K.out false).2⟩
end Go.Proofs.Ythifahmhimbedaa
