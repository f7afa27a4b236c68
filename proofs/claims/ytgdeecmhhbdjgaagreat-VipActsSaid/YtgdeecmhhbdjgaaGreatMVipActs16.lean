import Derived.Test.YtgdeecmhhbdjgaaGreatMVipActs14
import Derived.BigGuardPart
/- damp: the document's answer: Good, New, Flap, Tick. -/
namespace Go.Proofs.YtgdeecmhhbdjgaaGreat.dm
set_option maxRecDepth 100000
set_option linter.unusedVariables false
open Go.RowKit

set_option maxHeartbeats 1000000 in
theorem refGood_any (F S R C H : Int) (w : World) :
    Calls Tryz.prog 148 #[.agg #[.int .i64 F, .int .i64 S, .int .i64 R, .int .i64 C, .int .i64 H]] w fun e w' => e = .returned (.bool (goodR F S R C H)) ∧ Below w.heap.size w w' := by
  go_enter Tryz.func148, Tryz.ntmps148
  go_wp2
  all_goals go_ret
  all_goals exact ⟨ret_bool (by unfold goodR; rw [Bool.eq_iff_iff]; simp only [decide_eq_true_eq, Bool.false_eq_true, false_iff]; omega), (Below.refl _ _).alloc (Nat.le_refl _) _⟩

set_option maxHeartbeats 400000 in
theorem refNew_yes (F S R C H : Int) (w : World) (h : goodR F S R C H = true) :
    Calls Tryz.prog 112 #[.agg #[.int .i64 F, .int .i64 S, .int .i64 R, .int .i64 C, .int .i64 H]] w fun e w' => ∃ g, e = .returned (.pointer (some ⟨g, 0, none⟩)) ∧ w.heap.size ≤ g ∧ Blk w' g 95 (dampCs F S R C H 0 false) ∧ Below w.heap.size w w' := by
  have HH := Lib.hid h
  clear h
  go_enter Tryz.func112, Tryz.ntmps112
  go_wp2_with fail
  refine (refGood_any F S R C H _).mono ?_
  rintro e w1 ⟨rfl, hb⟩
  rw [HH.out]
  have hk := (Blk.new w 39 #[.int .i64 F, .int .i64 S, .int .i64 R, .int .i64 C, .int .i64 H]).below hb (by simp)
  have c0 := hk.cellv 0 (v := .int .i64 F) rfl
  have c1 := hk.cellv 1 (v := .int .i64 S) rfl
  have c2 := hk.cellv 2 (v := .int .i64 R) rfl
  have c3 := hk.cellv 3 (v := .int .i64 C) rfl
  have c4 := hk.cellv 4 (v := .int .i64 H) rfl
  have hB : Below w.heap.size w w1 := ((Below.refl _ _).alloc (Nat.le_refl _) _).trans (hb.mono (by simp))
  clear hk hb
  go_wp2_with fail
  go_ret
  exact ⟨_, rfl, hB.size, Blk.new _ _ _, hB.alloc hB.size _⟩

set_option maxHeartbeats 400000 in
theorem refNew_no (F S R C H : Int) (w : World) (h : goodR F S R C H = false) :
    Calls Tryz.prog 112 #[.agg #[.int .i64 F, .int .i64 S, .int .i64 R, .int .i64 C, .int .i64 H]] w fun e w' => e = .returned (.pointer none) ∧ Below w.heap.size w w' := by
  have HH := Lib.hid h
  clear h
  go_enter Tryz.func112, Tryz.ntmps112
  go_wp2_with fail
  refine (refGood_any F S R C H _).mono ?_
  rintro e w1 ⟨rfl, hb⟩
  rw [HH.out]
  have hB : Below w.heap.size w w1 := ((Below.refl _ _).alloc (Nat.le_refl _) _).trans (hb.mono (by simp))
  clear hb
  go_wp2_with fail
  go_ret
  exact ⟨rfl, hB⟩

end Go.Proofs.YtgdeecmhhbdjgaaGreat.dm

/- damp: Ticks, and the laws DampTicks, DampNone. -/
namespace Go.Proofs.YtgdeecmhhbdjgaaGreat.dm
set_option maxRecDepth 100000
set_option linter.unusedVariables false
open Go.RowKit

def tk (R H : Int) : Nat → Int → Nat
  | 0, _ => 0
  | f + 1, p => if R < p then tk R H f (decay p H) + 1 else 0
def ticks (R H p : Int) : Nat := tk R H p.toNat p
end Go.Proofs.YtgdeecmhhbdjgaaGreat.dm
