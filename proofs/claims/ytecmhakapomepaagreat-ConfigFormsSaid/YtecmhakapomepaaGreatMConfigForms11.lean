import Derived.Test.YtecmhakapomepaaGreatMConfigForms4
import Derived.StillTailTactics
import Derived.Test.YtecmhakapomepaaGreatRows
import Derived.Test.YtecmhakapomepaaGreatMConfigForms1
/- damp: to, Flap, Tick, Held, Penalty, Copy, New. -/
namespace Go.Proofs.YtecmhakapomepaaGreat.dm
set_option maxRecDepth 100000
set_option linter.unusedVariables false
open Go.RowKit

end Go.Proofs.YtecmhakapomepaaGreat.dm

/- rise: the counter's methods. rise: the law RiseNone. rise: the document's answer. -/
namespace Go.Proofs.YtecmhakapomepaaGreat.rs
set_option maxRecDepth 100000
set_option linter.unusedVariables false
open Go.RowKit

/-- a counter's cells. -/
def riseCs (r f : Int) (u : Bool) (n : Int) : Array Value := #[.int .i64 r, .int .i64 f, .bool u, .int .i64 n]
section
variable {w : World} {g : Nat} {T : TypeId} {r f n : Int} {u : Bool}
end

set_option maxHeartbeats 400000 in
theorem right_any (n : Int) (w : World) :
    Calls Tryz.prog 122 #[.int .i64 n] w fun e w' => e = .returned (.bool (decide (1 ≤ n ∧ n ≤ 100))) ∧ w = w' := by
  by_cases c1 : 1 ≤ n
  · by_cases c2 : n ≤ 100
    · go_enter Tryz.func122, Tryz.ntmps122
      go_wp2
      go_ret
      exact ⟨ret_bool (by simp; omega), rfl⟩
    · go_enter Tryz.func122, Tryz.ntmps122
      go_wp2
      go_ret
      exact ⟨ret_bool (by simp; omega), rfl⟩
  · go_enter Tryz.func122, Tryz.ntmps122
    go_wp2
    go_ret
    exact ⟨ret_bool (by simp; omega), rfl⟩

def needs (r f : Int) (u : Bool) : Int := if u then f else r
section
variable (r f n : Int) (u : Bool) (g : Nat) (w : World) (hr : 0 < r) (hb : Blk w g 198 (riseCs r f u n))
include hr hb
end

set_option maxHeartbeats 400000 in
theorem new_yes (r f : Int) (w : World) (h1 : 1 ≤ r ∧ r ≤ 100) (h2 : 1 ≤ f ∧ f ≤ 100) :
    Calls Tryz.prog 94 #[.int .i64 r, .int .i64 f] w fun e w' => ∃ g, e = .returned (.pointer (some ⟨g, 0, none⟩)) ∧ w.heap.size ≤ g ∧ Blk w' g 198 (riseCs r f false 0) ∧ Below w.heap.size w w' := by
  have d1 : decide (1 ≤ r ∧ r ≤ 100) = true := by simp [h1]
  have d2 : decide (1 ≤ f ∧ f ≤ 100) = true := by simp [h2]
  have D1 := Lib.hid d1
  have D2 := Lib.hid d2
  clear d1 d2 h1 h2
  go_enter Tryz.func94, Tryz.ntmps94
  go_wp2_with fail
  refine (right_any _ _).mono ?_
  rintro e w' ⟨rfl, rfl⟩
  rw [D1.out]
  go_wp2_with fail
  refine (right_any _ _).mono ?_
  rintro e w' ⟨rfl, rfl⟩
  rw [D2.out]
  go_wp2_with fail
  go_ret
  exact ⟨_, rfl, Nat.le_refl _, Blk.new _ _ _, (Below.refl _ _).alloc (Nat.le_refl _) _⟩

set_option maxHeartbeats 400000 in
theorem new_no (r f : Int) (w : World) (h : ¬ (1 ≤ r ∧ r ≤ 100) ∨ ¬ (1 ≤ f ∧ f ≤ 100)) :
    Calls Tryz.prog 94 #[.int .i64 r, .int .i64 f] w fun e w' => e = .returned (.pointer none) ∧ w = w' := by
  by_cases h1 : 1 ≤ r ∧ r ≤ 100
  · have d1 : decide (1 ≤ r ∧ r ≤ 100) = true := by simp [h1]
    have d2 : decide (1 ≤ f ∧ f ≤ 100) = false := by
      rcases h with h | h
      · exact absurd h1 h
      · exact decide_eq_false h
    have D1 := Lib.hid d1
    have D2 := Lib.hid d2
    clear d1 d2 h h1
    go_enter Tryz.func94, Tryz.ntmps94
    go_wp2_with fail
    refine (right_any _ _).mono ?_
    rintro e w' ⟨rfl, rfl⟩
    rw [D1.out]
    go_wp2_with fail
    refine (right_any _ _).mono ?_
    rintro e w' ⟨rfl, rfl⟩
    rw [D2.out]
    go_wp2_with fail
    go_ret
    exact ⟨rfl, rfl⟩
  · have D1 := Lib.hid (decide_eq_false h1)
    clear h h1
    go_enter Tryz.func94, Tryz.ntmps94
    go_wp2_with fail
    refine (right_any _ _).mono ?_
    rintro e w' ⟨rfl, rfl⟩
    rw [D1.out]
    go_wp2_with fail
    go_ret
    exact ⟨rfl, rfl⟩

end Go.Proofs.YtecmhakapomepaaGreat.rs

namespace Go.Proofs.YtecmhakapomepaaGreat.rs
set_option maxRecDepth 100000
set_option linter.unusedVariables false
open Go.RowKit

section
variable (w : World)
variable (g : Nat) (hb : Blk w g 198 (riseCs 0 0 false 0))
include hb
end

end Go.Proofs.YtecmhakapomepaaGreat.rs

namespace Go.Proofs.YtecmhakapomepaaGreat.rs
set_option maxRecDepth 100000
set_option linter.unusedVariables false
open Go.RowKit

set_option maxHeartbeats 400000 in
theorem refNew_yes (r f : Int) (w : World) (h1 : 1 ≤ r ∧ r ≤ 100) (h2 : 1 ≤ f ∧ f ≤ 100) :
    Calls Tryz.prog 76 #[.int .i64 r, .int .i64 f] w fun e w' => ∃ g, e = .returned (.pointer (some ⟨g, 0, none⟩)) ∧ w.heap.size ≤ g ∧ Blk w' g 173 (riseCs r f false 0) ∧ Below w.heap.size w w' := by
  obtain ⟨a1, a2⟩ := h1
  obtain ⟨a3, a4⟩ := h2
  go_enter Tryz.func76, Tryz.ntmps76
  go_wp2
  go_ret
  exact ⟨_, rfl, Nat.le_refl _, Blk.new _ _ _, (Below.refl _ _).alloc (Nat.le_refl _) _⟩

set_option maxHeartbeats 1000000 in
theorem refNew_no (r f : Int) (w : World) (h : ¬ (1 ≤ r ∧ r ≤ 100) ∨ ¬ (1 ≤ f ∧ f ≤ 100)) :
    Calls Tryz.prog 76 #[.int .i64 r, .int .i64 f] w fun e w' => e = .returned (.pointer none) ∧ w = w' := by
  have h' : r < 1 ∨ (1 ≤ r ∧ 100 < r) ∨ (1 ≤ r ∧ r ≤ 100 ∧ f < 1) ∨ (1 ≤ r ∧ r ≤ 100 ∧ 1 ≤ f ∧ 100 < f) := by omega
  clear h
  rcases h' with a1 | ⟨a1, a2⟩ | ⟨a1, a2, a3⟩ | ⟨a1, a2, a3, a4⟩
  all_goals
    go_enter Tryz.func76, Tryz.ntmps76
    go_wp2
    go_ret
    exact ⟨rfl, rfl⟩
end Go.Proofs.YtecmhakapomepaaGreat.rs
