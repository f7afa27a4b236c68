import Derived.Test.YtgdeecmhhbdjgaaGreatRows
import Derived.Test.YtgdeecmhhbdjgaaGreatMVipActs1
import Derived.StillTailTactics
import Derived.Test.YtgdeecmhhbdjgaaGreatMVipActs5
/- rise: the counter's methods. rise: the law RiseNone. rise: the document's answer. -/
namespace Go.Proofs.YtgdeecmhhbdjgaaGreat.rs
set_option maxRecDepth 100000
set_option linter.unusedVariables false
open Go.RowKit

def riseCs (r f : Int) (u : Bool) (n : Int) : Array Value := #[.int .i64 r, .int .i64 f, .bool u, .int .i64 n]
theorem riseCs_u (r f n : Int) (u k : Bool) : (riseCs r f u n).setIfInBounds 2 (.bool k) = riseCs r f k n := rfl
theorem riseCs_n (r f n m : Int) (u : Bool) : (riseCs r f u n).setIfInBounds 3 (.int .i64 m) = riseCs r f u m := rfl

section
variable {w : World} {g : Nat} {T : TypeId} {r f n : Int} {u : Bool}
theorem stepU (hb : Blk w g T (riseCs r f u n)) (k : Bool) : Blk (w.setCell ⟨g, 2, none⟩ (.bool k)) g T (riseCs r f k n) := by
  rw [← riseCs_u r f n u]; exact hb.set_ 2 _
theorem stepN (hb : Blk w g T (riseCs r f u n)) (m : Int) : Blk (w.setCell ⟨g, 3, none⟩ (.int .i64 m)) g T (riseCs r f u m) := by
  rw [← riseCs_n r f n]; exact hb.set_ 3 _
theorem stepG {g : Nat} (w : World) (i : Nat) (v : Value) : w.grownBy (w.setCell ⟨g, i, none⟩ v) (some g) := grown_setCell (grown_refl _ _) (.inl rfl) _
end

set_option maxHeartbeats 400000 in
theorem right_any (n : Int) (w : World) :
    Calls Tryz.prog 190 #[.int .i64 n] w fun e w' => e = .returned (.bool (decide (1 ≤ n ∧ n ≤ 100))) ∧ w = w' := by
  by_cases c1 : 1 ≤ n
  · by_cases c2 : n ≤ 100
    · go_enter Tryz.func190, Tryz.ntmps190
      go_wp2
      go_ret
      exact ⟨ret_bool (by simp; omega), rfl⟩
    · go_enter Tryz.func190, Tryz.ntmps190
      go_wp2
      go_ret
      exact ⟨ret_bool (by simp; omega), rfl⟩
  · go_enter Tryz.func190, Tryz.ntmps190
    go_wp2
    go_ret
    exact ⟨ret_bool (by simp; omega), rfl⟩

set_option maxHeartbeats 400000 in
theorem made_any (r f n : Int) (u : Bool) (g : Nat) (w : World) (hb : Blk w g 212 (riseCs r f u n)) :
    Calls Tryz.prog 166 #[.pointer (some ⟨g, 0, none⟩)] w fun e w' => e = .returned (.bool (decide (0 < r))) ∧ w = w' := by
  have c0 := hb.cellv 0 (v := .int .i64 r) rfl
  go_enter Tryz.func166, Tryz.ntmps166
  go_wp2
  go_ret
  exact ⟨rfl, rfl⟩

def needs (r f : Int) (u : Bool) : Int := if u then f else r
set_option maxHeartbeats 400000 in
theorem needs_any (r f n : Int) (u : Bool) (g : Nat) (w : World) (hb : Blk w g 212 (riseCs r f u n)) :
    Calls Tryz.prog 228 #[.pointer (some ⟨g, 0, none⟩)] w fun e w' => e = .returned (.int .i64 (needs r f u)) ∧ w = w' := by
  have c0 := hb.cellv 0 (v := .int .i64 r) rfl
  have c1 := hb.cellv 1 (v := .int .i64 f) rfl
  have c2 := hb.cellv 2 (v := .bool u) rfl
  cases u
  all_goals
    go_enter Tryz.func228, Tryz.ntmps228
    go_wp2
    go_ret
    exact ⟨rfl, rfl⟩

set_option maxHeartbeats 400000 in
theorem calm_any (r f n : Int) (u : Bool) (g : Nat) (w : World) (hb : Blk w g 212 (riseCs r f u n)) :
    Calls Tryz.prog 167 #[.pointer (some ⟨g, 0, none⟩)] w fun e w' => e = .returned (.bool false) ∧ Blk w' g 212 (riseCs r f u 0) ∧ w.grownBy w' (some g) := by
  have c3 := hb.cellv 3 (v := .int .i64 n) rfl
  have f3 := hb.frozen 3
  have K := Lib.hid (stepN hb 0)
  clear hb
  go_enter Tryz.func167, Tryz.ntmps167
  go_wp2
  go_ret
  exact ⟨rfl, K.out, stepG _ _ _⟩

set_option maxHeartbeats 1000000 in
theorem turn_no (r f n : Int) (u : Bool) (g : Nat) (w : World) (hb : Blk w g 212 (riseCs r f u n)) (h : n < needs r f u) :
    Calls Tryz.prog 168 #[.pointer (some ⟨g, 0, none⟩)] w fun e w' => e = .returned (.bool false) ∧ Blk w' g 212 (riseCs r f u n) ∧ w.grownBy w' (some g) := by
  have c3 := hb.cellv 3 (v := .int .i64 n) rfl
  go_enter Tryz.func168, Tryz.ntmps168
  go_wp2_with fail
  go_quiet ((go_at_call 228; exact quiet_left (needs_any r f n u g _ hb)))
  go_wp2_with fail
  go_ret
  exact ⟨rfl, hb.drewN _, grown_drewN (grown_refl _ _) _⟩
set_option maxHeartbeats 1000000 in
theorem turn_yes (r f n : Int) (u : Bool) (g : Nat) (w : World) (hb : Blk w g 212 (riseCs r f u n)) (h : needs r f u ≤ n) :
    Calls Tryz.prog 168 #[.pointer (some ⟨g, 0, none⟩)] w fun e w' => e = .returned (.bool true) ∧ Blk w' g 212 (riseCs r f (!u) 0) ∧ w.grownBy w' (some g) := by
  have c3 := hb.cellv 3 (v := .int .i64 n) rfl
  have c2 := hb.cellv 2 (v := .bool u) rfl
  have f2 := hb.frozen 2
  have f3 := hb.frozen 3
  go_enter Tryz.func168, Tryz.ntmps168
  go_wp2_with fail
  go_quiet ((go_at_call 228; exact quiet_left (needs_any r f n u g _ hb)))
  have HB := Lib.hid (stepN (stepU (hb.drewN nq) (!u)) 0)
  have HG := Lib.hid (grown_trans (grown_drewN (grown_refl w (some g)) nq) (grown_trans (stepG (w.drewN nq) 2 (.bool (!u))) (stepG _ 3 (.int .i64 0))))
  clear hb
  go_wp2
  go_ret
  exact ⟨rfl, HB.out, HG.out⟩

set_option maxHeartbeats 1000000 in
theorem note_same (r f n : Int) (u : Bool) (g : Nat) (w : World) (hr : 0 < r) (hb : Blk w g 212 (riseCs r f u n)) :
    Calls Tryz.prog 86 #[.pointer (some ⟨g, 0, none⟩), .bool u] w fun e w' => e = .returned (.bool false) ∧ Blk w' g 212 (riseCs r f u 0) ∧ w.grownBy w' (some g) := by
  have c2 := hb.cellv 2 (v := .bool u) rfl
  have hd : decide (0 < r) = true := by simp [hr]
  go_enter Tryz.func86, Tryz.ntmps86
  go_wp2_with fail
  refine (made_any r f n u g _ hb).mono ?_
  rintro e w' ⟨rfl, rfl⟩
  go_wp2_with fail
  refine (calm_any r f n u g _ hb).mono ?_
  rintro e w2 ⟨rfl, hb2, hg2⟩
  have HB := Lib.hid hb2
  have HG := Lib.hid hg2
  clear hb hb2 hg2
  go_wp2
  go_ret
  exact ⟨rfl, HB.out, HG.out⟩

set_option maxHeartbeats 1000000 in
theorem note_yes (r f n : Int) (u k : Bool) (g : Nat) (w : World) (hr : 0 < r) (hk : k = !u) (n1 : 0 ≤ n) (n2 : n ≤ 1000) (hb : Blk w g 212 (riseCs r f u n)) (c : needs r f u ≤ n + 1) :
    Calls Tryz.prog 86 #[.pointer (some ⟨g, 0, none⟩), .bool k] w fun e w' => e = .returned (.bool true) ∧ Blk w' g 212 (riseCs r f (!u) 0) ∧ w.grownBy w' (some g) := by
  have c2 := hb.cellv 2 (v := .bool u) rfl
  have c3 := hb.cellv 3 (v := .int .i64 n) rfl
  have f3 := hb.frozen 3
  have hd : decide (0 < r) = true := by simp [hr]
  have hku : (k == u) = false := by rw [hk]; cases u <;> rfl
  have hku2 : (k != u) = true := by rw [hk]; cases u <;> rfl
  have hb2 := stepN hb (n + 1)
  have hg2 : w.grownBy (w.setCell ⟨g, 3, none⟩ (.int .i64 (n + 1))) (some g) := stepG _ _ _
  have CC := Lib.hid c
  clear hk c
  go_enter Tryz.func86, Tryz.ntmps86
  go_wp2_with fail
  refine (made_any r f n u g _ hb).mono ?_
  rintro e w' ⟨rfl, rfl⟩
  go_wp2_with fail
  refine (turn_yes r f (n + 1) u g _ hb2 CC.out).mono ?_
  rintro e w2 ⟨rfl, hb3, hg3⟩
  have HB := Lib.hid hb3
  have HG := Lib.hid (grown_trans hg2 hg3)
  clear hb hb2 hg2 hb3 hg3
  go_wp2
  go_ret
  exact ⟨rfl, HB.out, HG.out⟩

set_option maxHeartbeats 1000000 in
theorem note_no (r f n : Int) (u k : Bool) (g : Nat) (w : World) (hr : 0 < r) (hk : k = !u) (n1 : 0 ≤ n) (n2 : n ≤ 1000) (hb : Blk w g 212 (riseCs r f u n)) (c : n + 1 < needs r f u) :
    Calls Tryz.prog 86 #[.pointer (some ⟨g, 0, none⟩), .bool k] w fun e w' => e = .returned (.bool false) ∧ Blk w' g 212 (riseCs r f u (n + 1)) ∧ w.grownBy w' (some g) := by
  have c2 := hb.cellv 2 (v := .bool u) rfl
  have c3 := hb.cellv 3 (v := .int .i64 n) rfl
  have f3 := hb.frozen 3
  have hd : decide (0 < r) = true := by simp [hr]
  have hku : (k == u) = false := by rw [hk]; cases u <;> rfl
  have hku2 : (k != u) = true := by rw [hk]; cases u <;> rfl
  have hb2 := stepN hb (n + 1)
  have hg2 : w.grownBy (w.setCell ⟨g, 3, none⟩ (.int .i64 (n + 1))) (some g) := stepG _ _ _
  have CC := Lib.hid c
  clear hk c
  go_enter Tryz.func86, Tryz.ntmps86
  go_wp2_with fail
  refine (made_any r f n u g _ hb).mono ?_
  rintro e w' ⟨rfl, rfl⟩
  go_wp2_with fail
  refine (turn_no r f (n + 1) u g _ hb2 CC.out).mono ?_
  rintro e w2 ⟨rfl, hb3, hg3⟩
  have HB := Lib.hid hb3
  have HG := Lib.hid (grown_trans hg2 hg3)
  clear hb hb2 hg2 hb3 hg3
  go_wp2
  go_ret
  exact ⟨rfl, HB.out, HG.out⟩

section
variable (r f n : Int) (u : Bool) (g : Nat) (w : World) (hr : 0 < r) (hb : Blk w g 212 (riseCs r f u n))
include hr hb
set_option maxHeartbeats 400000 in
theorem up_any : Calls Tryz.prog 88 #[.pointer (some ⟨g, 0, none⟩)] w fun e w' => e = .returned (.bool u) ∧ w = w' := by
  have c2 := hb.cellv 2 (v := .bool u) rfl
  have hd : decide (0 < r) = true := by simp [hr]
  go_enter Tryz.func88, Tryz.ntmps88
  go_wp2_with (go_at_call 166; refine (made_any r f n u g _ hb).mono ?_; rintro e w' ⟨rfl, rfl⟩)
  go_ret
  exact ⟨rfl, rfl⟩
set_option maxHeartbeats 400000 in
theorem copy_any : Calls Tryz.prog 102 #[.pointer (some ⟨g, 0, none⟩)] w fun e w' => e = .returned (.pointer (some ⟨w.heap.size, 0, none⟩)) ∧ Blk w' w.heap.size 212 (riseCs r f u n) ∧ Below w.heap.size w w' := by
  have c0 := hb.cellv 0 (v := .int .i64 r) rfl
  have c1 := hb.cellv 1 (v := .int .i64 f) rfl
  have c2 := hb.cellv 2 (v := .bool u) rfl
  have c3 := hb.cellv 3 (v := .int .i64 n) rfl
  have hd : decide (0 < r) = true := by simp [hr]
  go_enter Tryz.func102, Tryz.ntmps102
  go_wp2_with (go_at_call 166; refine (made_any r f n u g _ hb).mono ?_; rintro e w' ⟨rfl, rfl⟩)
  go_ret
  exact ⟨rfl, Blk.new _ _ _, (Below.refl _ _).alloc (Nat.le_refl _) _⟩
end

set_option maxHeartbeats 400000 in
theorem new_yes (r f : Int) (w : World) (h1 : 1 ≤ r ∧ r ≤ 100) (h2 : 1 ≤ f ∧ f ≤ 100) :
    Calls Tryz.prog 109 #[.int .i64 r, .int .i64 f] w fun e w' => ∃ g, e = .returned (.pointer (some ⟨g, 0, none⟩)) ∧ w.heap.size ≤ g ∧ Blk w' g 212 (riseCs r f false 0) ∧ Below w.heap.size w w' := by
  have d1 : decide (1 ≤ r ∧ r ≤ 100) = true := by simp [h1]
  have d2 : decide (1 ≤ f ∧ f ≤ 100) = true := by simp [h2]
  have D1 := Lib.hid d1
  have D2 := Lib.hid d2
  clear d1 d2 h1 h2
  go_enter Tryz.func109, Tryz.ntmps109
  go_wp2_with fail
  refine (right_any _ _).mono ?_
  rintro e w' ⟨rfl, rfl⟩
  rw [D1.out]
  go_wp2_with fail
  refine (right_any _ _).mono ?_
  rintro e w' ⟨rfl, rfl⟩
  rw [D2.out]
  go_wp2_with fail
  go_ret
  exact ⟨_, rfl, Nat.le_refl _, Blk.new _ _ _, (Below.refl _ _).alloc (Nat.le_refl _) _⟩

set_option maxHeartbeats 400000 in
theorem new_no (r f : Int) (w : World) (h : ¬ (1 ≤ r ∧ r ≤ 100) ∨ ¬ (1 ≤ f ∧ f ≤ 100)) :
    Calls Tryz.prog 109 #[.int .i64 r, .int .i64 f] w fun e w' => e = .returned (.pointer none) ∧ w = w' := by
  by_cases h1 : 1 ≤ r ∧ r ≤ 100
  · have d1 : decide (1 ≤ r ∧ r ≤ 100) = true := by simp [h1]
    have d2 : decide (1 ≤ f ∧ f ≤ 100) = false := by
      rcases h with h | h
      · exact absurd h1 h
      · exact decide_eq_false h
    have D1 := Lib.hid d1
    have D2 := Lib.hid d2
    clear d1 d2 h h1
    go_enter Tryz.func109, Tryz.ntmps109
    go_wp2_with fail
    refine (right_any _ _).mono ?_
    rintro e w' ⟨rfl, rfl⟩
    rw [D1.out]
    go_wp2_with fail
    refine (right_any _ _).mono ?_
    rintro e w' ⟨rfl, rfl⟩
    rw [D2.out]
    go_wp2_with fail
    go_ret
    exact ⟨rfl, rfl⟩
  · have D1 := Lib.hid (decide_eq_false h1)
    clear h h1
    go_enter Tryz.func109, Tryz.ntmps109
    go_wp2_with fail
    refine (right_any _ _).mono ?_
    rintro e w' ⟨rfl, rfl⟩
    rw [D1.out]
    go_wp2_with fail
    go_ret
    exact ⟨rfl, rfl⟩

end Go.Proofs.YtgdeecmhhbdjgaaGreat.rs

namespace Go.Proofs.YtgdeecmhhbdjgaaGreat.rs
set_option maxRecDepth 100000
set_option linter.unusedVariables false
open Go.RowKit

section
variable (w : World)
variable (g : Nat) (hb : Blk w g 212 (riseCs 0 0 false 0))
include hb
end

end Go.Proofs.YtgdeecmhhbdjgaaGreat.rs

namespace Go.Proofs.YtgdeecmhhbdjgaaGreat.rs
set_option maxRecDepth 100000
set_option linter.unusedVariables false
open Go.RowKit

set_option maxHeartbeats 400000 in
theorem refNew_yes (r f : Int) (w : World) (h1 : 1 ≤ r ∧ r ≤ 100) (h2 : 1 ≤ f ∧ f ≤ 100) :
    Calls Tryz.prog 114 #[.int .i64 r, .int .i64 f] w fun e w' => ∃ g, e = .returned (.pointer (some ⟨g, 0, none⟩)) ∧ w.heap.size ≤ g ∧ Blk w' g 176 (riseCs r f false 0) ∧ Below w.heap.size w w' := by
  obtain ⟨a1, a2⟩ := h1
  obtain ⟨a3, a4⟩ := h2
  go_enter Tryz.func114, Tryz.ntmps114
  go_wp2
  go_ret
  exact ⟨_, rfl, Nat.le_refl _, Blk.new _ _ _, (Below.refl _ _).alloc (Nat.le_refl _) _⟩

set_option maxHeartbeats 1000000 in
theorem refNew_no (r f : Int) (w : World) (h : ¬ (1 ≤ r ∧ r ≤ 100) ∨ ¬ (1 ≤ f ∧ f ≤ 100)) :
    Calls Tryz.prog 114 #[.int .i64 r, .int .i64 f] w fun e w' => e = .returned (.pointer none) ∧ w = w' := by
  have h' : r < 1 ∨ (1 ≤ r ∧ 100 < r) ∨ (1 ≤ r ∧ r ≤ 100 ∧ f < 1) ∨ (1 ≤ r ∧ r ≤ 100 ∧ 1 ≤ f ∧ 100 < f) := by omega
  clear h
  rcases h' with a1 | ⟨a1, a2⟩ | ⟨a1, a2, a3⟩ | ⟨a1, a2, a3, a4⟩
  all_goals
    go_enter Tryz.func114, Tryz.ntmps114
    go_wp2
    go_ret
    exact ⟨rfl, rfl⟩
end Go.Proofs.YtgdeecmhhbdjgaaGreat.rs

/- damp: to, Flap, Tick, Held, Penalty, Copy, New. -/
namespace Go.Proofs.YtgdeecmhhbdjgaaGreat.dm
set_option maxRecDepth 100000
set_option linter.unusedVariables false
open Go.RowKit

set_option maxHeartbeats 1000000 in
theorem to_rise (F S R C H p q : Int) (h : Bool) (g : Nat) (w : World) (hF : 1 ≤ F) (hb : Blk w g 223 (dampCs F S R C H p h)) :
    Calls Tryz.prog 174 #[.pointer (some ⟨g, 0, none⟩), .int .i64 q, .func (.func 178) #[] #[]] w fun e w' => e = .returned (.int .i64 (lowest q C)) ∧
      Blk w' g 223 (dampCs F S R C H (lowest q C) (h || decide (S ≤ lowest q C))) ∧ w.grownBy w' (some g) := by
  have c5 := hb.cellv 5 (v := .int .i64 p) rfl
  have f5 := hb.frozen 5
  have hb1 : Blk (w.setCell ⟨g, 5, none⟩ (.int .i64 q)) g 223 (dampCs F S R C H q h) := by
    rw [← dampCs_p F S R C H p]; exact hb.set_ 5 _
  have hg1 : w.grownBy (w.setCell ⟨g, 5, none⟩ (.int .i64 q)) (some g) := grown_setCell (grown_refl _ _) (.inl rfl) _
  go_enter Tryz.func174, Tryz.ntmps174
  go_wp2_with fail
  refine (made_yes F S R C H p h g _ hF hb).mono ?_
  rintro e w' ⟨rfl, rfl⟩
  clear hb
  go_wp2_with fail
  refine (rising_any F S R C H q h g _ hb1).mono ?_
  rintro e w2 ⟨rfl, hb2, hg2⟩
  have hg3 := grown_trans hg1 hg2
  have c5 := hb2.cellv 5 (v := .int .i64 (lowest q C)) rfl
  have HB := Lib.hid hb2
  have HG := Lib.hid hg3
  clear hb1 hg1 f5 hb2 hg2 hg3
  go_wp2
  go_ret
  exact ⟨rfl, HB.out, HG.out⟩

set_option maxHeartbeats 1000000 in
theorem to_fall (F S R C H p q : Int) (h : Bool) (g : Nat) (w : World) (hF : 1 ≤ F) (hb : Blk w g 223 (dampCs F S R C H p h)) :
    Calls Tryz.prog 174 #[.pointer (some ⟨g, 0, none⟩), .int .i64 q, .func (.func 176) #[] #[]] w fun e w' => e = .returned (.int .i64 q) ∧
      Blk w' g 223 (dampCs F S R C H q (h && decide (R < q))) ∧ w.grownBy w' (some g) := by
  have c5 := hb.cellv 5 (v := .int .i64 p) rfl
  have f5 := hb.frozen 5
  have hb1 : Blk (w.setCell ⟨g, 5, none⟩ (.int .i64 q)) g 223 (dampCs F S R C H q h) := by
    rw [← dampCs_p F S R C H p]; exact hb.set_ 5 _
  have hg1 : w.grownBy (w.setCell ⟨g, 5, none⟩ (.int .i64 q)) (some g) := grown_setCell (grown_refl _ _) (.inl rfl) _
  go_enter Tryz.func174, Tryz.ntmps174
  go_wp2_with fail
  refine (made_yes F S R C H p h g _ hF hb).mono ?_
  rintro e w' ⟨rfl, rfl⟩
  clear hb
  go_wp2_with fail
  refine (falling_any F S R C H q h g _ hb1).mono ?_
  rintro e w2 ⟨rfl, hb2, hg2⟩
  have hg3 := grown_trans hg1 hg2
  have c5 := hb2.cellv 5 (v := .int .i64 q) rfl
  have HB := Lib.hid hb2
  have HG := Lib.hid hg3
  clear hb1 hg1 f5 hb2 hg2 hg3
  go_wp2
  go_ret
  exact ⟨rfl, HB.out, HG.out⟩

set_option maxHeartbeats 1000000 in
theorem flap_any (F S R C H p : Int) (h : Bool) (g : Nat) (w : World) (hF : 1 ≤ F) (hF2 : F ≤ 100000) (p1 : 0 ≤ p) (p2 : p ≤ 1000000) (hb : Blk w g 223 (dampCs F S R C H p h)) :
    Calls Tryz.prog 92 #[.pointer (some ⟨g, 0, none⟩)] w fun e w' => e = .returned (.int .i64 (lowest (p + F) C)) ∧
      Blk w' g 223 (dampCs F S R C H (lowest (p + F) C) (h || decide (S ≤ lowest (p + F) C))) ∧ w.grownBy w' (some g) := by
  have c5 := hb.cellv 5 (v := .int .i64 p) rfl
  have c0 := hb.cellv 0 (v := .int .i64 F) rfl
  go_enter Tryz.func92, Tryz.ntmps92
  go_wp2_with fail
  refine (made_yes F S R C H p h g _ hF hb).mono ?_
  rintro e w' ⟨rfl, rfl⟩
  go_wp2_with fail
  go_still_tail 11, (by kernel_rfl)
  change wpList _ _ _ _ _ w.drew
  have hb1 := hb.drew
  have hg1 : w.grownBy w.drew (some g) := grown_drew (grown_refl _ _)
  have HG1 := Lib.hid hg1
  generalize w.drew = w1 at *
  have hw : IntKind.i64.wrap (p + F) = p + F := IntWalk.i64_in _ ⟨by omega, by omega⟩
  rw [hw]
  clear hw hb c5 c0 hg1
  go_wp2_with fail
  refine (to_rise F S R C H p (p + F) h g _ hF hb1).mono ?_
  rintro e w2 ⟨rfl, hb2, hg2⟩
  have HB := Lib.hid hb2
  have HG := Lib.hid (grown_trans HG1.out hg2)
  clear hb1 hb2 hg2 HG1
  go_wp2
  go_ret
  exact ⟨rfl, HB.out, HG.out⟩

set_option maxHeartbeats 1000000 in
theorem tick_any (F S R C H p : Int) (h : Bool) (g : Nat) (w : World) (hF : 1 ≤ F) (p1 : 0 ≤ p) (p2 : p ≤ 1000000) (hb : Blk w g 223 (dampCs F S R C H p h)) :
    Calls Tryz.prog 90 #[.pointer (some ⟨g, 0, none⟩)] w fun e w' => e = .returned (.int .i64 (decay p H)) ∧
      Blk w' g 223 (dampCs F S R C H (decay p H) (h && decide (R < decay p H))) ∧ w.grownBy w' (some g) := by
  have c5 := hb.cellv 5 (v := .int .i64 p) rfl
  have c4 := hb.cellv 4 (v := .int .i64 H) rfl
  go_enter Tryz.func90, Tryz.ntmps90
  go_wp2_with fail
  refine (made_yes F S R C H p h g _ hF hb).mono ?_
  rintro e w' ⟨rfl, rfl⟩
  go_wp2_with fail
  go_still_tail 11, (by kernel_rfl)
  still_call ((decay_any p H _ (by omega) (by omega)).mono fun _ _ h => ⟨h.1, h.2.symm⟩)
  repeat still_step
  refine wpStill_nil ?_
  change wpList _ _ _ _ _ w.drew
  have hb1 := hb.drew
  have hg1 : w.grownBy w.drew (some g) := grown_drew (grown_refl _ _)
  have HG1 := Lib.hid hg1
  generalize w.drew = w1 at *
  clear hb c5 c4 hg1
  go_wp2_with fail
  refine (to_fall F S R C H p (decay p H) h g _ hF hb1).mono ?_
  rintro e w2 ⟨rfl, hb2, hg2⟩
  have HB := Lib.hid hb2
  have HG := Lib.hid (grown_trans HG1.out hg2)
  clear hb1 hb2 hg2 HG1
  go_wp2
  go_ret
  exact ⟨rfl, HB.out, HG.out⟩

set_option maxHeartbeats 400000 in
theorem held_any (F S R C H p : Int) (h : Bool) (g : Nat) (w : World) (hF : 1 ≤ F) (hb : Blk w g 223 (dampCs F S R C H p h)) :
    Calls Tryz.prog 96 #[.pointer (some ⟨g, 0, none⟩)] w fun e w' => e = .returned (.bool h) ∧ w = w' := by
  have c6 := hb.cellv 6 (v := .bool h) rfl
  go_enter Tryz.func96, Tryz.ntmps96
  go_wp2_with (go_at_call 173; refine (made_yes F S R C H p h g _ hF hb).mono ?_; rintro e w' ⟨rfl, rfl⟩)
  go_ret
  exact ⟨rfl, rfl⟩

set_option maxHeartbeats 400000 in
theorem penalty_any (F S R C H p : Int) (h : Bool) (g : Nat) (w : World) (hF : 1 ≤ F) (hb : Blk w g 223 (dampCs F S R C H p h)) :
    Calls Tryz.prog 93 #[.pointer (some ⟨g, 0, none⟩)] w fun e w' => e = .returned (.int .i64 p) ∧ w = w' := by
  have c5 := hb.cellv 5 (v := .int .i64 p) rfl
  go_enter Tryz.func93, Tryz.ntmps93
  go_wp2_with (go_at_call 173; refine (made_yes F S R C H p h g _ hF hb).mono ?_; rintro e w' ⟨rfl, rfl⟩)
  go_ret
  exact ⟨rfl, rfl⟩

set_option maxHeartbeats 400000 in
theorem copy_any (F S R C H p : Int) (h : Bool) (g : Nat) (w : World) (hF : 1 ≤ F) (hb : Blk w g 223 (dampCs F S R C H p h)) :
    Calls Tryz.prog 99 #[.pointer (some ⟨g, 0, none⟩)] w fun e w' => e = .returned (.pointer (some ⟨w.heap.size, 0, none⟩)) ∧ Blk w' w.heap.size 223 (dampCs F S R C H p h) ∧ Below w.heap.size w w' := by
  have c0 := hb.cellv 0 (v := .int .i64 F) rfl
  have c1 := hb.cellv 1 (v := .int .i64 S) rfl
  have c2 := hb.cellv 2 (v := .int .i64 R) rfl
  have c3 := hb.cellv 3 (v := .int .i64 C) rfl
  have c4 := hb.cellv 4 (v := .int .i64 H) rfl
  have c5 := hb.cellv 5 (v := .int .i64 p) rfl
  have c6 := hb.cellv 6 (v := .bool h) rfl
  go_enter Tryz.func99, Tryz.ntmps99
  go_wp2_with (go_at_call 173; refine (made_yes F S R C H p h g _ hF hb).mono ?_; rintro e w' ⟨rfl, rfl⟩)
  go_ret
  exact ⟨rfl, Blk.new _ _ _, (Below.refl _ _).alloc (Nat.le_refl _) _⟩

set_option maxHeartbeats 400000 in
theorem new_yes (F S R C H : Int) (w : World) (h : goodR F S R C H = true) :
    Calls Tryz.prog 104 #[.agg #[.int .i64 F, .int .i64 S, .int .i64 R, .int .i64 C, .int .i64 H]] w fun e w' => ∃ g, e = .returned (.pointer (some ⟨g, 0, none⟩)) ∧ w.heap.size ≤ g ∧ Blk w' g 223 (dampCs F S R C H 0 false) ∧ Below w.heap.size w w' := by
  have HH := Lib.hid h
  clear h
  go_enter Tryz.func104, Tryz.ntmps104
  go_wp2_with fail
  refine (good_yes F S R C H _ HH.out).mono ?_
  rintro e w1 ⟨rfl, hb⟩
  have hk := (Blk.new w 27 #[.int .i64 F, .int .i64 S, .int .i64 R, .int .i64 C, .int .i64 H]).below hb (by simp)
  have c0 := hk.cellv 0 (v := .int .i64 F) rfl
  have c1 := hk.cellv 1 (v := .int .i64 S) rfl
  have c2 := hk.cellv 2 (v := .int .i64 R) rfl
  have c3 := hk.cellv 3 (v := .int .i64 C) rfl
  have c4 := hk.cellv 4 (v := .int .i64 H) rfl
  have hB : Below w.heap.size w w1 := ((Below.refl _ _).alloc (Nat.le_refl _) _).trans (hb.mono (by simp))
  clear hk hb
  go_wp2_with fail
  go_ret
  exact ⟨_, rfl, hB.size, Blk.new _ _ _, hB.alloc hB.size _⟩

set_option maxHeartbeats 400000 in
theorem new_no (F S R C H : Int) (w : World) (h : goodR F S R C H = false) :
    Calls Tryz.prog 104 #[.agg #[.int .i64 F, .int .i64 S, .int .i64 R, .int .i64 C, .int .i64 H]] w fun e w' => e = .returned (.pointer none) ∧ Below w.heap.size w w' := by
  have HH := Lib.hid h
  clear h
  go_enter Tryz.func104, Tryz.ntmps104
  go_wp2_with fail
  refine (good_no F S R C H _ HH.out).mono ?_
  rintro e w1 ⟨rfl, hb⟩
  have hB : Below w.heap.size w w1 := ((Below.refl _ _).alloc (Nat.le_refl _) _).trans (hb.mono (by simp))
  clear hb
  go_wp2_with fail
  go_ret
  exact ⟨rfl, hB⟩

end Go.Proofs.YtgdeecmhhbdjgaaGreat.dm
