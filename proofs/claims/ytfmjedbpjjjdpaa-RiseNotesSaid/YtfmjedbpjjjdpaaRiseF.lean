/- rise: the document's answer. -/
import Derived.Test.YtfmjedbpjjjdpaaRiseA
namespace Go.Proofs.Ytfmjedbpjjjdpaa
set_option linter.unusedVariables false
open Go.RowKit

set_option maxHeartbeats 1000000 in
theorem refNote_same (r f n : Int) (u : Bool) (g : Nat) (w : World) (hb : Blk w g 32 (riseCs r f u n)) :
    Calls Try.prog 13 #[.pointer (some ⟨g, 0, none⟩), .bool u] w fun e w' => e = .returned (.bool false) ∧ Blk w' g 32 (riseCs r f u 0) ∧ w.grownBy w' (some g) := by
  have c2 := hb.cellv 2 (v := .bool u) rfl
  have c3 := hb.cellv 3 (v := .int .i64 n) rfl
  have f3 := hb.frozen 3
  have HB := Lib.hid (stepN hb 0)
  clear hb
  go_enter Try.func13, Try.ntmps13
  go_wp2
  go_ret
  exact ⟨rfl, HB.out, stepG _ _ _⟩

set_option maxHeartbeats 1000000 in
theorem refNote_yes (r f n : Int) (u k : Bool) (g : Nat) (w : World) (hk : k = !u) (n1 : 0 ≤ n) (n2 : n ≤ 1000) (hb : Blk w g 32 (riseCs r f u n)) (c : needs r f u ≤ n + 1) :
    Calls Try.prog 13 #[.pointer (some ⟨g, 0, none⟩), .bool k] w fun e w' => e = .returned (.bool true) ∧ Blk w' g 32 (riseCs r f (!u) 0) ∧ w.grownBy w' (some g) := by
  have c0 := hb.cellv 0 (v := .int .i64 r) rfl
  have c1 := hb.cellv 1 (v := .int .i64 f) rfl
  have c2 := hb.cellv 2 (v := .bool u) rfl
  have c3 := hb.cellv 3 (v := .int .i64 n) rfl
  have f3 := hb.frozen 3
  have HB := Lib.hid (stepN hb (n + 1))
  have HG : Hid (w.grownBy (w.setCell ⟨g, 3, none⟩ (.int .i64 (n + 1))) (some g)) := stepG _ _ _
  clear hb
  subst hk
  cases u
  · have c' : r ≤ n + 1 := c
    clear c
    go_enter Try.func13, Try.ntmps13
    go_wp2_with fail
    generalize (w.setCell ⟨g, 3, none⟩ (.int .i64 (n + 1))) = w1 at *
    have hb1 := HB.out
    have hg1 := HG.out
    clear HB HG c0 c1 c2 c3 f3
    have c0 := hb1.cellv 0 (v := .int .i64 r) rfl
    have c1 := hb1.cellv 1 (v := .int .i64 f) rfl
    have c2 := hb1.cellv 2 (v := .bool false) rfl
    have c3 := hb1.cellv 3 (v := .int .i64 (n + 1)) rfl
    have f2 := hb1.frozen 2
    have f3 := hb1.frozen 3
    have d1 : decide (n + 1 < r) = false := by simp; omega
    go_quiet (fail)
    have HB := Lib.hid (stepN (stepU (hb1.drewN nq) true) 0)
    have HG := Lib.hid (grown_trans (grown_drewN hg1 nq) (grown_trans (stepG (w1.drewN nq) 2 (.bool true)) (stepG _ 3 (.int .i64 0))))
    clear hb1 hg1
    go_wp2
    go_ret
    exact ⟨rfl, HB.out, HG.out⟩
  · have c' : f ≤ n + 1 := c
    clear c
    go_enter Try.func13, Try.ntmps13
    go_wp2_with fail
    generalize (w.setCell ⟨g, 3, none⟩ (.int .i64 (n + 1))) = w1 at *
    have hb1 := HB.out
    have hg1 := HG.out
    clear HB HG c0 c1 c2 c3 f3
    have c0 := hb1.cellv 0 (v := .int .i64 r) rfl
    have c1 := hb1.cellv 1 (v := .int .i64 f) rfl
    have c2 := hb1.cellv 2 (v := .bool true) rfl
    have c3 := hb1.cellv 3 (v := .int .i64 (n + 1)) rfl
    have f2 := hb1.frozen 2
    have f3 := hb1.frozen 3
    have d1 : decide (n + 1 < f) = false := by simp; omega
    go_quiet (fail)
    have HB := Lib.hid (stepN (stepU (hb1.drewN nq) false) 0)
    have HG := Lib.hid (grown_trans (grown_drewN hg1 nq) (grown_trans (stepG (w1.drewN nq) 2 (.bool false)) (stepG _ 3 (.int .i64 0))))
    clear hb1 hg1
    go_wp2
    go_ret
    exact ⟨rfl, HB.out, HG.out⟩

set_option maxHeartbeats 1000000 in
theorem refNote_no (r f n : Int) (u k : Bool) (g : Nat) (w : World) (hk : k = !u) (n1 : 0 ≤ n) (n2 : n ≤ 1000) (hb : Blk w g 32 (riseCs r f u n)) (c : n + 1 < needs r f u) :
    Calls Try.prog 13 #[.pointer (some ⟨g, 0, none⟩), .bool k] w fun e w' => e = .returned (.bool false) ∧ Blk w' g 32 (riseCs r f u (n + 1)) ∧ w.grownBy w' (some g) := by
  have c0 := hb.cellv 0 (v := .int .i64 r) rfl
  have c1 := hb.cellv 1 (v := .int .i64 f) rfl
  have c2 := hb.cellv 2 (v := .bool u) rfl
  have c3 := hb.cellv 3 (v := .int .i64 n) rfl
  have f3 := hb.frozen 3
  have HB := Lib.hid (stepN hb (n + 1))
  have HG : Hid (w.grownBy (w.setCell ⟨g, 3, none⟩ (.int .i64 (n + 1))) (some g)) := stepG _ _ _
  clear hb
  subst hk
  cases u
  · have c' : n + 1 < r := c
    clear c
    go_enter Try.func13, Try.ntmps13
    go_wp2_with fail
    generalize (w.setCell ⟨g, 3, none⟩ (.int .i64 (n + 1))) = w1 at *
    have hb1 := HB.out
    have hg1 := HG.out
    clear HB HG c0 c1 c2 c3 f3
    have c0 := hb1.cellv 0 (v := .int .i64 r) rfl
    have c1 := hb1.cellv 1 (v := .int .i64 f) rfl
    have c2 := hb1.cellv 2 (v := .bool false) rfl
    have c3 := hb1.cellv 3 (v := .int .i64 (n + 1)) rfl
    have f2 := hb1.frozen 2
    have f3 := hb1.frozen 3
    have d1 : decide (n + 1 < r) = true := by simp; omega
    go_quiet (fail)
    have HB := Lib.hid (hb1.drewN nq)
    have HG := Lib.hid (grown_drewN hg1 nq)
    clear hb1 hg1
    go_wp2
    go_ret
    exact ⟨rfl, HB.out, HG.out⟩
  · have c' : n + 1 < f := c
    clear c
    go_enter Try.func13, Try.ntmps13
    go_wp2_with fail
    generalize (w.setCell ⟨g, 3, none⟩ (.int .i64 (n + 1))) = w1 at *
    have hb1 := HB.out
    have hg1 := HG.out
    clear HB HG c0 c1 c2 c3 f3
    have c0 := hb1.cellv 0 (v := .int .i64 r) rfl
    have c1 := hb1.cellv 1 (v := .int .i64 f) rfl
    have c2 := hb1.cellv 2 (v := .bool true) rfl
    have c3 := hb1.cellv 3 (v := .int .i64 (n + 1)) rfl
    have f2 := hb1.frozen 2
    have f3 := hb1.frozen 3
    have d1 : decide (n + 1 < f) = true := by simp; omega
    go_quiet (fail)
    have HB := Lib.hid (hb1.drewN nq)
    have HG := Lib.hid (grown_drewN hg1 nq)
    clear hb1 hg1
    go_wp2
    go_ret
    exact ⟨rfl, HB.out, HG.out⟩

set_option maxHeartbeats 1000000 in
theorem refForce_any (r f n : Int) (u k : Bool) (g : Nat) (w : World) (hb : Blk w g 32 (riseCs r f u n)) :
    Calls Try.prog 12 #[.pointer (some ⟨g, 0, none⟩), .bool k] w fun e w' => e = .returned (.bool (u != k)) ∧ Blk w' g 32 (riseCs r f k 0) ∧ w.grownBy w' (some g) := by
  have c2 := hb.cellv 2 (v := .bool u) rfl
  have c3 := hb.cellv 3 (v := .int .i64 n) rfl
  have f2 := hb.frozen 2
  have f3 := hb.frozen 3
  have HB := Lib.hid (stepN (stepU hb k) 0)
  have HG := Lib.hid (grown_trans (stepG (g := g) w 2 (.bool k)) (stepG _ 3 (.int .i64 0)))
  clear hb
  go_enter Try.func12, Try.ntmps12
  go_wp2
  go_ret
  exact ⟨rfl, HB.out, HG.out⟩

set_option maxHeartbeats 400000 in
theorem refNew_yes (r f : Int) (w : World) (h1 : 1 ≤ r ∧ r ≤ 100) (h2 : 1 ≤ f ∧ f ≤ 100) :
    Calls Try.prog 10 #[.int .i64 r, .int .i64 f] w fun e w' => ∃ g, e = .returned (.pointer (some ⟨g, 0, none⟩)) ∧ w.heap.size ≤ g ∧ Blk w' g 32 (riseCs r f false 0) ∧ Below w.heap.size w w' := by
  obtain ⟨a1, a2⟩ := h1
  obtain ⟨a3, a4⟩ := h2
  go_enter Try.func10, Try.ntmps10
  go_wp2
  go_ret
  exact ⟨_, rfl, Nat.le_refl _, Blk.new _ _ _, (Below.refl _ _).alloc (Nat.le_refl _) _⟩

set_option maxHeartbeats 1000000 in
theorem refNew_no (r f : Int) (w : World) (h : ¬ (1 ≤ r ∧ r ≤ 100) ∨ ¬ (1 ≤ f ∧ f ≤ 100)) :
    Calls Try.prog 10 #[.int .i64 r, .int .i64 f] w fun e w' => e = .returned (.pointer none) ∧ w = w' := by
  have h' : r < 1 ∨ (1 ≤ r ∧ 100 < r) ∨ (1 ≤ r ∧ r ≤ 100 ∧ f < 1) ∨ (1 ≤ r ∧ r ≤ 100 ∧ 1 ≤ f ∧ 100 < f) := by omega
  clear h
  rcases h' with a1 | ⟨a1, a2⟩ | ⟨a1, a2, a3⟩ | ⟨a1, a2, a3, a4⟩
  all_goals
    go_enter Try.func10, Try.ntmps10
    go_wp2
    go_ret
    exact ⟨rfl, rfl⟩
end Go.Proofs.Ytfmjedbpjjjdpaa
