/- rise: the counter's methods. -/
import Derived.Test.YtfmjedbpjjjdpaaRows
import Derived.Test.YtfmjedbpjjjdpaaBlk
import Derived.StillTailTactics
namespace Go.Proofs.Ytfmjedbpjjjdpaa
set_option linter.unusedVariables false
open Go.RowKit

/-- a counter's cells. -/
def riseCs (r f : Int) (u : Bool) (n : Int) : Array Value := #[.int .i64 r, .int .i64 f, .bool u, .int .i64 n]
theorem riseCs_u (r f n : Int) (u k : Bool) : (riseCs r f u n).setIfInBounds 2 (.bool k) = riseCs r f k n := rfl
theorem riseCs_n (r f n m : Int) (u : Bool) : (riseCs r f u n).setIfInBounds 3 (.int .i64 m) = riseCs r f u m := rfl

section
variable {w : World} {g : Nat} {T : TypeId} {r f n : Int} {u : Bool}
theorem stepU (hb : Blk w g T (riseCs r f u n)) (k : Bool) : Blk (w.setCell ⟨g, 2, none⟩ (.bool k)) g T (riseCs r f k n) := by
  rw [← riseCs_u r f n u]; exact hb.set_ 2 _
theorem stepN (hb : Blk w g T (riseCs r f u n)) (m : Int) : Blk (w.setCell ⟨g, 3, none⟩ (.int .i64 m)) g T (riseCs r f u m) := by
  rw [← riseCs_n r f n]; exact hb.set_ 3 _
theorem stepG {g : Nat} (w : World) (i : Nat) (v : Value) : w.grownBy (w.setCell ⟨g, i, none⟩ v) (some g) := grown_setCell (grown_refl _ _) (.inl rfl) _
end

set_option maxHeartbeats 400000 in
theorem right_any (n : Int) (w : World) :
    Calls Try.prog 16 #[.int .i64 n] w fun e w' => e = .returned (.bool (decide (1 ≤ n ∧ n ≤ 100))) ∧ w = w' := by
  by_cases c1 : 1 ≤ n
  · by_cases c2 : n ≤ 100
    · go_enter Try.func16, Try.ntmps16
      go_wp2
      go_ret
      exact ⟨ret_bool (by simp; omega), rfl⟩
    · go_enter Try.func16, Try.ntmps16
      go_wp2
      go_ret
      exact ⟨ret_bool (by simp; omega), rfl⟩
  · go_enter Try.func16, Try.ntmps16
    go_wp2
    go_ret
    exact ⟨ret_bool (by simp; omega), rfl⟩

set_option maxHeartbeats 400000 in
theorem made_nil (w : World) : Calls Try.prog 17 #[.pointer none] w fun e w' => e = .returned (.bool false) ∧ w = w' := by
  go_enter Try.func17, Try.ntmps17
  go_wp2
  go_ret
  exact ⟨rfl, rfl⟩

set_option maxHeartbeats 400000 in
theorem made_any (r f n : Int) (u : Bool) (g : Nat) (w : World) (hb : Blk w g 37 (riseCs r f u n)) :
    Calls Try.prog 17 #[.pointer (some ⟨g, 0, none⟩)] w fun e w' => e = .returned (.bool (decide (0 < r))) ∧ w = w' := by
  have c0 := hb.cellv 0 (v := .int .i64 r) rfl
  go_enter Try.func17, Try.ntmps17
  go_wp2
  go_ret
  exact ⟨rfl, rfl⟩

def needs (r f : Int) (u : Bool) : Int := if u then f else r
set_option maxHeartbeats 400000 in
theorem needs_any (r f n : Int) (u : Bool) (g : Nat) (w : World) (hb : Blk w g 37 (riseCs r f u n)) :
    Calls Try.prog 20 #[.pointer (some ⟨g, 0, none⟩)] w fun e w' => e = .returned (.int .i64 (needs r f u)) ∧ w = w' := by
  have c0 := hb.cellv 0 (v := .int .i64 r) rfl
  have c1 := hb.cellv 1 (v := .int .i64 f) rfl
  have c2 := hb.cellv 2 (v := .bool u) rfl
  cases u
  all_goals
    go_enter Try.func20, Try.ntmps20
    go_wp2
    go_ret
    exact ⟨rfl, rfl⟩

set_option maxHeartbeats 400000 in
theorem calm_any (r f n : Int) (u : Bool) (g : Nat) (w : World) (hb : Blk w g 37 (riseCs r f u n)) :
    Calls Try.prog 18 #[.pointer (some ⟨g, 0, none⟩)] w fun e w' => e = .returned (.bool false) ∧ Blk w' g 37 (riseCs r f u 0) ∧ w.grownBy w' (some g) := by
  have c3 := hb.cellv 3 (v := .int .i64 n) rfl
  have f3 := hb.frozen 3
  have K := Lib.hid (stepN hb 0)
  clear hb
  go_enter Try.func18, Try.ntmps18
  go_wp2
  go_ret
  exact ⟨rfl, K.out, stepG _ _ _⟩

set_option maxHeartbeats 1000000 in
theorem turn_no (r f n : Int) (u : Bool) (g : Nat) (w : World) (hb : Blk w g 37 (riseCs r f u n)) (h : n < needs r f u) :
    Calls Try.prog 19 #[.pointer (some ⟨g, 0, none⟩)] w fun e w' => e = .returned (.bool false) ∧ Blk w' g 37 (riseCs r f u n) ∧ w.grownBy w' (some g) := by
  have c3 := hb.cellv 3 (v := .int .i64 n) rfl
  go_enter Try.func19, Try.ntmps19
  go_wp2_with fail
  go_quiet ((go_at_call 20; exact quiet_left (needs_any r f n u g _ hb)))
  go_wp2_with fail
  go_ret
  exact ⟨rfl, hb.drewN _, grown_drewN (grown_refl _ _) _⟩
set_option maxHeartbeats 1000000 in
theorem turn_yes (r f n : Int) (u : Bool) (g : Nat) (w : World) (hb : Blk w g 37 (riseCs r f u n)) (h : needs r f u ≤ n) :
    Calls Try.prog 19 #[.pointer (some ⟨g, 0, none⟩)] w fun e w' => e = .returned (.bool true) ∧ Blk w' g 37 (riseCs r f (!u) 0) ∧ w.grownBy w' (some g) := by
  have c3 := hb.cellv 3 (v := .int .i64 n) rfl
  have c2 := hb.cellv 2 (v := .bool u) rfl
  have f2 := hb.frozen 2
  have f3 := hb.frozen 3
  go_enter Try.func19, Try.ntmps19
  go_wp2_with fail
  go_quiet ((go_at_call 20; exact quiet_left (needs_any r f n u g _ hb)))
  have HB := Lib.hid (stepN (stepU (hb.drewN nq) (!u)) 0)
  have HG := Lib.hid (grown_trans (grown_drewN (grown_refl w (some g)) nq) (grown_trans (stepG (w.drewN nq) 2 (.bool (!u))) (stepG _ 3 (.int .i64 0))))
  clear hb
  go_wp2
  go_ret
  exact ⟨rfl, HB.out, HG.out⟩

set_option maxHeartbeats 1000000 in
theorem note_same (r f n : Int) (u : Bool) (g : Nat) (w : World) (hr : 0 < r) (hb : Blk w g 37 (riseCs r f u n)) :
    Calls Try.prog 9 #[.pointer (some ⟨g, 0, none⟩), .bool u] w fun e w' => e = .returned (.bool false) ∧ Blk w' g 37 (riseCs r f u 0) ∧ w.grownBy w' (some g) := by
  have c2 := hb.cellv 2 (v := .bool u) rfl
  have hd : decide (0 < r) = true := by simp [hr]
  go_enter Try.func9, Try.ntmps9
  go_wp2_with fail
  refine (made_any r f n u g _ hb).mono ?_
  rintro e w' ⟨rfl, rfl⟩
  go_wp2_with fail
  refine (calm_any r f n u g _ hb).mono ?_
  rintro e w2 ⟨rfl, hb2, hg2⟩
  have HB := Lib.hid hb2
  have HG := Lib.hid hg2
  clear hb hb2 hg2
  go_wp2
  go_ret
  exact ⟨rfl, HB.out, HG.out⟩

set_option maxHeartbeats 1000000 in
theorem note_yes (r f n : Int) (u k : Bool) (g : Nat) (w : World) (hr : 0 < r) (hk : k = !u) (n1 : 0 ≤ n) (n2 : n ≤ 1000) (hb : Blk w g 37 (riseCs r f u n)) (c : needs r f u ≤ n + 1) :
    Calls Try.prog 9 #[.pointer (some ⟨g, 0, none⟩), .bool k] w fun e w' => e = .returned (.bool true) ∧ Blk w' g 37 (riseCs r f (!u) 0) ∧ w.grownBy w' (some g) := by
  have c2 := hb.cellv 2 (v := .bool u) rfl
  have c3 := hb.cellv 3 (v := .int .i64 n) rfl
  have f3 := hb.frozen 3
  have hd : decide (0 < r) = true := by simp [hr]
  have hku : (k == u) = false := by rw [hk]; cases u <;> rfl
  have hku2 : (k != u) = true := by rw [hk]; cases u <;> rfl
  have hb2 := stepN hb (n + 1)
  have hg2 : w.grownBy (w.setCell ⟨g, 3, none⟩ (.int .i64 (n + 1))) (some g) := stepG _ _ _
  have CC := Lib.hid c
  clear hk c
  go_enter Try.func9, Try.ntmps9
  go_wp2_with fail
  refine (made_any r f n u g _ hb).mono ?_
  rintro e w' ⟨rfl, rfl⟩
  go_wp2_with fail
  refine (turn_yes r f (n + 1) u g _ hb2 CC.out).mono ?_
  rintro e w2 ⟨rfl, hb3, hg3⟩
  have HB := Lib.hid hb3
  have HG := Lib.hid (grown_trans hg2 hg3)
  clear hb hb2 hg2 hb3 hg3
  go_wp2
  go_ret
  exact ⟨rfl, HB.out, HG.out⟩

set_option maxHeartbeats 1000000 in
theorem note_no (r f n : Int) (u k : Bool) (g : Nat) (w : World) (hr : 0 < r) (hk : k = !u) (n1 : 0 ≤ n) (n2 : n ≤ 1000) (hb : Blk w g 37 (riseCs r f u n)) (c : n + 1 < needs r f u) :
    Calls Try.prog 9 #[.pointer (some ⟨g, 0, none⟩), .bool k] w fun e w' => e = .returned (.bool false) ∧ Blk w' g 37 (riseCs r f u (n + 1)) ∧ w.grownBy w' (some g) := by
  have c2 := hb.cellv 2 (v := .bool u) rfl
  have c3 := hb.cellv 3 (v := .int .i64 n) rfl
  have f3 := hb.frozen 3
  have hd : decide (0 < r) = true := by simp [hr]
  have hku : (k == u) = false := by rw [hk]; cases u <;> rfl
  have hku2 : (k != u) = true := by rw [hk]; cases u <;> rfl
  have hb2 := stepN hb (n + 1)
  have hg2 : w.grownBy (w.setCell ⟨g, 3, none⟩ (.int .i64 (n + 1))) (some g) := stepG _ _ _
  have CC := Lib.hid c
  clear hk c
  go_enter Try.func9, Try.ntmps9
  go_wp2_with fail
  refine (made_any r f n u g _ hb).mono ?_
  rintro e w' ⟨rfl, rfl⟩
  go_wp2_with fail
  refine (turn_no r f (n + 1) u g _ hb2 CC.out).mono ?_
  rintro e w2 ⟨rfl, hb3, hg3⟩
  have HB := Lib.hid hb3
  have HG := Lib.hid (grown_trans hg2 hg3)
  clear hb hb2 hg2 hb3 hg3
  go_wp2
  go_ret
  exact ⟨rfl, HB.out, HG.out⟩

section
variable (r f n : Int) (u : Bool) (g : Nat) (w : World) (hr : 0 < r) (hb : Blk w g 37 (riseCs r f u n))
include hr hb
set_option maxHeartbeats 400000 in
theorem up_any : Calls Try.prog 8 #[.pointer (some ⟨g, 0, none⟩)] w fun e w' => e = .returned (.bool u) ∧ w = w' := by
  have c2 := hb.cellv 2 (v := .bool u) rfl
  have hd : decide (0 < r) = true := by simp [hr]
  go_enter Try.func8, Try.ntmps8
  go_wp2_with (go_at_call 17; refine (made_any r f n u g _ hb).mono ?_; rintro e w' ⟨rfl, rfl⟩)
  go_ret
  exact ⟨rfl, rfl⟩
set_option maxHeartbeats 400000 in
theorem run_any : Calls Try.prog 14 #[.pointer (some ⟨g, 0, none⟩)] w fun e w' => e = .returned (.int .i64 n) ∧ w = w' := by
  have c3 := hb.cellv 3 (v := .int .i64 n) rfl
  have hd : decide (0 < r) = true := by simp [hr]
  go_enter Try.func14, Try.ntmps14
  go_wp2_with (go_at_call 17; refine (made_any r f n u g _ hb).mono ?_; rintro e w' ⟨rfl, rfl⟩)
  go_ret
  exact ⟨rfl, rfl⟩
set_option maxHeartbeats 400000 in
theorem copy_any : Calls Try.prog 15 #[.pointer (some ⟨g, 0, none⟩)] w fun e w' => e = .returned (.pointer (some ⟨w.heap.size, 0, none⟩)) ∧ Blk w' w.heap.size 37 (riseCs r f u n) ∧ Below w.heap.size w w' := by
  have c0 := hb.cellv 0 (v := .int .i64 r) rfl
  have c1 := hb.cellv 1 (v := .int .i64 f) rfl
  have c2 := hb.cellv 2 (v := .bool u) rfl
  have c3 := hb.cellv 3 (v := .int .i64 n) rfl
  have hd : decide (0 < r) = true := by simp [hr]
  go_enter Try.func15, Try.ntmps15
  go_wp2_with (go_at_call 17; refine (made_any r f n u g _ hb).mono ?_; rintro e w' ⟨rfl, rfl⟩)
  go_ret
  exact ⟨rfl, Blk.new _ _ _, (Below.refl _ _).alloc (Nat.le_refl _) _⟩
set_option maxHeartbeats 1000000 in
theorem force_any (k : Bool) : Calls Try.prog 11 #[.pointer (some ⟨g, 0, none⟩), .bool k] w fun e w' => e = .returned (.bool (u != k)) ∧ Blk w' g 37 (riseCs r f k 0) ∧ w.grownBy w' (some g) := by
  have c2 := hb.cellv 2 (v := .bool u) rfl
  have c3 := hb.cellv 3 (v := .int .i64 n) rfl
  have f2 := hb.frozen 2
  have f3 := hb.frozen 3
  have hd : decide (0 < r) = true := by simp [hr]
  have HB := Lib.hid (stepN (stepU hb k) 0)
  have HG := Lib.hid (grown_trans (stepG (g := g) w 2 (.bool k)) (stepG _ 3 (.int .i64 0)))
  go_enter Try.func11, Try.ntmps11
  go_wp2_with fail
  refine (made_any r f n u g _ hb).mono ?_
  rintro e w' ⟨rfl, rfl⟩
  clear hb
  go_wp2_with fail
  go_ret
  exact ⟨rfl, HB.out, HG.out⟩
end

set_option maxHeartbeats 400000 in
theorem new_yes (r f : Int) (w : World) (h1 : 1 ≤ r ∧ r ≤ 100) (h2 : 1 ≤ f ∧ f ≤ 100) :
    Calls Try.prog 7 #[.int .i64 r, .int .i64 f] w fun e w' => ∃ g, e = .returned (.pointer (some ⟨g, 0, none⟩)) ∧ w.heap.size ≤ g ∧ Blk w' g 37 (riseCs r f false 0) ∧ Below w.heap.size w w' := by
  have d1 : decide (1 ≤ r ∧ r ≤ 100) = true := by simp [h1]
  have d2 : decide (1 ≤ f ∧ f ≤ 100) = true := by simp [h2]
  have D1 := Lib.hid d1
  have D2 := Lib.hid d2
  clear d1 d2 h1 h2
  go_enter Try.func7, Try.ntmps7
  go_wp2_with fail
  refine (right_any _ _).mono ?_
  rintro e w' ⟨rfl, rfl⟩
  rw [D1.out]
  go_wp2_with fail
  refine (right_any _ _).mono ?_
  rintro e w' ⟨rfl, rfl⟩
  rw [D2.out]
  go_wp2_with fail
  go_ret
  exact ⟨_, rfl, Nat.le_refl _, Blk.new _ _ _, (Below.refl _ _).alloc (Nat.le_refl _) _⟩

set_option maxHeartbeats 400000 in
theorem new_no (r f : Int) (w : World) (h : ¬ (1 ≤ r ∧ r ≤ 100) ∨ ¬ (1 ≤ f ∧ f ≤ 100)) :
    Calls Try.prog 7 #[.int .i64 r, .int .i64 f] w fun e w' => e = .returned (.pointer none) ∧ w = w' := by
  by_cases h1 : 1 ≤ r ∧ r ≤ 100
  · have d1 : decide (1 ≤ r ∧ r ≤ 100) = true := by simp [h1]
    have d2 : decide (1 ≤ f ∧ f ≤ 100) = false := by
      rcases h with h | h
      · exact absurd h1 h
      · exact decide_eq_false h
    have D1 := Lib.hid d1
    have D2 := Lib.hid d2
    clear d1 d2 h h1
    go_enter Try.func7, Try.ntmps7
    go_wp2_with fail
    refine (right_any _ _).mono ?_
    rintro e w' ⟨rfl, rfl⟩
    rw [D1.out]
    go_wp2_with fail
    refine (right_any _ _).mono ?_
    rintro e w' ⟨rfl, rfl⟩
    rw [D2.out]
    go_wp2_with fail
    go_ret
    exact ⟨rfl, rfl⟩
  · have D1 := Lib.hid (decide_eq_false h1)
    clear h h1
    go_enter Try.func7, Try.ntmps7
    go_wp2_with fail
    refine (right_any _ _).mono ?_
    rintro e w' ⟨rfl, rfl⟩
    rw [D1.out]
    go_wp2_with fail
    go_ret
    exact ⟨rfl, rfl⟩

/-- the document's examples. -/
theorem lives_any (w : World) : Calls Try.prog 6 #[] w fun e W' => e = .returned (.bool true) ∧ Below w.heap.size w W' := by
  go_enter Try.func6, Try.ntmps6
  go_wp2_with fail
  refine (new_yes 2 3 _ (by omega) (by omega)).mono ?_
  rintro e w1 ⟨g, rfl, hg, hb, hB⟩
  go_wp2_with fail
  refine (note_no 2 3 0 false true g _ (by omega) rfl (by omega) (by omega) hb (by decide)).mono ?_
  rintro e w2 ⟨rfl, hb, hx⟩
  have hB := below_own hB hx hB.size hg
  clear hx
  go_wp2_with fail
  refine (note_yes 2 3 (0 + 1) false true g _ (by omega) rfl (by omega) (by omega) hb (by decide)).mono ?_
  rintro e w3 ⟨rfl, hb, hx⟩
  have hB := below_own hB hx hB.size hg
  clear hx
  go_wp2_with (go_at_call 8; refine (up_any _ _ _ _ g _ (by omega) hb).mono ?_; rintro e w' ⟨rfl, rfl⟩)
  go_ret
  exact ⟨rfl, hB⟩
end Go.Proofs.Ytfmjedbpjjjdpaa
