/- policy: Better, and the law PolicyBetter. -/
import Derived.Test.YthllemlkdflhkaaRows
import Derived.Test.YthllemlkdflhkaaBlk
namespace Go.Proofs.Ythllemlkdflhkaa
set_option linter.unusedVariables false
open Go.RowKit

def cmpV (x y : Int) : Int := if x < y then -1 else if y < x then 1 else 0
set_option maxHeartbeats 400000 in
theorem nan_any (x : Int) (w : World) : Calls Try.prog 19 #[.int .i64 x] w fun e w' => e = .returned (.bool false) ∧ w = w' := by
  go_enter Try.func19, Try.ntmps19
  go_wp2
  go_ret
  exact ⟨ret_bool (by simp), rfl⟩
set_option maxHeartbeats 400000 in
theorem cmp_any (x y : Int) (w : World) : Calls Try.prog 13 #[.int .i64 x, .int .i64 y] w fun e w' => e = .returned (.int .i64 (cmpV x y)) ∧ w = w' := by
  go_enter Try.func13, Try.ntmps13
  go_wp2_with (go_at_call 19; refine (nan_any _ _).mono ?_; rintro e w' ⟨rfl, rfl⟩)
  all_goals go_ret
  all_goals exact ⟨ret_int (by unfold cmpV; repeat' (first | omega | split)), rfl⟩

def orV (x y z : Int) : Int := if x ≠ 0 then x else if y ≠ 0 then y else z
set_option maxHeartbeats 1000000 in
theorem or_any (x y z : Int) (g : Nat) (w : World) (h0 : w.cell? ⟨g, 0, none⟩ = some (.int .i64 x)) (h1 : w.cell? ⟨g, 1, none⟩ = some (.int .i64 y)) (h2 : w.cell? ⟨g, 2, none⟩ = some (.int .i64 z)) :
    Calls Try.prog 12 #[.slice (some ⟨g, 0, none⟩) 3 3] w fun e w' => e = .returned (.int .i64 (orV x y z)) ∧ w = w' := by
  by_cases c0 : x = 0
  · subst c0
    by_cases c1 : y = 0
    · subst c1
      by_cases c2 : z = 0
      · subst c2
        go_enter Try.func12, Try.ntmps12
        go_wp2
        go_rounds 4
        all_goals go_ret
        all_goals exact ⟨rfl, rfl⟩
      go_enter Try.func12, Try.ntmps12
      go_wp2
      go_rounds 4
      all_goals go_ret
      all_goals exact ⟨ret_int (by unfold orV; simp), rfl⟩
    · go_enter Try.func12, Try.ntmps12
      go_wp2
      go_rounds 4
      all_goals go_ret
      all_goals exact ⟨ret_int (by unfold orV; simp [c1]), rfl⟩
  · go_enter Try.func12, Try.ntmps12
    go_wp2
    go_rounds 4
    all_goals go_ret
    all_goals exact ⟨ret_int (by unfold orV; simp [c0]), rfl⟩

def attrCs (o : Int) (A : Option Addr) (n c : Nat) (h m : Int) (k : Bool) : Array Value := #[.int .i64 o, .slice A n c, .int .u32 h, .int .i64 m, .bool k]
def medV (m : Int) (k : Bool) : Int := if k then m else 0
set_option maxHeartbeats 400000 in
theorem med_any (o : Int) (A : Option Addr) (n c : Nat) (h m : Int) (k : Bool) (w : World) :
    Calls Try.prog 11 #[.agg #[.int .i64 o, .slice A n c, .int .u32 h, .int .i64 m, .bool k]] w fun e w' => e = .returned (.int .i64 (medV m k)) ∧ Below w.heap.size w w' := by
  cases k
  all_goals
    go_enter Try.func11, Try.ntmps11
    go_wp2
    go_ret
    exact ⟨rfl, (Below.refl _ _).alloc (Nat.le_refl _) _⟩

def betterV (o1 : Int) (n1 : Nat) (m1 o2 : Int) (n2 : Nat) (m2 : Int) : Bool := decide (n1 < n2 ∨ (n1 = n2 ∧ (o1 < o2 ∨ (o1 = o2 ∧ m1 < m2))))
theorem betterV_or (o1 : Int) (n1 : Nat) (m1 o2 : Int) (n2 : Nat) (m2 : Int) : decide (orV (cmpV n1 n2) (cmpV o1 o2) (cmpV m1 m2) < 0) = betterV o1 n1 m1 o2 n2 m2 := by
  unfold betterV
  rw [Bool.eq_iff_iff, decide_eq_true_iff, decide_eq_true_iff]
  unfold orV cmpV
  repeat' (first | omega | split)

set_option maxHeartbeats 2000000 in
theorem better_any (o1 : Int) (A1 : Option Addr) (n1 c1 : Nat) (h1 m1 : Int) (k1 : Bool) (o2 : Int) (A2 : Option Addr) (n2 c2 : Nat) (h2 m2 : Int) (k2 : Bool) (w : World) (l1 : n1 ≤ 300) (l2 : n2 ≤ 300) :
    Calls Try.prog 6 #[.agg #[.int .i64 o1, .slice A1 n1 c1, .int .u32 h1, .int .i64 m1, .bool k1], .agg #[.int .i64 o2, .slice A2 n2 c2, .int .u32 h2, .int .i64 m2, .bool k2]] w fun e w' => e = .returned (.bool (betterV o1 n1 (medV m1 k1) o2 n2 (medV m2 k2))) ∧ Below w.heap.size w w' := by
  have hb1 := (Blk.new w 25 (attrCs o1 A1 n1 c1 h1 m1 k1)).alloc (.cells (attrCs o2 A2 n2 c2 h2 m2 k2) 25)
  have hb2 := Blk.new (w.alloc (.cells (attrCs o1 A1 n1 c1 h1 m1 k1) 25)) 25 (attrCs o2 A2 n2 c2 h2 m2 k2)
  rw [World.size_alloc] at hb2
  have hB : Below w.heap.size w ((w.alloc (.cells (attrCs o1 A1 n1 c1 h1 m1 k1) 25)).alloc (.cells (attrCs o2 A2 n2 c2 h2 m2 k2) 25)) := ((Below.refl _ _).alloc (Nat.le_refl _) _).alloc (by simp) _
  have HV := Lib.hid (betterV_or o1 n1 (medV m1 k1) o2 n2 (medV m2 k2))
  go_enter Try.func6, Try.ntmps6
  go_wp2_with fail
  change Code.wp _ _ _ _ ((w.alloc (.cells (attrCs o1 A1 n1 c1 h1 m1 k1) 25)).alloc (.cells (attrCs o2 A2 n2 c2 h2 m2 k2) 25))
  generalize ((w.alloc (.cells (attrCs o1 A1 n1 c1 h1 m1 k1) 25)).alloc (.cells (attrCs o2 A2 n2 c2 h2 m2 k2) 25)) = w1 at *
  have hk1 := hb1.drew
  have hk2 := hb2.drew
  have hBx := hB.drew
  go_region_held3 (fun w' => w'.cell? ⟨w.heap.size, 0, none⟩ = some (.int .i64 o1) ∧ w'.cell? ⟨w.heap.size, 1, none⟩ = some (.slice A1 n1 c1) ∧ w'.cell? ⟨w.heap.size, 2, none⟩ = some (.int .u32 h1) ∧ w'.cell? ⟨w.heap.size, 3, none⟩ = some (.int .i64 m1) ∧ w'.cell? ⟨w.heap.size, 4, none⟩ = some (.bool k1) ∧
      w'.cell? ⟨w.heap.size + 1, 0, none⟩ = some (.int .i64 o2) ∧ w'.cell? ⟨w.heap.size + 1, 1, none⟩ = some (.slice A2 n2 c2) ∧ w'.cell? ⟨w.heap.size + 1, 2, none⟩ = some (.int .u32 h2) ∧ w'.cell? ⟨w.heap.size + 1, 3, none⟩ = some (.int .i64 m2) ∧ w'.cell? ⟨w.heap.size + 1, 4, none⟩ = some (.bool k2))
    (first
      | exact ⟨hk1.cellv 0 rfl, hk1.cellv 1 rfl, hk1.cellv 2 rfl, hk1.cellv 3 rfl, hk1.cellv 4 rfl, hk2.cellv 0 rfl, hk2.cellv 1 rfl, hk2.cellv 2 rfl, hk2.cellv 3 rfl, hk2.cellv 4 rfl⟩
      | exact ⟨(hk1.alloc _).cellv 0 rfl, (hk1.alloc _).cellv 1 rfl, (hk1.alloc _).cellv 2 rfl, (hk1.alloc _).cellv 3 rfl, (hk1.alloc _).cellv 4 rfl, (hk2.alloc _).cellv 0 rfl, (hk2.alloc _).cellv 1 rfl, (hk2.alloc _).cellv 2 rfl, (hk2.alloc _).cellv 3 rfl, (hk2.alloc _).cellv 4 rfl⟩)
    (first
      | (go_at_call 13; refine (cmp_any _ _ _).mono ?_; rintro e w' ⟨rfl, rfl⟩)
      | (go_at_call 11; with_reducible refine (med_any o1 A1 n1 c1 h1 m1 k1 _).mono ?_; rintro e w' ⟨rfl, hx⟩; have hk1 := hk1.below hx hk1.lt; have hk2 := hk2.below hx hk2.lt; have hBx := hBx.trans (hx.mono hBx.size); clear hx)
      | (go_at_call 11; with_reducible refine (med_any o2 A2 n2 c2 h2 m2 k2 _).mono ?_; rintro e w' ⟨rfl, hx⟩; have hk1 := hk1.below hx hk1.lt; have hk2 := hk2.below hx hk2.lt; have hBx := hBx.trans (hx.mono hBx.size); clear hx)
      | (go_at_call 12; refine (or_any _ _ _ _ _ ((Blk.new _ _ _).cellv 0 rfl) ((Blk.new _ _ _).cellv 1 rfl) ((Blk.new _ _ _).cellv 2 rfl)).mono ?_; rintro e w' ⟨rfl, rfl⟩))
  all_goals go_wp2
  all_goals go_ret
  all_goals exact ⟨by rw [← HV.out]; rfl, hBx.alloc hBx.size _⟩

set_option maxHeartbeats 2000000 in
theorem refBetter_any (o1 : Int) (A1 : Option Addr) (n1 c1 : Nat) (h1 m1 : Int) (k1 : Bool) (o2 : Int) (A2 : Option Addr) (n2 c2 : Nat) (h2 m2 : Int) (k2 : Bool) (w : World) (l1 : n1 ≤ 300) (l2 : n2 ≤ 300) :
    Calls Try.prog 7 #[.agg #[.int .i64 o1, .slice A1 n1 c1, .int .u32 h1, .int .i64 m1, .bool k1], .agg #[.int .i64 o2, .slice A2 n2 c2, .int .u32 h2, .int .i64 m2, .bool k2]] w fun e w' => e = .returned (.bool (betterV o1 n1 (medV m1 k1) o2 n2 (medV m2 k2))) ∧ Below w.heap.size w w' := by
  have hb1 := (Blk.new w 29 (attrCs o1 A1 n1 c1 h1 m1 k1)).alloc (.cells (attrCs o2 A2 n2 c2 h2 m2 k2) 29)
  have hb2 := Blk.new (w.alloc (.cells (attrCs o1 A1 n1 c1 h1 m1 k1) 29)) 29 (attrCs o2 A2 n2 c2 h2 m2 k2)
  rw [World.size_alloc] at hb2
  have hB : Below w.heap.size w ((w.alloc (.cells (attrCs o1 A1 n1 c1 h1 m1 k1) 29)).alloc (.cells (attrCs o2 A2 n2 c2 h2 m2 k2) 29)) := ((Below.refl _ _).alloc (Nat.le_refl _) _).alloc (by simp) _
  cases k1 <;> cases k2
  · go_enter Try.func7, Try.ntmps7
    go_wp2_with fail
    change Code.wp _ _ _ _ ((w.alloc (.cells (attrCs o1 A1 n1 c1 h1 m1 _) 29)).alloc (.cells (attrCs o2 A2 n2 c2 h2 m2 _) 29))
    generalize ((w.alloc (.cells (attrCs o1 A1 n1 c1 h1 m1 _) 29)).alloc (.cells (attrCs o2 A2 n2 c2 h2 m2 _) 29)) = w1 at *
    have a0 := hb1.cellv 0 (v := .int .i64 o1) rfl
    have a1 := hb1.cellv 1 (v := .slice A1 n1 c1) rfl
    have a3 := hb1.cellv 3 (v := .int .i64 m1) rfl
    have a4 := hb1.cellv 4 (v := .bool false) rfl
    have b0 := hb2.cellv 0 (v := .int .i64 o2) rfl
    have b1 := hb2.cellv 1 (v := .slice A2 n2 c2) rfl
    have b3 := hb2.cellv 3 (v := .int .i64 m2) rfl
    have b4 := hb2.cellv 4 (v := .bool false) rfl
    have HB := Lib.hid hB
    clear hb1 hb2 hB
    go_quiet (fail)
    go_wp2_with fail
    all_goals go_ret
    all_goals exact ⟨ret_bool (by rw [show medV m1 false = 0 from rfl, show medV m2 false = 0 from rfl]; unfold betterV; rw [Bool.eq_iff_iff]; clear HB a0 a1 a3 a4 b0 b1 b3 b4; first | (simp_all; done) | (simp_all; omega)), below_drewN HB.out _⟩
  · go_enter Try.func7, Try.ntmps7
    go_wp2_with fail
    change Code.wp _ _ _ _ ((w.alloc (.cells (attrCs o1 A1 n1 c1 h1 m1 _) 29)).alloc (.cells (attrCs o2 A2 n2 c2 h2 m2 _) 29))
    generalize ((w.alloc (.cells (attrCs o1 A1 n1 c1 h1 m1 _) 29)).alloc (.cells (attrCs o2 A2 n2 c2 h2 m2 _) 29)) = w1 at *
    have a0 := hb1.cellv 0 (v := .int .i64 o1) rfl
    have a1 := hb1.cellv 1 (v := .slice A1 n1 c1) rfl
    have a3 := hb1.cellv 3 (v := .int .i64 m1) rfl
    have a4 := hb1.cellv 4 (v := .bool false) rfl
    have b0 := hb2.cellv 0 (v := .int .i64 o2) rfl
    have b1 := hb2.cellv 1 (v := .slice A2 n2 c2) rfl
    have b3 := hb2.cellv 3 (v := .int .i64 m2) rfl
    have b4 := hb2.cellv 4 (v := .bool true) rfl
    have HB := Lib.hid hB
    clear hb1 hb2 hB
    go_quiet (fail)
    go_wp2_with fail
    all_goals go_ret
    all_goals exact ⟨ret_bool (by rw [show medV m1 false = 0 from rfl, show medV m2 true = m2 from rfl]; unfold betterV; rw [Bool.eq_iff_iff]; clear HB a0 a1 a3 a4 b0 b1 b3 b4; first | (simp_all; done) | (simp_all; omega)), below_drewN HB.out _⟩
  · go_enter Try.func7, Try.ntmps7
    go_wp2_with fail
    change Code.wp _ _ _ _ ((w.alloc (.cells (attrCs o1 A1 n1 c1 h1 m1 _) 29)).alloc (.cells (attrCs o2 A2 n2 c2 h2 m2 _) 29))
    generalize ((w.alloc (.cells (attrCs o1 A1 n1 c1 h1 m1 _) 29)).alloc (.cells (attrCs o2 A2 n2 c2 h2 m2 _) 29)) = w1 at *
    have a0 := hb1.cellv 0 (v := .int .i64 o1) rfl
    have a1 := hb1.cellv 1 (v := .slice A1 n1 c1) rfl
    have a3 := hb1.cellv 3 (v := .int .i64 m1) rfl
    have a4 := hb1.cellv 4 (v := .bool true) rfl
    have b0 := hb2.cellv 0 (v := .int .i64 o2) rfl
    have b1 := hb2.cellv 1 (v := .slice A2 n2 c2) rfl
    have b3 := hb2.cellv 3 (v := .int .i64 m2) rfl
    have b4 := hb2.cellv 4 (v := .bool false) rfl
    have HB := Lib.hid hB
    clear hb1 hb2 hB
    go_quiet (fail)
    go_wp2_with fail
    all_goals go_ret
    all_goals exact ⟨ret_bool (by rw [show medV m1 true = m1 from rfl, show medV m2 false = 0 from rfl]; unfold betterV; rw [Bool.eq_iff_iff]; clear HB a0 a1 a3 a4 b0 b1 b3 b4; first | (simp_all; done) | (simp_all; omega)), below_drewN HB.out _⟩
  · go_enter Try.func7, Try.ntmps7
    go_wp2_with fail
    change Code.wp _ _ _ _ ((w.alloc (.cells (attrCs o1 A1 n1 c1 h1 m1 _) 29)).alloc (.cells (attrCs o2 A2 n2 c2 h2 m2 _) 29))
    generalize ((w.alloc (.cells (attrCs o1 A1 n1 c1 h1 m1 _) 29)).alloc (.cells (attrCs o2 A2 n2 c2 h2 m2 _) 29)) = w1 at *
    have a0 := hb1.cellv 0 (v := .int .i64 o1) rfl
    have a1 := hb1.cellv 1 (v := .slice A1 n1 c1) rfl
    have a3 := hb1.cellv 3 (v := .int .i64 m1) rfl
    have a4 := hb1.cellv 4 (v := .bool true) rfl
    have b0 := hb2.cellv 0 (v := .int .i64 o2) rfl
    have b1 := hb2.cellv 1 (v := .slice A2 n2 c2) rfl
    have b3 := hb2.cellv 3 (v := .int .i64 m2) rfl
    have b4 := hb2.cellv 4 (v := .bool true) rfl
    have HB := Lib.hid hB
    clear hb1 hb2 hB
    go_quiet (fail)
    go_wp2_with fail
    all_goals go_ret
    all_goals exact ⟨ret_bool (by rw [show medV m1 true = m1 from rfl, show medV m2 true = m2 from rfl]; unfold betterV; rw [Bool.eq_iff_iff]; clear HB a0 a1 a3 a4 b0 b1 b3 b4; first | (simp_all; done) | (simp_all; omega)), below_drewN HB.out _⟩

theorem betterV_self (o : Int) (n : Nat) (m : Int) : betterV o n m o n m = false := by unfold betterV; simp
theorem betterV_anti {o1 : Int} {n1 : Nat} {m1 o2 : Int} {n2 : Nat} {m2 : Int} (h : betterV o1 n1 m1 o2 n2 m2 = true) : betterV o2 n2 m2 o1 n1 m1 = false := by
  have h := of_decide_eq_true h
  exact decide_eq_false (by omega)
theorem betterV_trans {o1 : Int} {n1 : Nat} {m1 o2 : Int} {n2 : Nat} {m2 o3 : Int} {n3 : Nat} {m3 : Int} (h : betterV o1 n1 m1 o2 n2 m2 = true) (h' : betterV o2 n2 m2 o3 n3 m3 = true) : betterV o1 n1 m1 o3 n3 m3 = true := by
  have h := of_decide_eq_true h
  have h' := of_decide_eq_true h'
  exact decide_eq_true (by omega)
end Go.Proofs.Ythllemlkdflhkaa
