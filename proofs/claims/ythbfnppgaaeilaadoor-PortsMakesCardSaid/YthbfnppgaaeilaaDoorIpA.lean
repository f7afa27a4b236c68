/- ip: Good, the document's Good, plain. -/
import Derived.Test.YthbfnppgaaeilaaDoorWird
import Derived.BigGuardPart
namespace Go.Proofs.YthbfnppgaaeilaaDoor
set_option linter.unusedVariables false
open Go.RowKit

/-- a header's cells. -/
def hdrCs (t i f g l p s d : Int) (A : Option Addr) (n c : Nat) : Array Value := #[.int .i64 t, .int .i64 i, .int .i64 f, .int .i64 g, .int .i64 l, .int .i64 p, .int .u32 s, .int .u32 d, .slice A n c]
def inH (x m : Int) : Bool := decide (0 ≤ x) && decide (x ≤ m)
def goodH (t i f g l p : Int) (n : Nat) : Bool := inH t 255 && inH l 255 && inH p 255 && inH i 65535 && inH f 7 && inH g 8191 && decide (n ≤ 40) && decide (n % 4 = 0)
set_option maxHeartbeats 400000 in
theorem refIn_any (x m : Int) (w : World) : Calls Tryd.prog 98 #[.int .i64 x, .int .i64 m] w fun e w' => e = .returned (.bool (inH x m)) ∧ w = w' := by
  go_enter Tryd.func98, Tryd.ntmps98
  go_wp2_with fail
  all_goals go_ret
  all_goals (refine ⟨ret_bool ?_, rfl⟩; simp only [inH]; simp; try omega)
set_option maxHeartbeats 2000000 in
theorem refGood_any (t i f g l p s d : Int) (A : Option Addr) (n c : Nat) (w : World) (hn : n ≤ 300) :
    Calls Tryd.prog 78 #[.agg #[.int .i64 t, .int .i64 i, .int .i64 f, .int .i64 g, .int .i64 l, .int .i64 p, .int .u32 s, .int .u32 d, .slice A n c]] w fun e w' => e = .returned (.bool (goodH t i f g l p n)) ∧ Below w.heap.size w w' := by
  have hB : Below w.heap.size w (w.alloc (.cells (hdrCs t i f g l p s d A n c) 94)) := ((Below.refl _ _).alloc (Nat.le_refl _) _)
  unfold hdrCs at hB
  go_enter Tryd.func78, Tryd.ntmps78
  cases e1 : inH t 255
  · go_wp2_with (go_at_call 98; refine (refIn_any _ _ _).mono ?_; rintro e w' ⟨rfl, rfl⟩; simp only [e1])
    go_ret
    exact ⟨ret_bool (by simp [goodH, e1]), hB⟩
  cases e2 : inH l 255
  · go_wp2_with (go_at_call 98; refine (refIn_any _ _ _).mono ?_; rintro e w' ⟨rfl, rfl⟩; simp only [e1, e2])
    go_ret
    exact ⟨ret_bool (by simp [goodH, e1, e2]), hB⟩
  cases e3 : inH p 255
  · go_wp2_with (go_at_call 98; refine (refIn_any _ _ _).mono ?_; rintro e w' ⟨rfl, rfl⟩; simp only [e1, e2, e3])
    go_ret
    exact ⟨ret_bool (by simp [goodH, e1, e2, e3]), hB⟩
  cases e4 : inH i 65535
  · go_wp2_with (go_at_call 98; refine (refIn_any _ _ _).mono ?_; rintro e w' ⟨rfl, rfl⟩; simp only [e1, e2, e3, e4])
    go_ret
    exact ⟨ret_bool (by simp [goodH, e1, e2, e3, e4]), hB⟩
  cases e5 : inH f 7
  · go_wp2_with (go_at_call 98; refine (refIn_any _ _ _).mono ?_; rintro e w' ⟨rfl, rfl⟩; simp only [e1, e2, e3, e4, e5])
    go_ret
    exact ⟨ret_bool (by simp [goodH, e1, e2, e3, e4, e5]), hB⟩
  cases e6 : inH g 8191
  · go_wp2_with (go_at_call 98; refine (refIn_any _ _ _).mono ?_; rintro e w' ⟨rfl, rfl⟩; simp only [e1, e2, e3, e4, e5, e6])
    go_ret
    exact ⟨ret_bool (by simp [goodH, e1, e2, e3, e4, e5, e6]), hB⟩
  · go_wp2_with (go_at_call 98; refine (refIn_any _ _ _).mono ?_; rintro e w' ⟨rfl, rfl⟩; simp only [e1, e2, e3, e4, e5, e6])
    all_goals go_ret
    all_goals (refine ⟨ret_bool ?_, hB⟩; rw [Bool.eq_iff_iff]; simp [goodH, e1, e2, e3, e4, e5, e6]; try omega)

theorem inH_no (x m : Int) (h : x < 0 ∨ m < x) : inH x m = false := by unfold inH; rw [Bool.eq_false_iff]; simp; omega
set_option maxHeartbeats 4000000 in
theorem ipGood_any (t i f g l p s d : Int) (A : Option Addr) (n c : Nat) (w : World) (hn : n ≤ 300) :
    Calls Tryd.prog 75 #[.agg #[.int .i64 t, .int .i64 i, .int .i64 f, .int .i64 g, .int .i64 l, .int .i64 p, .int .u32 s, .int .u32 d, .slice A n c]] w fun e w' => e = .returned (.bool (goodH t i f g l p n)) ∧ Below w.heap.size w w' := by
  have i0 : ∀ (x0 x1 x2 x3 x4 x5 x6 x7 x8 x9 x10 x11 : Value) (w : World), (Instr.index 134 (.agg #[x0, x1, x2, x3, x4, x5, x6, x7, x8, x9, x10, x11]) (.int .i64 0)).run Tryd.prog w = .ok (.agg #[x0, x1]) w := fun _ _ _ _ _ _ _ _ _ _ _ _ _ => by kernel_rfl
  have i1 : ∀ (x0 x1 x2 x3 x4 x5 x6 x7 x8 x9 x10 x11 : Value) (w : World), (Instr.index 134 (.agg #[x0, x1, x2, x3, x4, x5, x6, x7, x8, x9, x10, x11]) (.int .i64 1)).run Tryd.prog w = .ok (.agg #[x2, x3]) w := fun _ _ _ _ _ _ _ _ _ _ _ _ _ => by kernel_rfl
  have i2 : ∀ (x0 x1 x2 x3 x4 x5 x6 x7 x8 x9 x10 x11 : Value) (w : World), (Instr.index 134 (.agg #[x0, x1, x2, x3, x4, x5, x6, x7, x8, x9, x10, x11]) (.int .i64 2)).run Tryd.prog w = .ok (.agg #[x4, x5]) w := fun _ _ _ _ _ _ _ _ _ _ _ _ _ => by kernel_rfl
  have i3 : ∀ (x0 x1 x2 x3 x4 x5 x6 x7 x8 x9 x10 x11 : Value) (w : World), (Instr.index 134 (.agg #[x0, x1, x2, x3, x4, x5, x6, x7, x8, x9, x10, x11]) (.int .i64 3)).run Tryd.prog w = .ok (.agg #[x6, x7]) w := fun _ _ _ _ _ _ _ _ _ _ _ _ _ => by kernel_rfl
  have i4 : ∀ (x0 x1 x2 x3 x4 x5 x6 x7 x8 x9 x10 x11 : Value) (w : World), (Instr.index 134 (.agg #[x0, x1, x2, x3, x4, x5, x6, x7, x8, x9, x10, x11]) (.int .i64 4)).run Tryd.prog w = .ok (.agg #[x8, x9]) w := fun _ _ _ _ _ _ _ _ _ _ _ _ _ => by kernel_rfl
  have i5 : ∀ (x0 x1 x2 x3 x4 x5 x6 x7 x8 x9 x10 x11 : Value) (w : World), (Instr.index 134 (.agg #[x0, x1, x2, x3, x4, x5, x6, x7, x8, x9, x10, x11]) (.int .i64 5)).run Tryd.prog w = .ok (.agg #[x10, x11]) w := fun _ _ _ _ _ _ _ _ _ _ _ _ _ => by kernel_rfl
  have hB : Below w.heap.size w (w.alloc (.cells (hdrCs t i f g l p s d A n c) 83)) := ((Below.refl _ _).alloc (Nat.le_refl _) _)
  have hk := Blk.new w 83 (hdrCs t i f g l p s d A n c)
  go_enter Tryd.func75, Tryd.ntmps75
  go_wp2_with fail
  change Code.wp _ _ _ _ (w.alloc (.cells (hdrCs t i f g l p s d A n c) 83))
  generalize (w.alloc (.cells (hdrCs t i f g l p s d A n c) 83)) = w0 at *
  refine wp_loop_rounds 7 ?_
  have hb0 := hB.size
  have hkl := hk.lt
  have c8 : ∀ (o1 o2 o3 o4 o5 o6 : Obj), ((((((w0.alloc o1).alloc o2).alloc o3).alloc o4).alloc o5).alloc o6).cell? ⟨w.heap.size, 8, none⟩ = some (.slice A n c) := fun o1 o2 o3 o4 o5 o6 => ((((((hk.alloc o1).alloc o2).alloc o3).alloc o4).alloc o5).alloc o6).cellv 8 rfl
  repeat any_goals (rw [rounds_succ]; go_wp2_with fail)
  all_goals go_ret
  all_goals refine ⟨ret_bool ?_, ?_⟩
  all_goals first
    | (rw [Bool.eq_iff_iff]; simp [goodH, inH]; omega)
    | (repeat (first | exact hB | refine Below.alloc ?_ (by first | omega | (simp; done) | (simp; omega)) _))
end Go.Proofs.YthbfnppgaaeilaaDoor
