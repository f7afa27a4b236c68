/- ip: Good of a header of many options; IpGoesOn. -/
import Derived.Test.YtlkammmadchjnaaIpU
import Derived.LoopTactic
namespace Go.Proofs.Ytlkammmadchjnaa
set_option linter.unusedVariables false
open Go.RowKit

set_option maxHeartbeats 4000000 in
theorem ipGood_big (t i f g l p s d : Int) (A : Option Addr) (n c : Nat) (w : World) (hn : 40 < n) (hn2 : n ≤ 9223372036854775807) :
    Calls Try.prog 8 #[.agg #[.int .i64 t, .int .i64 i, .int .i64 f, .int .i64 g, .int .i64 l, .int .i64 p, .int .u32 s, .int .u32 d, .slice A n c]] w fun e w' => e = .returned (.bool (goodH t i f g l p n)) ∧ Below w.heap.size w w' := by
  have i0 : ∀ (x0 x1 x2 x3 x4 x5 x6 x7 x8 x9 x10 x11 : Value) (w : World), (Instr.index 52 (.agg #[x0, x1, x2, x3, x4, x5, x6, x7, x8, x9, x10, x11]) (.int .i64 0)).run Try.prog w = .ok (.agg #[x0, x1]) w := fun _ _ _ _ _ _ _ _ _ _ _ _ _ => by kernel_rfl
  have i1 : ∀ (x0 x1 x2 x3 x4 x5 x6 x7 x8 x9 x10 x11 : Value) (w : World), (Instr.index 52 (.agg #[x0, x1, x2, x3, x4, x5, x6, x7, x8, x9, x10, x11]) (.int .i64 1)).run Try.prog w = .ok (.agg #[x2, x3]) w := fun _ _ _ _ _ _ _ _ _ _ _ _ _ => by kernel_rfl
  have i2 : ∀ (x0 x1 x2 x3 x4 x5 x6 x7 x8 x9 x10 x11 : Value) (w : World), (Instr.index 52 (.agg #[x0, x1, x2, x3, x4, x5, x6, x7, x8, x9, x10, x11]) (.int .i64 2)).run Try.prog w = .ok (.agg #[x4, x5]) w := fun _ _ _ _ _ _ _ _ _ _ _ _ _ => by kernel_rfl
  have i3 : ∀ (x0 x1 x2 x3 x4 x5 x6 x7 x8 x9 x10 x11 : Value) (w : World), (Instr.index 52 (.agg #[x0, x1, x2, x3, x4, x5, x6, x7, x8, x9, x10, x11]) (.int .i64 3)).run Try.prog w = .ok (.agg #[x6, x7]) w := fun _ _ _ _ _ _ _ _ _ _ _ _ _ => by kernel_rfl
  have i4 : ∀ (x0 x1 x2 x3 x4 x5 x6 x7 x8 x9 x10 x11 : Value) (w : World), (Instr.index 52 (.agg #[x0, x1, x2, x3, x4, x5, x6, x7, x8, x9, x10, x11]) (.int .i64 4)).run Try.prog w = .ok (.agg #[x8, x9]) w := fun _ _ _ _ _ _ _ _ _ _ _ _ _ => by kernel_rfl
  have i5 : ∀ (x0 x1 x2 x3 x4 x5 x6 x7 x8 x9 x10 x11 : Value) (w : World), (Instr.index 52 (.agg #[x0, x1, x2, x3, x4, x5, x6, x7, x8, x9, x10, x11]) (.int .i64 5)).run Try.prog w = .ok (.agg #[x10, x11]) w := fun _ _ _ _ _ _ _ _ _ _ _ _ _ => by kernel_rfl
  have hB : Below w.heap.size w (w.alloc (.cells (hdrCs t i f g l p s d A n c) 25)) := ((Below.refl _ _).alloc (Nat.le_refl _) _)
  have hk := Blk.new w 25 (hdrCs t i f g l p s d A n c)
  go_enter Try.func8, Try.ntmps8
  go_wp2_with fail
  change Code.wp _ _ _ _ (w.alloc (.cells (hdrCs t i f g l p s d A n c) 25))
  generalize (w.alloc (.cells (hdrCs t i f g l p s d A n c) 25)) = w0 at *
  refine wp_loop_rounds 7 ?_
  have hb0 := hB.size
  have hkl := hk.lt
  have c8 : ∀ (o1 o2 o3 o4 o5 o6 : Obj), ((((((w0.alloc o1).alloc o2).alloc o3).alloc o4).alloc o5).alloc o6).cell? ⟨w.heap.size, 8, none⟩ = some (.slice A n c) := fun o1 o2 o3 o4 o5 o6 => ((((((hk.alloc o1).alloc o2).alloc o3).alloc o4).alloc o5).alloc o6).cellv 8 rfl
  repeat any_goals (rw [rounds_succ]; go_wp2_with fail)
  all_goals go_ret
  all_goals refine ⟨ret_bool ?_, ?_⟩
  all_goals first
    | (rw [Bool.eq_iff_iff]; simp [goodH, inH]; omega)
    | (repeat (first | exact hB | refine Below.alloc ?_ (by first | omega | (simp; done) | (simp; omega)) _))
theorem goodH_big (t i f g l p : Int) {n : Nat} (h : 40 < n) : goodH t i f g l p n = false := by unfold goodH; rw [Bool.eq_false_iff]; simp; omega
end Go.Proofs.Ytlkammmadchjnaa
