/- flows: New, Len, Counts, gone. -/
import Derived.Test.YtgdeecmhhbdjgaaFlD
namespace Go.Proofs.Ytgdeecmhhbdjgaa
set_option linter.unusedVariables false
open Go Go.RowKit Go.Maps

def ze : EnV := ⟨⟨0, 0, 0, 0, 0⟩, 0, 0⟩
set_option maxRecDepth 100000 in
set_option maxHeartbeats 2000000 in
theorem newF_in (w : World) (ro idl : Int) (h1 : 1 ≤ ro) (h2 : ro ≤ 1024) (h3 : 1 ≤ idl) (h4 : idl ≤ 1000000) :
    Calls Try.prog 52 #[.int .i64 ro, .int .i64 idl] w fun en w' => ∃ g m e, en = .returned (.pointer (some ⟨g, 0, none⟩)) ∧ RingV w' g m e ro idl 0 0 0 [] (fun _ => ze) (fun _ => e) (fun _ => e) ∧ w.heap.size ≤ g ∧ w.heap.size ≤ m ∧ w.heap.size ≤ e ∧ Below w.heap.size w w' := by
  have d1 : decide (ro < 1) = false := by simp; omega
  have d2 : decide (1024 < ro) = false := by simp; omega
  have d3 : decide (idl < 1) = false := by simp; omega
  have d4 : decide (1000000 < idl) = false := by simp; omega
  have hB := (Below.refl w.heap.size w).alloc (Nat.le_refl _) (.cells #[.int .i64 0, .int .u32 0, .int .u32 0, .int .i64 0, .int .i64 0, .int .i64 0, .int .i64 0, .pointer none, .pointer none] 163)
  have hq := Blk.new w 163 #[.int .i64 0, .int .u32 0, .int .u32 0, .int .i64 0, .int .i64 0, .int .i64 0, .int .i64 0, .pointer none, .pointer none]
  go_enter Try.func52, Try.ntmps52
  go_upto_region 4 with (fail)
  generalize w.alloc (.cells #[.int .i64 0, .int .u32 0, .int .u32 0, .int .i64 0, .int .i64 0, .int .i64 0, .int .i64 0, .pointer none, .pointer none] 163) = w1 at *
  have lte := hq.lt
  have e7 : w1.cell? ⟨w.heap.size, 7, none⟩ = some (.pointer none) := hq.cellv 7 rfl
  have e8 : w1.cell? ⟨w.heap.size, 8, none⟩ = some (.pointer none) := hq.cellv 8 rfl
  have f7 := hq.frozen 7
  have f8 := hq.frozen 8
  obtain ⟨q1, g1⟩ := blk_store hq 7 (.pointer (some ⟨w.heap.size, 0, none⟩))
  obtain ⟨q2, g2⟩ := blk_store q1 8 (.pointer (some ⟨w.heap.size, 0, none⟩))
  have hB2 := below_own (below_own hB g1 hB.size (Nat.le_refl _)) g2 (Nat.le_trans hB.size g1.size) (Nat.le_refl _)
  replace q2 := Lib.hid q2
  replace hB2 := Lib.hid hB2
  clear q1 g1 g2 hB
  go_upto_region 5 with (fail)
  replace q2 := q2.out
  replace hB2 := hB2.out
  clear e7 e8 f7 f8 lte hq
  generalize World.setCell _ _ _ = w2 at *
  have hz2 := hB2.size
  have lte := q2.lt
  have hq3 := (q2.alloc (.map #[] 0)).alloc (.cells (tabC ro idl 0 w2.heap.size w.heap.size 0 0) 166)
  have hm := (Ent.made (P := Try.prog) (K := 159) w2).alloc (.cells (tabC ro idl 0 w2.heap.size w.heap.size 0 0) 166)
  have ht := Blk.new (w2.alloc (.map #[] 0)) 166 (tabC ro idl 0 w2.heap.size w.heap.size 0 0)
  have hB3 := (hB2.alloc hz2 (.map #[] 0)).alloc (by simp; omega) (.cells (tabC ro idl 0 w2.heap.size w.heap.size 0 0) 166)
  rw [show (w2.alloc (.map #[] 0)).heap.size = w2.heap.size + 1 by simp] at ht
  replace hq3 := Lib.hid hq3
  replace hm := Lib.hid hm
  replace ht := Lib.hid ht
  replace hB3 := Lib.hid hB3
  go_wp2_with fail
  go_ret
  refine ⟨w2.heap.size + 1, w2.heap.size, w.heap.size, rfl, ⟨ht.out, fun k hk => ?_, ⟨rfl, rfl, trivial⟩, by simp, ⟨[], hm.out, .nil⟩, by simp⟩, by omega, by omega, Nat.le_refl _, hB3.out⟩
  rw [List.mem_singleton] at hk
  subst hk
  exact hq3.out
end Go.Proofs.Ytgdeecmhhbdjgaa
