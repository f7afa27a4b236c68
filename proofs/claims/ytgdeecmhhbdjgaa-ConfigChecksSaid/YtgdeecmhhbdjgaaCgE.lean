/- config: session.Good, speaker.Good, the document's; part 2. -/
import Derived.Test.YtgdeecmhhbdjgaaCgD
import Derived.Test.YtgdeecmhhbdjgaaCgG
namespace Go.Proofs.Ytgdeecmhhbdjgaa
set_option linter.unusedVariables false
open Go Go.RowKit Go.Maps

theorem isAs16_any (n : Int) (w : World) : Calls Try.prog 74 #[.int .i64 n] w fun e w' => e = .returned (.bool (rngB 1 65535 n)) ∧ w = w' := by
  go_enter Try.func74, Try.ntmps74
  go_wp2_with fail
  all_goals go_ret
  all_goals (refine ⟨ret_bool ?_, rfl⟩; unfold rngB; rw [Bool.eq_iff_iff]; simp <;> omega)
set_option maxRecDepth 100000 in
set_option maxHeartbeats 8000000 in
theorem sessGood_any (a p id ho re ro : Int) (w : World) : Calls Try.prog 61 #[.agg #[.int .i64 a, .int .i64 p, .int .u32 id, .int .i64 ho, .int .i64 re, .int .i64 ro]] w fun e w' => e = .returned (.bool (sessG a p id ho re ro)) ∧ Below w.heap.size w w' := by
  have hB := (Below.refl w.heap.size w).alloc (Nat.le_refl _) (.cells #[.int .i64 a, .int .i64 p, .int .u32 id, .int .i64 ho, .int .i64 re, .int .i64 ro] 45)
  have hq := Blk.new w 45 #[.int .i64 a, .int .i64 p, .int .u32 id, .int .i64 ho, .int .i64 re, .int .i64 ro]
  go_enter Try.func61, Try.ntmps61
  go_upto_region 1 with (fail)
  generalize w.alloc (.cells #[.int .i64 a, .int .i64 p, .int .u32 id, .int .i64 ho, .int .i64 re, .int .i64 ro] 45) = w1 at *
  have q0 : w1.cell? ⟨w.heap.size, 0, none⟩ = some (.int .i64 a) := hq.cellv 0 rfl
  have q1 : w1.cell? ⟨w.heap.size, 1, none⟩ = some (.int .i64 p) := hq.cellv 1 rfl
  have q2 : w1.cell? ⟨w.heap.size, 2, none⟩ = some (.int .u32 id) := hq.cellv 2 rfl
  have q3 : w1.cell? ⟨w.heap.size, 3, none⟩ = some (.int .i64 ho) := hq.cellv 3 rfl
  have q4 : w1.cell? ⟨w.heap.size, 4, none⟩ = some (.int .i64 re) := hq.cellv 4 rfl
  have q5 : w1.cell? ⟨w.heap.size, 5, none⟩ = some (.int .i64 ro) := hq.cellv 5 rfl
  have ql := hq.lt
  go_wp2_with (go_at_call 74; refine (isAs16_any _ _).mono ?_; rintro e w' ⟨rfl, rfl⟩)
  all_goals go_ret
  all_goals (refine ⟨ret_bool ?_, hB⟩; clear hB hq q0 q1 q2 q3 q4 q5 ql; unfold sessG rngB at *; first | (simp_all; done) | (simp_all; omega) | (simp at *; rw [Bool.eq_iff_iff]; simp; omega))
set_option maxRecDepth 100000 in
set_option maxHeartbeats 8000000 in
theorem refSessGood_any (a p id ho re ro : Int) (w : World) : Calls Try.prog 53 #[.agg #[.int .i64 a, .int .i64 p, .int .u32 id, .int .i64 ho, .int .i64 re, .int .i64 ro]] w fun e w' => e = .returned (.bool (sessG a p id ho re ro)) ∧ Below w.heap.size w w' := by
  have hB := (Below.refl w.heap.size w).alloc (Nat.le_refl _) (.cells #[.int .i64 a, .int .i64 p, .int .u32 id, .int .i64 ho, .int .i64 re, .int .i64 ro] 49)
  have hq := Blk.new w 49 #[.int .i64 a, .int .i64 p, .int .u32 id, .int .i64 ho, .int .i64 re, .int .i64 ro]
  go_enter Try.func53, Try.ntmps53
  go_upto_region 1 with (fail)
  generalize w.alloc (.cells #[.int .i64 a, .int .i64 p, .int .u32 id, .int .i64 ho, .int .i64 re, .int .i64 ro] 49) = w1 at *
  have q0 : w1.cell? ⟨w.heap.size, 0, none⟩ = some (.int .i64 a) := hq.cellv 0 rfl
  have q1 : w1.cell? ⟨w.heap.size, 1, none⟩ = some (.int .i64 p) := hq.cellv 1 rfl
  have q2 : w1.cell? ⟨w.heap.size, 2, none⟩ = some (.int .u32 id) := hq.cellv 2 rfl
  have q3 : w1.cell? ⟨w.heap.size, 3, none⟩ = some (.int .i64 ho) := hq.cellv 3 rfl
  have q4 : w1.cell? ⟨w.heap.size, 4, none⟩ = some (.int .i64 re) := hq.cellv 4 rfl
  have q5 : w1.cell? ⟨w.heap.size, 5, none⟩ = some (.int .i64 ro) := hq.cellv 5 rfl
  have ql := hq.lt
  go_wp2_with fail
  all_goals go_ret
  all_goals (refine ⟨ret_bool ?_, hB⟩; clear hB hq q0 q1 q2 q3 q4 q5 ql; unfold sessG rngB at *; first | (simp_all; done) | (simp_all; omega) | (simp at *; rw [Bool.eq_iff_iff]; simp; omega))
set_option maxRecDepth 100000 in
set_option maxHeartbeats 8000000 in
theorem spkGood_any (a p id ho re ro g : Int) (w : World) : Calls Try.prog 40 #[.agg #[.int .i64 a, .int .i64 p, .int .u32 id, .int .i64 ho, .int .i64 re, .int .i64 ro, .int .i64 g]] w fun e w' => e = .returned (.bool (sessG a p id ho re ro && rngB 0 65535 g)) ∧ Below w.heap.size w w' := by
  have hB := (Below.refl w.heap.size w).alloc (Nat.le_refl _) (.cells #[.int .i64 a, .int .i64 p, .int .u32 id, .int .i64 ho, .int .i64 re, .int .i64 ro, .int .i64 g] 47)
  have hq := Blk.new w 47 #[.int .i64 a, .int .i64 p, .int .u32 id, .int .i64 ho, .int .i64 re, .int .i64 ro, .int .i64 g]
  go_enter Try.func40, Try.ntmps40
  go_upto_region 1 with (fail)
  generalize w.alloc (.cells #[.int .i64 a, .int .i64 p, .int .u32 id, .int .i64 ho, .int .i64 re, .int .i64 ro, .int .i64 g] 47) = w1 at *
  have q0 : w1.cell? ⟨w.heap.size, 0, none⟩ = some (.int .i64 a) := hq.cellv 0 rfl
  have q1 : w1.cell? ⟨w.heap.size, 1, none⟩ = some (.int .i64 p) := hq.cellv 1 rfl
  have q2 : w1.cell? ⟨w.heap.size, 2, none⟩ = some (.int .u32 id) := hq.cellv 2 rfl
  have q3 : w1.cell? ⟨w.heap.size, 3, none⟩ = some (.int .i64 ho) := hq.cellv 3 rfl
  have q4 : w1.cell? ⟨w.heap.size, 4, none⟩ = some (.int .i64 re) := hq.cellv 4 rfl
  have q5 : w1.cell? ⟨w.heap.size, 5, none⟩ = some (.int .i64 ro) := hq.cellv 5 rfl
  have q6 : w1.cell? ⟨w.heap.size, 6, none⟩ = some (.int .i64 g) := hq.cellv 6 rfl
  have ql := hq.lt
  have hS := fun w => sessGood_any a p id ho re ro w
  obtain ⟨B, hBe⟩ : ∃ B, sessG a p id ho re ro = B := ⟨_, rfl⟩
  rw [hBe] at hS
  replace hBe := Lib.hid hBe
  go_wp2_with (go_at_call 61; refine (hS _).mono ?_; rintro e w2 ⟨rfl, hb⟩; have hq := hq.below hb hq.lt; have hB := hB.trans (hb.mono hB.size); have q6 : w2.cell? ⟨w.heap.size, 6, none⟩ = some (.int .i64 g) := hq.cellv 6 rfl; have ql := hq.lt; cases B)
  all_goals go_ret
  all_goals (refine ⟨ret_bool ?_, hB⟩; rw [hBe.out]; unfold rngB; first | (simp; done) | (rw [Bool.eq_iff_iff]; simp; omega))
end Go.Proofs.Ytgdeecmhhbdjgaa
