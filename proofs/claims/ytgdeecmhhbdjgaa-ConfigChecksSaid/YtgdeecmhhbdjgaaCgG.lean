/- policy: the document's Good (a namespace of its own). -/
import Derived.Test.YtgdeecmhhbdjgaaPol
import Derived.Test.YtgdeecmhhbdjgaaLate
import Derived.BigGuardPart
import Derived.Deep.Cut
namespace Go.Proofs.Ytgdeecmhhbdjgaa.pl
set_option linter.unusedVariables false
open Go Go.RowKit

theorem refHop_any (h : Int) (w : World) (h0 : 0 ≤ h) (h1 : h ≤ 4294967295) : Calls Try.prog 55 #[.int .u32 h] w fun e w' => e = .returned (.bool (hopV h)) ∧ w = w' := by
  go_enter Try.func55, Try.ntmps55
  go_wp2_with fail
  all_goals go_ret
  all_goals (refine ⟨ret_bool ?_, rfl⟩; simp_all [hopV])
set_option maxRecDepth 100000 in
set_option maxHeartbeats 8000000 in
theorem refGood17_any (s h m p b : Int) (w : World) (h0 : 0 ≤ h) (h1 : h ≤ 4294967295) : Calls Try.prog 54 #[.agg #[.int .i64 s, .int .u32 h, .int .i64 m, .int .i64 p, .int .i64 b]] w fun e w' => e = .returned (.bool (goodV s h m p b)) ∧ Below w.heap.size w w' := by
  have hB := (Below.refl w.heap.size w).alloc (Nat.le_refl _) (.cells #[.int .i64 s, .int .u32 h, .int .i64 m, .int .i64 p, .int .i64 b] 53)
  have hq := Blk.new w 53 #[.int .i64 s, .int .u32 h, .int .i64 m, .int .i64 p, .int .i64 b]
  go_enter Try.func54, Try.ntmps54
  go_upto_region 1 with (fail)
  generalize w.alloc (.cells #[.int .i64 s, .int .u32 h, .int .i64 m, .int .i64 p, .int .i64 b] 53) = w1 at *
  have lt0 := hq.lt
  have q0 : w1.cell? ⟨w.heap.size, 0, none⟩ = some (.int .i64 s) := hq.cellv 0 rfl
  have q1 : w1.cell? ⟨w.heap.size, 1, none⟩ = some (.int .u32 h) := hq.cellv 1 rfl
  have q2 : w1.cell? ⟨w.heap.size, 2, none⟩ = some (.int .i64 m) := hq.cellv 2 rfl
  have q3 : w1.cell? ⟨w.heap.size, 3, none⟩ = some (.int .i64 p) := hq.cellv 3 rfl
  have q4 : w1.cell? ⟨w.heap.size, 4, none⟩ = some (.int .i64 b) := hq.cellv 4 rfl
  cases eh : hopV h
  · skip
    by_cases e_0 : 0 ≤ m
    rotate_left
    · have k9 : m < 0 := by omega
      have ev : goodV s h m p b = false := by unfold goodV; simp [inV, *] <;> omega
      replace ev := Lib.hid ev
      go_wp2_with (go_at_call 55; refine (refHop_any _ _ h0 h1).mono ?_; rintro e w' ⟨rfl, rfl⟩; rw [eh])
      go_ret
      exact ⟨ret_bool (by first | exact ev.out.symm | (rw [ev.out]; simp; omega)), hB⟩
    by_cases e_1 : m ≤ 4294967295
    rotate_left
    · have k9 : 4294967295 < m := by omega
      have ev : goodV s h m p b = false := by unfold goodV; simp [inV, *] <;> omega
      replace ev := Lib.hid ev
      go_wp2_with (go_at_call 55; refine (refHop_any _ _ h0 h1).mono ?_; rintro e w' ⟨rfl, rfl⟩; rw [eh])
      go_ret
      exact ⟨ret_bool (by first | exact ev.out.symm | (rw [ev.out]; simp; omega)), hB⟩
    by_cases e_2 : 0 ≤ b
    rotate_left
    · have k9 : b < 0 := by omega
      have ev : goodV s h m p b = false := by unfold goodV; simp [inV, *] <;> omega
      replace ev := Lib.hid ev
      go_wp2_with (go_at_call 55; refine (refHop_any _ _ h0 h1).mono ?_; rintro e w' ⟨rfl, rfl⟩; rw [eh])
      go_ret
      exact ⟨ret_bool (by first | exact ev.out.symm | (rw [ev.out]; simp; omega)), hB⟩
    by_cases e_3 : b ≤ 4294967295
    rotate_left
    · have k9 : 4294967295 < b := by omega
      have ev : goodV s h m p b = false := by unfold goodV; simp [inV, *] <;> omega
      replace ev := Lib.hid ev
      go_wp2_with (go_at_call 55; refine (refHop_any _ _ h0 h1).mono ?_; rintro e w' ⟨rfl, rfl⟩; rw [eh])
      go_ret
      exact ⟨ret_bool (by first | exact ev.out.symm | (rw [ev.out]; simp; omega)), hB⟩
    by_cases e_4 : 1 ≤ s
    rotate_left
    · have k9 : s < 1 := by omega
      have ev : goodV s h m p b = false := by unfold goodV; simp [inV, *] <;> omega
      replace ev := Lib.hid ev
      go_wp2_with (go_at_call 55; refine (refHop_any _ _ h0 h1).mono ?_; rintro e w' ⟨rfl, rfl⟩; rw [eh])
      go_ret
      exact ⟨ret_bool (by first | exact ev.out.symm | (rw [ev.out]; simp; omega)), hB⟩
    by_cases e_5 : s ≤ 65535
    rotate_left
    · have k9 : 65535 < s := by omega
      have ev : goodV s h m p b = false := by unfold goodV; simp [inV, *] <;> omega
      replace ev := Lib.hid ev
      go_wp2_with (go_at_call 55; refine (refHop_any _ _ h0 h1).mono ?_; rintro e w' ⟨rfl, rfl⟩; rw [eh])
      go_ret
      exact ⟨ret_bool (by first | exact ev.out.symm | (rw [ev.out]; simp; omega)), hB⟩
    have ev : goodV s h m p b = false := by unfold goodV; simp [inV, *] <;> omega
    replace ev := Lib.hid ev
    go_wp2_with (go_at_call 55; refine (refHop_any _ _ h0 h1).mono ?_; rintro e w' ⟨rfl, rfl⟩; rw [eh])
    go_ret
    exact ⟨ret_bool (by first | exact ev.out.symm | (rw [ev.out]; simp; omega)), hB⟩
  · skip
    by_cases e_0 : 0 ≤ m
    rotate_left
    · have k9 : m < 0 := by omega
      have ev : goodV s h m p b = false := by unfold goodV; simp [inV, *] <;> omega
      replace ev := Lib.hid ev
      go_wp2_with (go_at_call 55; refine (refHop_any _ _ h0 h1).mono ?_; rintro e w' ⟨rfl, rfl⟩; rw [eh])
      go_ret
      exact ⟨ret_bool (by first | exact ev.out.symm | (rw [ev.out]; simp; omega)), hB⟩
    by_cases e_1 : m ≤ 4294967295
    rotate_left
    · have k9 : 4294967295 < m := by omega
      have ev : goodV s h m p b = false := by unfold goodV; simp [inV, *] <;> omega
      replace ev := Lib.hid ev
      go_wp2_with (go_at_call 55; refine (refHop_any _ _ h0 h1).mono ?_; rintro e w' ⟨rfl, rfl⟩; rw [eh])
      go_ret
      exact ⟨ret_bool (by first | exact ev.out.symm | (rw [ev.out]; simp; omega)), hB⟩
    by_cases e_2 : 0 ≤ b
    rotate_left
    · have k9 : b < 0 := by omega
      have ev : goodV s h m p b = false := by unfold goodV; simp [inV, *] <;> omega
      replace ev := Lib.hid ev
      go_wp2_with (go_at_call 55; refine (refHop_any _ _ h0 h1).mono ?_; rintro e w' ⟨rfl, rfl⟩; rw [eh])
      go_ret
      exact ⟨ret_bool (by first | exact ev.out.symm | (rw [ev.out]; simp; omega)), hB⟩
    by_cases e_3 : b ≤ 4294967295
    rotate_left
    · have k9 : 4294967295 < b := by omega
      have ev : goodV s h m p b = false := by unfold goodV; simp [inV, *] <;> omega
      replace ev := Lib.hid ev
      go_wp2_with (go_at_call 55; refine (refHop_any _ _ h0 h1).mono ?_; rintro e w' ⟨rfl, rfl⟩; rw [eh])
      go_ret
      exact ⟨ret_bool (by first | exact ev.out.symm | (rw [ev.out]; simp; omega)), hB⟩
    by_cases e_4 : 1 ≤ s
    rotate_left
    · have k9 : s < 1 := by omega
      have ev : goodV s h m p b = false := by unfold goodV; simp [inV, *] <;> omega
      replace ev := Lib.hid ev
      go_wp2_with (go_at_call 55; refine (refHop_any _ _ h0 h1).mono ?_; rintro e w' ⟨rfl, rfl⟩; rw [eh])
      go_ret
      exact ⟨ret_bool (by first | exact ev.out.symm | (rw [ev.out]; simp; omega)), hB⟩
    by_cases e_5 : s ≤ 65535
    rotate_left
    · have k9 : 65535 < s := by omega
      have ev : goodV s h m p b = false := by unfold goodV; simp [inV, *] <;> omega
      replace ev := Lib.hid ev
      go_wp2_with (go_at_call 55; refine (refHop_any _ _ h0 h1).mono ?_; rintro e w' ⟨rfl, rfl⟩; rw [eh])
      go_ret
      exact ⟨ret_bool (by first | exact ev.out.symm | (rw [ev.out]; simp; omega)), hB⟩
    by_cases e_7 : 0 ≤ p
    rotate_left
    · have k9 : p < 0 := by omega
      have ev : goodV s h m p b = false := by unfold goodV; simp [inV, *] <;> omega
      replace ev := Lib.hid ev
      go_wp2_with (go_at_call 55; refine (refHop_any _ _ h0 h1).mono ?_; rintro e w' ⟨rfl, rfl⟩; rw [eh])
      go_ret
      exact ⟨ret_bool (by first | exact ev.out.symm | (rw [ev.out]; simp; omega)), hB⟩
    by_cases e_8 : p ≤ 15
    rotate_left
    · have k9 : 15 < p := by omega
      have ev : goodV s h m p b = false := by unfold goodV; simp [inV, *] <;> omega
      replace ev := Lib.hid ev
      go_wp2_with (go_at_call 55; refine (refHop_any _ _ h0 h1).mono ?_; rintro e w' ⟨rfl, rfl⟩; rw [eh])
      go_ret
      exact ⟨ret_bool (by first | exact ev.out.symm | (rw [ev.out]; simp; omega)), hB⟩
    have ev : goodV s h m p b = true := by unfold goodV; simp [inV, *] <;> omega
    replace ev := Lib.hid ev
    go_wp2_with (go_at_call 55; refine (refHop_any _ _ h0 h1).mono ?_; rintro e w' ⟨rfl, rfl⟩; rw [eh])
    go_ret
    exact ⟨ret_bool (by first | exact ev.out.symm | (rw [ev.out]; simp; omega)), hB⟩
end Go.Proofs.Ytgdeecmhhbdjgaa.pl
