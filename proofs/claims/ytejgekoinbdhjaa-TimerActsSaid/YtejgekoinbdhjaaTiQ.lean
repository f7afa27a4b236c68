/- timer: Skip and Copy of a table that no call made; TimerNone. -/
import Derived.Test.YtejgekoinbdhjaaTiP
import Derived.Test.YtejgekoinbdhjaaTiH
namespace Go.Proofs.Ytejgekoinbdhjaa
set_option linter.unusedVariables false
open Go Go.RowKit Go.Maps

set_option maxRecDepth 100000 in
set_option maxHeartbeats 2000000 in
theorem tSkipNil (w : World)  (n : Int) (hn : n ≤ 2000) : Calls Try.prog 64 #[.pointer none, .int .i64 n] w fun e w' => ∃ A c, e = .returned (.slice A 0 c) ∧ Below w.heap.size w w' := by
  by_cases hn0 : n < 0
  · have d1 : decide ((0 : Int) ≤ n) = false := by simp; omega
    go_enter Try.func64, Try.ntmps64
    go_wp2_with fail
    refine wp_loop_rounds 1 ?_
    rw [rounds_succ]
    go_wp2_with fail
    go_ret
    exact ⟨_, _, rfl, Below.refl _ _⟩
  obtain ⟨m, rfl⟩ : ∃ m : Nat, n = (m : Int) := ⟨n.toNat, by omega⟩
  have d1 : (0 : Int) ≤ (m : Int) := by omega
  have d3 : decide ((m : Int) < 0) = false := by simp
  have d2 : (m : Int) ≤ 100000 := by omega
  have hm2 : m ≤ 2000 := by omega
  clear hn hn0
  have hr0 := Rows.nil (R := intK) w 0 0 3
  go_enter Try.func64, Try.ntmps64
  go_wp2_with fail
  go_loopw [5, 9] (fun lv i wr => ∃ k : Nat, k ≤ m ∧ i = .int .i64 (k : Int) ∧ Rows intK wr w.heap.size w.heap.size 3 lv [] ∧ Below w.heap.size w wr) (fun _ i _ => m - (intOf i).toNat)
  case atStart => exact ⟨0, Nat.zero_le _, rfl, Rows.nil _ _ _ _, Below.refl _ _⟩
  case round =>
  obtain ⟨k, hk, rfl, hrow, hB⟩ := hrel
  have hz := hB.size
  by_cases hlt : k < m
  · have hki : (k : Int) < (m : Int) := by omega
    go_wp2_with (first
      | (go_at_call 55; refine (tTickNil wr).mono ?_; rintro e w' ⟨rfl, rfl⟩)
      | (at_builtin; refine wpList_rows int_ok rfl (.tmp 11) (.tmp 13) rfl hrow rfl rfl (Seen.none_ (S := fun _ => False)) (by simp) (by unfold maxLen; simp) (by simp) hz ?_; intro v6 w6 hrow6 hg6))
    have hB6 := hB.grown hg6 hz (fun j e => (hrow.1.lt j e).1)
    exact ⟨⟨k + 1, by omega, by go_num, hrow6, hB6⟩, by simp [intOf]; omega⟩
  · obtain rfl : k = m := by omega
    obtain ⟨A0, c0, rfl, -, -, -⟩ := hrow.seen (Nat.le_refl _)
    go_wp2_with fail
    go_ret
    exact ⟨_, _, rfl, hB⟩
set_option maxRecDepth 100000 in
set_option maxHeartbeats 2000000 in
theorem tSkipZero (w : World) (g : Nat) (mo no co : Int) (v : Value) (h : Blk w g 101 #[.int .i64 mo, .int .i64 no, .int .i64 co, .map none, v]) (n : Int) (hn : n ≤ 2000) : Calls Try.prog 64 #[.pointer (some ⟨g, 0, none⟩), .int .i64 n] w fun e w' => ∃ A c, e = .returned (.slice A 0 c) ∧ Below w.heap.size w w' := by
  by_cases hn0 : n < 0
  · have d1 : decide ((0 : Int) ≤ n) = false := by simp; omega
    go_enter Try.func64, Try.ntmps64
    go_wp2_with fail
    refine wp_loop_rounds 1 ?_
    rw [rounds_succ]
    go_wp2_with fail
    go_ret
    exact ⟨_, _, rfl, Below.refl _ _⟩
  obtain ⟨m, rfl⟩ : ∃ m : Nat, n = (m : Int) := ⟨n.toNat, by omega⟩
  have d1 : (0 : Int) ≤ (m : Int) := by omega
  have d3 : decide ((m : Int) < 0) = false := by simp
  have d2 : (m : Int) ≤ 100000 := by omega
  have hm2 : m ≤ 2000 := by omega
  clear hn hn0
  have hr0 := Rows.nil (R := intK) w 0 0 3
  go_enter Try.func64, Try.ntmps64
  go_wp2_with fail
  go_loopw [5, 9] (fun lv i wr => ∃ k : Nat, k ≤ m ∧ i = .int .i64 (k : Int) ∧ Rows intK wr w.heap.size w.heap.size 3 lv [] ∧ Below w.heap.size w wr) (fun _ i _ => m - (intOf i).toNat)
  case atStart => exact ⟨0, Nat.zero_le _, rfl, Rows.nil _ _ _ _, Below.refl _ _⟩
  case round =>
  obtain ⟨k, hk, rfl, hrow, hB⟩ := hrel
  have hr := h.below hB h.lt
  have hz := hB.size
  by_cases hlt : k < m
  · have hki : (k : Int) < (m : Int) := by omega
    go_wp2_with (first
      | (go_at_call 55; refine (tTickZero wr g mo no co v hr).mono ?_; rintro e w' ⟨rfl, rfl⟩)
      | (at_builtin; refine wpList_rows int_ok rfl (.tmp 11) (.tmp 13) rfl hrow rfl rfl (Seen.none_ (S := fun _ => False)) (by simp) (by unfold maxLen; simp) (by simp) hz ?_; intro v6 w6 hrow6 hg6))
    have hB6 := hB.grown hg6 hz (fun j e => (hrow.1.lt j e).1)
    exact ⟨⟨k + 1, by omega, by go_num, hrow6, hB6⟩, by simp [intOf]; omega⟩
  · obtain rfl : k = m := by omega
    obtain ⟨A0, c0, rfl, -, -, -⟩ := hrow.seen (Nat.le_refl _)
    go_wp2_with fail
    go_ret
    exact ⟨_, _, rfl, hB⟩
end Go.Proofs.Ytejgekoinbdhjaa
