/- timer: slices.Clone at slots; Copy. -/
import Derived.Test.YtejgekoinbdhjaaTjJ
import Derived.Lib.LazyBuf
namespace Go.Proofs.Ytejgekoinbdhjaa
set_option linter.unusedVariables false
open Go Go.RowKit Go.Maps

theorem slo_lit (w : World) : Rows sloK (w.alloc (.cells #[] 198)) w.heap.size w.heap.size 198 (.slice (some ⟨w.heap.size, 0, none⟩) 0 0) [] :=
  ⟨by have := Own1.lit (base := w.heap.size) (et := 198) (size := 3) w #[] 0 (Nat.le_refl _) (Nat.zero_le _) rfl; exact this, by simp⟩
set_option maxRecDepth 100000 in
set_option maxHeartbeats 4000000 in
theorem cloneH_any (w : World) (A : Option Addr) (n c : Nat) (H : List Slo) (hS : Seen sloK w (fun b => b < w.heap.size) A n H) (hn : n ≤ 1000000) (h0 : A = none → n = 0) :
    Calls Try.prog 142 #[.slice A n c] w fun e w' => ∃ v, e = .returned v ∧ Rows sloK w' w.heap.size w.heap.size 198 v H ∧ Below w.heap.size w w' := by
  have heq := fun w => Go.run_eql_slice_nil (P := Try.prog) w 99 198 A n c Try.underlying99
  cases A with
  | none =>
    have hH : H = [] := List.eq_nil_of_length_eq_zero (by rw [hS.1]; exact h0 rfl)
    subst hH
    obtain rfl : n = 0 := h0 rfl
    go_enter Try.func142, Try.ntmps142
    go_wp2_with fail
    go_ret
    exact ⟨_, rfl, Rows.nil _ _ _ _, Below.refl _ _⟩
  | some a =>
    have hb1 := (Below.refl w.heap.size w).alloc (Nat.le_refl _) (.cells #[] 198)
    have hr0 := slo_lit w
    have hS1 := hS.below hb1 fun b q => q
    have hz1 := hb1.size
    go_enter Try.func142, Try.ntmps142
    go_wp2_with (at_builtin; refine wpList_rows slo_ok rfl (.tmp 5) (.tmp 6) rfl hr0 rfl rfl hS1 (fun _ _ => trivial) (by unfold maxLen; simp; omega) (by simp; omega) hz1 ?_; intro v4 w4 hv4 hg4)
    go_ret
    rw [List.nil_append] at hv4
    exact ⟨_, rfl, hv4, hb1.trans (hr0.below_app hg4 hz1)⟩
end Go.Proofs.Ytejgekoinbdhjaa
