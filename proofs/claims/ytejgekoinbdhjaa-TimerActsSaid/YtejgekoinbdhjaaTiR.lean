/- timer: TimerNone: the law is true of every act. -/
import Derived.Test.YtejgekoinbdhjaaTiQ
namespace Go.Proofs.Ytejgekoinbdhjaa
set_option linter.unusedVariables false
open Go Go.RowKit Go.Maps

set_option maxRecDepth 100000 in
set_option maxHeartbeats 4000000 in
theorem none13_walk (k id n : Int) (w : World) (_w1 : (Lit.int .i64 k).wf = true) (_w2 : (Lit.int .i64 id).wf = true) (_w3 : (Lit.int .i64 n).wf = true) : Calls Try.prog 11 #[.agg #[.int .i64 k, .int .i64 id, .int .i64 n]] w fun e w' => e = .returned (.bool true) ∧ Below w.heap.size w w' := by
  have i0 : ∀ (x0 x1 : Value) (w : World), (Instr.index 102 (.agg #[x0, x1]) (.int .i64 0)).run Try.prog w = .ok x0 w := fun _ _ _ => by kernel_rfl
  have i1 : ∀ (x0 x1 : Value) (w : World), (Instr.index 102 (.agg #[x0, x1]) (.int .i64 1)).run Try.prog w = .ok x1 w := fun _ _ _ => by kernel_rfl
  have hB1 := (Below.refl w.heap.size w).alloc (Nat.le_refl _) (.cells #[.int .i64 k, .int .i64 id, .int .i64 n] 97)
  have ha := Blk.new w 97 #[.int .i64 k, .int .i64 id, .int .i64 n]
  go_enter Try.func11, Try.ntmps11
  go_upto_region 1 with (fail)
  generalize w.alloc (.cells #[.int .i64 k, .int .i64 id, .int .i64 n] 97) = w1 at *
  have hB2 := hB1.alloc hB1.size (.cells #[.int .i64 0, .int .i64 0, .int .i64 0, .map none, .slice none 0 0] 101)
  have hp := Blk.new w1 101 #[.int .i64 0, .int .i64 0, .int .i64 0, .map none, .slice none 0 0]
  have ha2 := ha.alloc (.cells #[.int .i64 0, .int .i64 0, .int .i64 0, .map none, .slice none 0 0] 101)
  go_upto_region 2 with (fail)
  generalize w1.alloc (.cells #[.int .i64 0, .int .i64 0, .int .i64 0, .map none, .slice none 0 0] 101) = w2 at *
  have ltp := hp.lt
  have lta := ha2.lt
  have a1 : w2.cell? ⟨w.heap.size, 1, none⟩ = some (.int .i64 id) := ha2.cellv 1 rfl
  have a2 : w2.cell? ⟨w.heap.size, 2, none⟩ = some (.int .i64 n) := ha2.cellv 2 rfl
  go_wp2_with fail
  refine wp_loop_rounds 3 ?_
  change Code.rounds _ _ _ _ _ w2
  by_cases hn : n ≤ 2000
  rotate_left
  · have d1 : decide (n ≤ 2000) = false := by simpa using hn
    rw [rounds_succ]
    go_wp2_with (first
      | (go_at_call 59; refine (tWhenNil _ id).mono ?_; rintro e w5 ⟨rfl, rfl⟩)
      | (go_at_call 60; refine (tNextNil _ ).mono ?_; rintro e w5 ⟨rfl, rfl⟩)
      | (go_at_call 54; refine (tArmNil _ id n).mono ?_; rintro e w5 ⟨rfl, rfl⟩)
      | (go_at_call 61; refine (tCancelNil _ id).mono ?_; rintro e w5 ⟨rfl, rfl⟩)
      | (go_at_call 55; refine (tTickNil _ ).mono ?_; rintro e w5 ⟨rfl, rfl⟩)
      | (go_at_call 62; refine (tArmedNil _ ).mono ?_; rintro e w5 ⟨rfl, rfl⟩)
      | (go_at_call 63; refine (tNowNil _ ).mono ?_; rintro e w5 ⟨rfl, rfl⟩)
      | (go_at_call 56; refine (tLenNil _ ).mono ?_; rintro e w5 ⟨rfl, rfl⟩)
      | (go_at_call 65; refine (tCopyNil _ ).mono ?_; rintro e w5 ⟨rfl, rfl⟩)
      )
    rw [rounds_succ]
    go_wp2_with (first
      | (go_at_call 59; refine (tWhenZero _ _ 0 0 0 (.slice none 0 0) hp id).mono ?_; rintro e w5 ⟨rfl, rfl⟩)
      | (go_at_call 60; refine (tNextZero _ _ 0 0 0 (.slice none 0 0) hp ).mono ?_; rintro e w5 ⟨rfl, rfl⟩)
      | (go_at_call 54; refine (tArmZero _ _ 0 0 0 (.slice none 0 0) hp id n).mono ?_; rintro e w5 ⟨rfl, rfl⟩)
      | (go_at_call 61; refine (tCancelZero _ _ 0 0 0 (.slice none 0 0) hp id).mono ?_; rintro e w5 ⟨rfl, rfl⟩)
      | (go_at_call 55; refine (tTickZero _ _ 0 0 0 (.slice none 0 0) hp ).mono ?_; rintro e w5 ⟨rfl, rfl⟩)
      | (go_at_call 62; refine (tArmedZero _ _ 0 0 0 (.slice none 0 0) hp ).mono ?_; rintro e w5 ⟨rfl, rfl⟩)
      | (go_at_call 63; refine (tNowZero _ _ 0 0 0 (.slice none 0 0) hp ).mono ?_; rintro e w5 ⟨rfl, rfl⟩)
      | (go_at_call 56; refine (tLenZero _ _ 0 0 0 (.slice none 0 0) hp ).mono ?_; rintro e w5 ⟨rfl, rfl⟩)
      | (go_at_call 65; refine (tCopyZero _ _ 0 0 0 (.slice none 0 0) hp ).mono ?_; rintro e w5 ⟨rfl, rfl⟩)
      )
    rw [rounds_succ]
    go_wp2_with (go_at_call 52; refine (lives13_any _).mono ?_; rintro e w6 ⟨rfl, hb⟩)
    go_ret
    exact ⟨rfl, hB2.trans (hb.mono hB2.size)⟩
  rw [rounds_succ]
  go_wp2_with (first
    | (go_at_call 59; refine (tWhenNil _ id).mono ?_; rintro e w5 ⟨rfl, rfl⟩)
    | (go_at_call 60; refine (tNextNil _ ).mono ?_; rintro e w5 ⟨rfl, rfl⟩)
    | (go_at_call 54; refine (tArmNil _ id n).mono ?_; rintro e w5 ⟨rfl, rfl⟩)
    | (go_at_call 61; refine (tCancelNil _ id).mono ?_; rintro e w5 ⟨rfl, rfl⟩)
    | (go_at_call 55; refine (tTickNil _ ).mono ?_; rintro e w5 ⟨rfl, rfl⟩)
    | (go_at_call 62; refine (tArmedNil _ ).mono ?_; rintro e w5 ⟨rfl, rfl⟩)
    | (go_at_call 63; refine (tNowNil _ ).mono ?_; rintro e w5 ⟨rfl, rfl⟩)
    | (go_at_call 56; refine (tLenNil _ ).mono ?_; rintro e w5 ⟨rfl, rfl⟩)
    | (go_at_call 65; refine (tCopyNil _ ).mono ?_; rintro e w5 ⟨rfl, rfl⟩)
    | (go_at_call 64; refine (tSkipNil _ n hn).mono ?_; rintro e w5 ⟨A0, c0, rfl, hb⟩; replace hB2 := hB2.trans (hb.mono hB2.size); replace ha2 := ha2.below hb ha2.lt; replace hp := hp.below hb hp.lt; clear hb ltp lta a1 a2; have ltp := hp.lt; have lta := ha2.lt; have a1 := ha2.cellv 1 (v := .int .i64 id) rfl; have a2 := ha2.cellv 2 (v := .int .i64 n) rfl)
    )
  rw [rounds_succ]
  go_wp2_with (first
    | (go_at_call 59; refine (tWhenZero _ _ 0 0 0 (.slice none 0 0) hp id).mono ?_; rintro e w5 ⟨rfl, rfl⟩)
    | (go_at_call 60; refine (tNextZero _ _ 0 0 0 (.slice none 0 0) hp ).mono ?_; rintro e w5 ⟨rfl, rfl⟩)
    | (go_at_call 54; refine (tArmZero _ _ 0 0 0 (.slice none 0 0) hp id n).mono ?_; rintro e w5 ⟨rfl, rfl⟩)
    | (go_at_call 61; refine (tCancelZero _ _ 0 0 0 (.slice none 0 0) hp id).mono ?_; rintro e w5 ⟨rfl, rfl⟩)
    | (go_at_call 55; refine (tTickZero _ _ 0 0 0 (.slice none 0 0) hp ).mono ?_; rintro e w5 ⟨rfl, rfl⟩)
    | (go_at_call 62; refine (tArmedZero _ _ 0 0 0 (.slice none 0 0) hp ).mono ?_; rintro e w5 ⟨rfl, rfl⟩)
    | (go_at_call 63; refine (tNowZero _ _ 0 0 0 (.slice none 0 0) hp ).mono ?_; rintro e w5 ⟨rfl, rfl⟩)
    | (go_at_call 56; refine (tLenZero _ _ 0 0 0 (.slice none 0 0) hp ).mono ?_; rintro e w5 ⟨rfl, rfl⟩)
    | (go_at_call 65; refine (tCopyZero _ _ 0 0 0 (.slice none 0 0) hp ).mono ?_; rintro e w5 ⟨rfl, rfl⟩)
    | (go_at_call 64; refine (tSkipZero _ _ 0 0 0 (.slice none 0 0) hp n hn).mono ?_; rintro e w5 ⟨A0, c0, rfl, hb⟩; replace hB2 := hB2.trans (hb.mono hB2.size); replace ha2 := ha2.below hb ha2.lt; replace hp := hp.below hb hp.lt; clear hb ltp lta a1 a2; have ltp := hp.lt; have lta := ha2.lt; have a1 := ha2.cellv 1 (v := .int .i64 id) rfl; have a2 := ha2.cellv 2 (v := .int .i64 n) rfl)
    )
  rw [rounds_succ]
  go_wp2_with (go_at_call 52; refine (lives13_any _).mono ?_; rintro e w6 ⟨rfl, hb⟩)
  go_ret
  exact ⟨rfl, hB2.trans (hb.mono hB2.size)⟩
theorem none13_row (zs : List Int) (w : World) (hn : zs.length = 3) (hw : ∀ z ∈ zs, (Lit.int .i64 z).wf = true) : Calls Try.prog 11 #[.agg (zs.map (Value.int .i64)).toArray] w fun e w' => e = .returned (.bool true) ∧ Below w.heap.size w w' := by
  have key : ∀ zs : List Int, zs.length = 3 → (∀ z ∈ zs, (Lit.int .i64 z).wf = true) → Calls Try.prog 11 #[.agg (zs.map (Value.int .i64)).toArray] w fun e w' => e = .returned (.bool true) ∧ Below w.heap.size w w' := by
    intro zs hn hw
    match zs, hn with
    | [k, id, n], _ => exact none13_walk k id n w (hw k (by simp)) (hw id (by simp)) (hw n (by simp))
  exact key zs hn hw
end Go.Proofs.Ytejgekoinbdhjaa
