/- pool: PoolNone. -/
import Derived.Test.YtejgekoinbdhjaaPoG
import Derived.Test.YtejgekoinbdhjaaOpen3
namespace Go.Proofs.Ytejgekoinbdhjaa
set_option linter.unusedVariables false
open Go Go.RowKit Go.Maps

set_option maxRecDepth 100000 in
set_option maxHeartbeats 4000000 in
theorem none25_walk (k id ad wt : Int) (on : Bool) (w : World) (_w1 : (Lit.int .i64 k).wf = true) (_w2 : (Lit.int .i64 id).wf = true) (_w3 : (Lit.int .u32 ad).wf = true) (_w4 : (Lit.int .i64 wt).wf = true) : Calls Try.prog 4 #[.agg #[.int .i64 k, .int .i64 id, .int .u32 ad, .int .i64 wt, .bool on]] w fun e w' => e = .returned (.bool true) ∧ Below w.heap.size w w' := by
  have i0 : ∀ (x0 x1 : Value) (w : World), (Instr.index 33 (.agg #[x0, x1]) (.int .i64 0)).run Try.prog w = .ok x0 w := fun _ _ _ => by kernel_rfl
  have i1 : ∀ (x0 x1 : Value) (w : World), (Instr.index 33 (.agg #[x0, x1]) (.int .i64 1)).run Try.prog w = .ok x1 w := fun _ _ _ => by kernel_rfl
  have hB1 := (Below.refl w.heap.size w).alloc (Nat.le_refl _) (.cells #[.int .i64 k, .int .i64 id, .int .u32 ad, .int .i64 wt, .bool on] 28)
  have ha := Blk.new w 28 #[.int .i64 k, .int .i64 id, .int .u32 ad, .int .i64 wt, .bool on]
  go_enter Try.func4, Try.ntmps4
  go_upto_region 1 with (fail)
  generalize w.alloc (.cells #[.int .i64 k, .int .i64 id, .int .u32 ad, .int .i64 wt, .bool on] 28) = w1 at *
  have hB2 := hB1.alloc hB1.size (.cells #[.int .i64 0, .map none] 31)
  have hp := Blk.new w1 31 #[.int .i64 0, .map none]
  have ha2 := ha.alloc (.cells #[.int .i64 0, .map none] 31)
  go_upto_region 2 with (fail)
  generalize w1.alloc (.cells #[.int .i64 0, .map none] 31) = w2 at *
  have ltp := hp.lt
  have lta := ha2.lt
  have a1 : w2.cell? ⟨w.heap.size, 1, none⟩ = some (.int .i64 id) := ha2.cellv 1 rfl
  have a2 : w2.cell? ⟨w.heap.size, 2, none⟩ = some (.int .u32 ad) := ha2.cellv 2 rfl
  have a3 : w2.cell? ⟨w.heap.size, 3, none⟩ = some (.int .i64 wt) := ha2.cellv 3 rfl
  have a4 : w2.cell? ⟨w.heap.size, 4, none⟩ = some (.bool on) := ha2.cellv 4 rfl
  go_wp2_with fail
  refine wp_loop_rounds 3 ?_
  change Code.rounds _ _ _ _ _ w2
  rw [rounds_succ]
  skip
  go_upto_region 6 with (go_at_call 19; refine (pGetNil _ id).mono ?_; rintro e w3 ⟨rfl, hb⟩; replace hB2 := hB2.trans (hb.mono hB2.size); replace ha2 := ha2.below hb ha2.lt; replace hp := hp.below hb hp.lt; clear hb lta a1 a2 a3 a4; have lta := ha2.lt; have a1 := ha2.cellv 1 (v := .int .i64 id) rfl; have a2 := ha2.cellv 2 (v := .int .u32 ad) rfl; have a3 := ha2.cellv 3 (v := .int .i64 wt) rfl; have a4 := ha2.cellv 4 (v := .bool on) rfl)
  have hb := (Below.refl w3.heap.size w3).alloc (Nat.le_refl _) (.cells #[.int .i64 0, .int .u32 0, .int .i64 0] 26)
  generalize w3.alloc (.cells #[.int .i64 0, .int .u32 0, .int .i64 0] 26) = w4 at *
  replace hB2 := hB2.trans (hb.mono hB2.size)
  replace ha2 := ha2.below hb ha2.lt
  replace hp := hp.below hb hp.lt
  clear hb lta a1 a2 a3 a4
  have lta := ha2.lt
  have a1 := ha2.cellv 1 (v := .int .i64 id) rfl
  have a2 := ha2.cellv 2 (v := .int .u32 ad) rfl
  have a3 := ha2.cellv 3 (v := .int .i64 wt) rfl
  have a4 := ha2.cellv 4 (v := .bool on) rfl
  go_wp2_with (first
    | (go_at_call 20; refine (addNil _ id ad wt).mono ?_; rintro e w5 ⟨rfl, hb⟩; replace hB2 := hB2.trans (hb.mono hB2.size); replace ha2 := ha2.below hb ha2.lt; replace hp := hp.below hb hp.lt; clear hb lta a1 a2 a3 a4; have lta := ha2.lt; have a1 := ha2.cellv 1 (v := .int .i64 id) rfl; have a2 := ha2.cellv 2 (v := .int .u32 ad) rfl; have a3 := ha2.cellv 3 (v := .int .i64 wt) rfl; have a4 := ha2.cellv 4 (v := .bool on) rfl)
    | (go_at_call 21; refine (pRemoveNil _ id).mono ?_; rintro e w5 ⟨rfl, hb⟩; replace hB2 := hB2.trans (hb.mono hB2.size); replace ha2 := ha2.below hb ha2.lt; replace hp := hp.below hb hp.lt; clear hb lta a1 a2 a3 a4; have lta := ha2.lt; have a1 := ha2.cellv 1 (v := .int .i64 id) rfl; have a2 := ha2.cellv 2 (v := .int .u32 ad) rfl; have a3 := ha2.cellv 3 (v := .int .i64 wt) rfl; have a4 := ha2.cellv 4 (v := .bool on) rfl)
    | (go_at_call 22; refine (pWeighNil _ id 1).mono ?_; rintro e w5 ⟨rfl, hb⟩; replace hB2 := hB2.trans (hb.mono hB2.size); replace ha2 := ha2.below hb ha2.lt; replace hp := hp.below hb hp.lt; clear hb lta a1 a2 a3 a4; have lta := ha2.lt; have a1 := ha2.cellv 1 (v := .int .i64 id) rfl; have a2 := ha2.cellv 2 (v := .int .u32 ad) rfl; have a3 := ha2.cellv 3 (v := .int .i64 wt) rfl; have a4 := ha2.cellv 4 (v := .bool on) rfl)
    | (go_at_call 23; refine (pMarkNil _ id on).mono ?_; rintro e w5 ⟨rfl, hb⟩; replace hB2 := hB2.trans (hb.mono hB2.size); replace ha2 := ha2.below hb ha2.lt; replace hp := hp.below hb hp.lt; clear hb lta a1 a2 a3 a4; have lta := ha2.lt; have a1 := ha2.cellv 1 (v := .int .i64 id) rfl; have a2 := ha2.cellv 2 (v := .int .u32 ad) rfl; have a3 := ha2.cellv 3 (v := .int .i64 wt) rfl; have a4 := ha2.cellv 4 (v := .bool on) rfl)
    | (go_at_call 24; refine (pDrainNil _ id on).mono ?_; rintro e w5 ⟨rfl, hb⟩; replace hB2 := hB2.trans (hb.mono hB2.size); replace ha2 := ha2.below hb ha2.lt; replace hp := hp.below hb hp.lt; clear hb lta a1 a2 a3 a4; have lta := ha2.lt; have a1 := ha2.cellv 1 (v := .int .i64 id) rfl; have a2 := ha2.cellv 2 (v := .int .u32 ad) rfl; have a3 := ha2.cellv 3 (v := .int .i64 wt) rfl; have a4 := ha2.cellv 4 (v := .bool on) rfl)
    | (go_at_call 25; refine (pUpNil _ id).mono ?_; rintro e w5 ⟨rfl, hb⟩; replace hB2 := hB2.trans (hb.mono hB2.size); replace ha2 := ha2.below hb ha2.lt; replace hp := hp.below hb hp.lt; clear hb lta a1 a2 a3 a4; have lta := ha2.lt; have a1 := ha2.cellv 1 (v := .int .i64 id) rfl; have a2 := ha2.cellv 2 (v := .int .u32 ad) rfl; have a3 := ha2.cellv 3 (v := .int .i64 wt) rfl; have a4 := ha2.cellv 4 (v := .bool on) rfl)
    | (go_at_call 26; refine (pDrainingNil _ id).mono ?_; rintro e w5 ⟨rfl, hb⟩; replace hB2 := hB2.trans (hb.mono hB2.size); replace ha2 := ha2.below hb ha2.lt; replace hp := hp.below hb hp.lt; clear hb lta a1 a2 a3 a4; have lta := ha2.lt; have a1 := ha2.cellv 1 (v := .int .i64 id) rfl; have a2 := ha2.cellv 2 (v := .int .u32 ad) rfl; have a3 := ha2.cellv 3 (v := .int .i64 wt) rfl; have a4 := ha2.cellv 4 (v := .bool on) rfl)
    | (go_at_call 27; refine (pQuorateNil _ ).mono ?_; rintro e w5 ⟨rfl, hb⟩; replace hB2 := hB2.trans (hb.mono hB2.size); replace ha2 := ha2.below hb ha2.lt; replace hp := hp.below hb hp.lt; clear hb lta a1 a2 a3 a4; have lta := ha2.lt; have a1 := ha2.cellv 1 (v := .int .i64 id) rfl; have a2 := ha2.cellv 2 (v := .int .u32 ad) rfl; have a3 := ha2.cellv 3 (v := .int .i64 wt) rfl; have a4 := ha2.cellv 4 (v := .bool on) rfl)
    | (go_at_call 28; refine (pTotalNil _ ).mono ?_; rintro e w5 ⟨rfl, rfl⟩)
    | (go_at_call 29; refine (pHealthyNil _ ).mono ?_; rintro e w5 ⟨rfl, rfl⟩)
    | (go_at_call 30; refine (pEligibleNil _ ).mono ?_; rintro e w5 ⟨rfl, hb⟩; replace hB2 := hB2.trans (hb.mono hB2.size); replace ha2 := ha2.below hb ha2.lt; replace hp := hp.below hb hp.lt; clear hb lta a1 a2 a3 a4; have lta := ha2.lt; have a1 := ha2.cellv 1 (v := .int .i64 id) rfl; have a2 := ha2.cellv 2 (v := .int .u32 ad) rfl; have a3 := ha2.cellv 3 (v := .int .i64 wt) rfl; have a4 := ha2.cellv 4 (v := .bool on) rfl)
    | (go_at_call 31; refine (pAllNil _ ).mono ?_; rintro e w5 ⟨rfl, hb⟩; replace hB2 := hB2.trans (hb.mono hB2.size); replace ha2 := ha2.below hb ha2.lt; replace hp := hp.below hb hp.lt; clear hb lta a1 a2 a3 a4; have lta := ha2.lt; have a1 := ha2.cellv 1 (v := .int .i64 id) rfl; have a2 := ha2.cellv 2 (v := .int .u32 ad) rfl; have a3 := ha2.cellv 3 (v := .int .i64 wt) rfl; have a4 := ha2.cellv 4 (v := .bool on) rfl)
    | (go_at_call 32; refine (pCopyNil _ ).mono ?_; rintro e w5 ⟨rfl, hb⟩; replace hB2 := hB2.trans (hb.mono hB2.size); replace ha2 := ha2.below hb ha2.lt; replace hp := hp.below hb hp.lt; clear hb lta a1 a2 a3 a4; have lta := ha2.lt; have a1 := ha2.cellv 1 (v := .int .i64 id) rfl; have a2 := ha2.cellv 2 (v := .int .u32 ad) rfl; have a3 := ha2.cellv 3 (v := .int .i64 wt) rfl; have a4 := ha2.cellv 4 (v := .bool on) rfl)
    )
  rw [rounds_succ]
  go_upto_region 6 with (go_at_call 19; refine (pGetZero _ _ 0 hp id).mono ?_; rintro e w3 ⟨rfl, hb⟩; replace hB2 := hB2.trans (hb.mono hB2.size); replace ha2 := ha2.below hb ha2.lt; replace hp := hp.below hb hp.lt; clear hb lta a1 a2 a3 a4; have lta := ha2.lt; have a1 := ha2.cellv 1 (v := .int .i64 id) rfl; have a2 := ha2.cellv 2 (v := .int .u32 ad) rfl; have a3 := ha2.cellv 3 (v := .int .i64 wt) rfl; have a4 := ha2.cellv 4 (v := .bool on) rfl)
  have hb := (Below.refl w3.heap.size w3).alloc (Nat.le_refl _) (.cells #[.int .i64 0, .int .u32 0, .int .i64 0] 26)
  generalize w3.alloc (.cells #[.int .i64 0, .int .u32 0, .int .i64 0] 26) = w4 at *
  replace hB2 := hB2.trans (hb.mono hB2.size)
  replace ha2 := ha2.below hb ha2.lt
  replace hp := hp.below hb hp.lt
  clear hb lta a1 a2 a3 a4
  have lta := ha2.lt
  have a1 := ha2.cellv 1 (v := .int .i64 id) rfl
  have a2 := ha2.cellv 2 (v := .int .u32 ad) rfl
  have a3 := ha2.cellv 3 (v := .int .i64 wt) rfl
  have a4 := ha2.cellv 4 (v := .bool on) rfl
  go_wp2_with (first
    | (go_at_call 20; refine (addZero _ _ 0 hp id ad wt).mono ?_; rintro e w5 ⟨rfl, hb⟩; replace hB2 := hB2.trans (hb.mono hB2.size); replace ha2 := ha2.below hb ha2.lt; replace hp := hp.below hb hp.lt; clear hb lta a1 a2 a3 a4; have lta := ha2.lt; have a1 := ha2.cellv 1 (v := .int .i64 id) rfl; have a2 := ha2.cellv 2 (v := .int .u32 ad) rfl; have a3 := ha2.cellv 3 (v := .int .i64 wt) rfl; have a4 := ha2.cellv 4 (v := .bool on) rfl)
    | (go_at_call 21; refine (pRemoveZero _ _ 0 hp id).mono ?_; rintro e w5 ⟨rfl, hb⟩; replace hB2 := hB2.trans (hb.mono hB2.size); replace ha2 := ha2.below hb ha2.lt; replace hp := hp.below hb hp.lt; clear hb lta a1 a2 a3 a4; have lta := ha2.lt; have a1 := ha2.cellv 1 (v := .int .i64 id) rfl; have a2 := ha2.cellv 2 (v := .int .u32 ad) rfl; have a3 := ha2.cellv 3 (v := .int .i64 wt) rfl; have a4 := ha2.cellv 4 (v := .bool on) rfl)
    | (go_at_call 22; refine (pWeighZero _ _ 0 hp id 1).mono ?_; rintro e w5 ⟨rfl, hb⟩; replace hB2 := hB2.trans (hb.mono hB2.size); replace ha2 := ha2.below hb ha2.lt; replace hp := hp.below hb hp.lt; clear hb lta a1 a2 a3 a4; have lta := ha2.lt; have a1 := ha2.cellv 1 (v := .int .i64 id) rfl; have a2 := ha2.cellv 2 (v := .int .u32 ad) rfl; have a3 := ha2.cellv 3 (v := .int .i64 wt) rfl; have a4 := ha2.cellv 4 (v := .bool on) rfl)
    | (go_at_call 23; refine (pMarkZero _ _ 0 hp id on).mono ?_; rintro e w5 ⟨rfl, hb⟩; replace hB2 := hB2.trans (hb.mono hB2.size); replace ha2 := ha2.below hb ha2.lt; replace hp := hp.below hb hp.lt; clear hb lta a1 a2 a3 a4; have lta := ha2.lt; have a1 := ha2.cellv 1 (v := .int .i64 id) rfl; have a2 := ha2.cellv 2 (v := .int .u32 ad) rfl; have a3 := ha2.cellv 3 (v := .int .i64 wt) rfl; have a4 := ha2.cellv 4 (v := .bool on) rfl)
    | (go_at_call 24; refine (pDrainZero _ _ 0 hp id on).mono ?_; rintro e w5 ⟨rfl, hb⟩; replace hB2 := hB2.trans (hb.mono hB2.size); replace ha2 := ha2.below hb ha2.lt; replace hp := hp.below hb hp.lt; clear hb lta a1 a2 a3 a4; have lta := ha2.lt; have a1 := ha2.cellv 1 (v := .int .i64 id) rfl; have a2 := ha2.cellv 2 (v := .int .u32 ad) rfl; have a3 := ha2.cellv 3 (v := .int .i64 wt) rfl; have a4 := ha2.cellv 4 (v := .bool on) rfl)
    | (go_at_call 25; refine (pUpZero _ _ 0 hp id).mono ?_; rintro e w5 ⟨rfl, hb⟩; replace hB2 := hB2.trans (hb.mono hB2.size); replace ha2 := ha2.below hb ha2.lt; replace hp := hp.below hb hp.lt; clear hb lta a1 a2 a3 a4; have lta := ha2.lt; have a1 := ha2.cellv 1 (v := .int .i64 id) rfl; have a2 := ha2.cellv 2 (v := .int .u32 ad) rfl; have a3 := ha2.cellv 3 (v := .int .i64 wt) rfl; have a4 := ha2.cellv 4 (v := .bool on) rfl)
    | (go_at_call 26; refine (pDrainingZero _ _ 0 hp id).mono ?_; rintro e w5 ⟨rfl, hb⟩; replace hB2 := hB2.trans (hb.mono hB2.size); replace ha2 := ha2.below hb ha2.lt; replace hp := hp.below hb hp.lt; clear hb lta a1 a2 a3 a4; have lta := ha2.lt; have a1 := ha2.cellv 1 (v := .int .i64 id) rfl; have a2 := ha2.cellv 2 (v := .int .u32 ad) rfl; have a3 := ha2.cellv 3 (v := .int .i64 wt) rfl; have a4 := ha2.cellv 4 (v := .bool on) rfl)
    | (go_at_call 27; refine (pQuorateZero _ _ 0 hp ).mono ?_; rintro e w5 ⟨rfl, hb⟩; replace hB2 := hB2.trans (hb.mono hB2.size); replace ha2 := ha2.below hb ha2.lt; replace hp := hp.below hb hp.lt; clear hb lta a1 a2 a3 a4; have lta := ha2.lt; have a1 := ha2.cellv 1 (v := .int .i64 id) rfl; have a2 := ha2.cellv 2 (v := .int .u32 ad) rfl; have a3 := ha2.cellv 3 (v := .int .i64 wt) rfl; have a4 := ha2.cellv 4 (v := .bool on) rfl)
    | (go_at_call 28; refine (pTotalZero _ _ 0 hp ).mono ?_; rintro e w5 ⟨rfl, rfl⟩)
    | (go_at_call 29; refine (pHealthyZero _ _ 0 hp ).mono ?_; rintro e w5 ⟨rfl, rfl⟩)
    | (go_at_call 30; refine (pEligibleZero _ _ 0 hp ).mono ?_; rintro e w5 ⟨rfl, hb⟩; replace hB2 := hB2.trans (hb.mono hB2.size); replace ha2 := ha2.below hb ha2.lt; replace hp := hp.below hb hp.lt; clear hb lta a1 a2 a3 a4; have lta := ha2.lt; have a1 := ha2.cellv 1 (v := .int .i64 id) rfl; have a2 := ha2.cellv 2 (v := .int .u32 ad) rfl; have a3 := ha2.cellv 3 (v := .int .i64 wt) rfl; have a4 := ha2.cellv 4 (v := .bool on) rfl)
    | (go_at_call 31; refine (pAllZero _ _ 0 hp ).mono ?_; rintro e w5 ⟨rfl, hb⟩; replace hB2 := hB2.trans (hb.mono hB2.size); replace ha2 := ha2.below hb ha2.lt; replace hp := hp.below hb hp.lt; clear hb lta a1 a2 a3 a4; have lta := ha2.lt; have a1 := ha2.cellv 1 (v := .int .i64 id) rfl; have a2 := ha2.cellv 2 (v := .int .u32 ad) rfl; have a3 := ha2.cellv 3 (v := .int .i64 wt) rfl; have a4 := ha2.cellv 4 (v := .bool on) rfl)
    | (go_at_call 32; refine (pCopyZero _ _ 0 hp ).mono ?_; rintro e w5 ⟨rfl, hb⟩; replace hB2 := hB2.trans (hb.mono hB2.size); replace ha2 := ha2.below hb ha2.lt; replace hp := hp.below hb hp.lt; clear hb lta a1 a2 a3 a4; have lta := ha2.lt; have a1 := ha2.cellv 1 (v := .int .i64 id) rfl; have a2 := ha2.cellv 2 (v := .int .u32 ad) rfl; have a3 := ha2.cellv 3 (v := .int .i64 wt) rfl; have a4 := ha2.cellv 4 (v := .bool on) rfl)
    )
  rw [rounds_succ]
  go_wp2_with (go_at_call 18; refine (lives25_any _).mono ?_; rintro e w6 ⟨rfl, hb⟩)
  go_ret
  exact ⟨rfl, hB2.trans (hb.mono hB2.size)⟩
end Go.Proofs.Ytejgekoinbdhjaa
