/- probe: lives; ProbeNone. -/
import Derived.Test.YtejgekoinbdhjaaPrK
namespace Go.Proofs.Ytejgekoinbdhjaa
set_option linter.unusedVariables false
open Go Go.RowKit Go.Maps

theorem below_chg {B : Nat} {w w1 w2 : World} {X : Nat → Prop} (hB : Below B w w1) (hC : Chg w1 w2 X) (hX : ∀ k, X k → B ≤ k) (hz : B ≤ w.heap.size) : Below B w w2 :=
  hB.trans ⟨hC.os, hC.tape, hC.output, hC.size, fun k hk => hC.block k (by have := hB.size; omega) fun q => by have := hX k q; omega⟩
def lvA : List Pr := [⟨5, 1, 0, 0⟩]
def lvB : List Pr := [⟨5, 4, 1, 1⟩]
def lvC : List Pr := [⟨5, 4, 0, 1⟩]
theorem lv0 : addC [] 5 0 = (0, lvA) := rfl
theorem lv1 : askAll (0 + 1) 3 0 (tick1 0 2 lvA) = (lvB, 1, [(5, 1)]) := rfl
theorem lv1' : lostOf (0 + 1) 2 lvA = [] := rfl
theorem lv2 : askAll (1 + 1) 3 1 (tick1 1 2 lvB) = (lvB, 1, []) := rfl
theorem lv2' : lostOf (1 + 1) 2 lvB = [] := rfl
theorem lv3' : lostOf (2 + 1) 2 lvB = [(5, 1)] := rfl
set_option maxRecDepth 100000 in
set_option maxHeartbeats 4000000 in
theorem lives24_any (w : World) : Calls Try.prog 79 #[] w fun e w' => e = .returned (.bool true) ∧ Below w.heap.size w w' := by
  go_enter Try.func79, Try.ntmps79
  go_upto_region 3 with (first
    | (go_at_call 81; refine (newX24 w 3 2 (by omega) (by omega) (by omega) (by omega)).mono ?_; rintro e w1 ⟨g, X, rfl, h1, hX, hB1⟩)
    | (go_at_call 72; refine (addX24 h1 5 (by omega)).mono ?_; rw [lv0]; rintro e w2 ⟨rfl, h2, hC2⟩))
  have hB2 := below_chg hB1 hC2 hX (Nat.le_refl _)
  replace h2 : TabP w2 X g 3 2 0 0 lvA := h2
  clear hC2 hB1 h1
  go_upto_region 4 with (go_at_call 71; refine (tickX24 h2 (by omega) (by omega)).mono ?_; rw [lv1, lv1']; rintro e w3 ⟨va, vb, rfl, -, hra, h3, hC3⟩)
  have hB3 := below_chg hB2 hC3 hX (Nat.le_refl _)
  replace h3 : TabP w3 X g 3 2 1 1 lvB := h3
  obtain ⟨A1, c1, rfl, -, -, hs1⟩ := hra.seen (Nat.le_refl _)
  replace hs1 : Seen prK w3 (fun b => w2.heap.size ≤ b ∧ b < w3.heap.size) A1 1 [(5, 1)] := hs1
  have hl2 := h2.lt
  go_upto_region 5 with (go_at_call 71; refine (tickX24 h3 (by omega) (by omega)).mono ?_; rw [lv2, lv2']; rintro e w4 ⟨vc, vd, rfl, -, -, h4, hC4⟩)
  have hB4 := below_chg hB3 hC4 hX (Nat.le_refl _)
  replace h4 : TabP w4 X g 3 2 2 1 lvB := h4
  have hs2 := hC4.seen hs1 fun b q => ⟨q.2, fun r => by have := hl2 b r; omega⟩
  have hz3 := hC4.size
  clear hs1 hra
  go_upto_region 6 with (go_at_call 71; refine (tickX24 h4 (by omega) (by omega)).mono ?_; rw [lv3']; rintro e w5 ⟨ve, vf, rfl, hrb, -, -, hC5⟩)
  have hB5 := below_chg hB4 hC5 hX (Nat.le_refl _)
  have hs3 := hC5.seen hs2 fun b q => ⟨by omega, fun r => by have := hl2 b r; omega⟩
  obtain ⟨A2, c2, rfl, -, -, hs4⟩ := hrb.seen (Nat.le_refl _)
  replace hs4 : Seen prK w5 (fun b => w4.heap.size ≤ b ∧ b < w5.heap.size) A2 1 [(5, 1)] := hs4
  have hz4 := hC5.size
  clear hs2 hrb hC5 hC4 hC3 h4 h3 h2 hl2
  have tok := True.intro
  have tokS := True.intro
  go_wp2_with (first
    | (go_at_call 160; have tok2 := tok; clear tok; refine (plain24_any w5 _ A1 1 c1 [(5, 1)] hs3 (fun b q => by omega) (by omega)).mono ?_; rintro e w6 ⟨v6, rfl, hr6, hb6⟩; obtain ⟨A3, c3, rfl, -, -, hs6⟩ := hr6.seen (Nat.le_refl _); have hb7 := (Below.refl w6.heap.size w6).alloc (Nat.le_refl _) (.cells #[.int .i64 5, .int .i64 1] 225); have hs7 := hs6.below (B := w6.heap.size) hb7 (fun b q => q.2); have hseen : Seen prK (w6.alloc (.cells #[.int .i64 5, .int .i64 1] 225)) (fun b => b = w6.heap.size) (some ⟨w6.heap.size, 0, none⟩) 1 [((5 : Int), (1 : Int))] := seen_one (R := prK) (S := fun _ => False) (S' := fun b => b = w6.heap.size) w6 225 ((5 : Int), (1 : Int)) #[.int .i64 5, .int .i64 1] rfl trivial (fun _ h => h.elim) rfl (fun _ h => h.elim); have hz7 := hb7.size; have hzl : w6.heap.size < (w6.alloc (.cells #[.int .i64 5, .int .i64 1] 225)).heap.size := by simp)
    | (go_at_call 159; have tokT := tokS; clear tokS; refine (same24_any (w6.alloc (.cells #[.int .i64 5, .int .i64 1] 225)) _ _ A3 1 c3 [(5, 1)] _ 1 1 [(5, 1)] hs7 hseen (fun b q => by omega) (fun b q => by omega) (by omega)).mono ?_; rintro e w8 ⟨rfl, hb8⟩; have hs9 := (hs4.below (B := w5.heap.size) hb6 (fun b q => q.2)).below (B := w6.heap.size) (hb7.trans (hb8.mono hz7)) (fun b q => by have := hb6.size; omega))
    | (go_at_call 160; have tok3 := tok2; clear tok2; refine (plain24_any w8 _ A2 1 c2 [(5, 1)] hs9 (fun b q => by have := hb6.size; have := hb8.size; omega) (by omega)).mono ?_; rintro e w9 ⟨v9, rfl, hr9, hb9⟩; obtain ⟨A4, c4, rfl, -, -, hs10⟩ := hr9.seen (Nat.le_refl _); have hb11 := (Below.refl w9.heap.size w9).alloc (Nat.le_refl _) (.cells #[.int .i64 5, .int .i64 1] 225); have hs11 := hs10.below (B := w9.heap.size) hb11 (fun b q => q.2); have hseen2 : Seen prK (w9.alloc (.cells #[.int .i64 5, .int .i64 1] 225)) (fun b => b = w9.heap.size) (some ⟨w9.heap.size, 0, none⟩) 1 [((5 : Int), (1 : Int))] := seen_one (R := prK) (S := fun _ => False) (S' := fun b => b = w9.heap.size) w9 225 ((5 : Int), (1 : Int)) #[.int .i64 5, .int .i64 1] rfl trivial (fun _ h => h.elim) rfl (fun _ h => h.elim); have hz11 := hb11.size; have hzl2 : w9.heap.size < (w9.alloc (.cells #[.int .i64 5, .int .i64 1] 225)).heap.size := by simp)
    | (go_at_call 159; refine (same24_any (w9.alloc (.cells #[.int .i64 5, .int .i64 1] 225)) _ _ A4 1 c4 [(5, 1)] _ 1 1 [(5, 1)] hs11 hseen2 (fun b q => by omega) (fun b q => by omega) (by omega)).mono ?_; rintro e w12 ⟨rfl, hb12⟩))
  go_ret
  have hBa := hB5.trans (hb6.mono hB5.size)
  have hBb := hBa.trans ((hb7.trans (hb8.mono hz7)).mono hBa.size)
  have hBc := hBb.trans (hb9.mono hBb.size)
  have hBd := hBc.trans ((hb11.trans (hb12.mono hz11)).mono hBc.size)
  exact ⟨rfl, hBd⟩
set_option maxRecDepth 100000 in
set_option maxHeartbeats 4000000 in
theorem none24_walk (k id n : Int) (w : World) (_w1 : (Lit.int .i64 k).wf = true) (_w2 : (Lit.int .i64 id).wf = true) (_w3 : (Lit.int .i64 n).wf = true) : Calls Try.prog 13 #[.agg #[.int .i64 k, .int .i64 id, .int .i64 n]] w fun e w' => e = .returned (.bool true) ∧ Below w.heap.size w w' := by
  have i0 : ∀ (x0 x1 : Value) (w : World), (Instr.index 127 (.agg #[x0, x1]) (.int .i64 0)).run Try.prog w = .ok x0 w := fun _ _ _ => by kernel_rfl
  have i1 : ∀ (x0 x1 : Value) (w : World), (Instr.index 127 (.agg #[x0, x1]) (.int .i64 1)).run Try.prog w = .ok x1 w := fun _ _ _ => by kernel_rfl
  have hB1 := (Below.refl w.heap.size w).alloc (Nat.le_refl _) (.cells #[.int .i64 k, .int .i64 id, .int .i64 n] 116)
  have ha := Blk.new w 116 #[.int .i64 k, .int .i64 id, .int .i64 n]
  go_enter Try.func13, Try.ntmps13
  go_upto_region 1 with (fail)
  generalize w.alloc (.cells #[.int .i64 k, .int .i64 id, .int .i64 n] 116) = w1 at *
  have hB2 := hB1.alloc hB1.size (.cells #[.int .i64 0, .int .i64 0, .int .i64 0, .int .i64 0, .map none, .map none] 125)
  have hp := Blk.new w1 125 #[.int .i64 0, .int .i64 0, .int .i64 0, .int .i64 0, .map none, .map none]
  have ha2 := ha.alloc (.cells #[.int .i64 0, .int .i64 0, .int .i64 0, .int .i64 0, .map none, .map none] 125)
  go_upto_region 2 with (fail)
  generalize w1.alloc (.cells #[.int .i64 0, .int .i64 0, .int .i64 0, .int .i64 0, .map none, .map none] 125) = w2 at *
  have ltp := hp.lt
  have lta := ha2.lt
  have a1 : w2.cell? ⟨w.heap.size, 1, none⟩ = some (.int .i64 id) := ha2.cellv 1 rfl
  have a2 : w2.cell? ⟨w.heap.size, 2, none⟩ = some (.int .i64 n) := ha2.cellv 2 rfl
  go_wp2_with fail
  refine wp_loop_rounds 3 ?_
  change Code.rounds _ _ _ _ _ w2
  rw [rounds_succ]
  go_wp2_with (first
    | (go_at_call 71; refine (pTickNil _ ).mono ?_; rintro e w5 ⟨rfl, rfl⟩)
    | (go_at_call 72; refine (pAddNil _ id).mono ?_; rintro e w5 ⟨rfl, rfl⟩)
    | (go_at_call 73; refine (pRemoveNil _ id).mono ?_; rintro e w5 ⟨rfl, rfl⟩)
    | (go_at_call 76; refine (pIdsNil _ ).mono ?_; rintro e w5 ⟨rfl, rfl⟩)
    | (go_at_call 77; refine (pNowNil _ ).mono ?_; rintro e w5 ⟨rfl, rfl⟩)
    | (go_at_call 78; refine (pCopyNil _ ).mono ?_; rintro e w5 ⟨rfl, rfl⟩)
    | (go_at_call 74; refine (pResultNil _ id n).mono ?_; rintro e w5 ⟨rfl, hb⟩; replace hB2 := hB2.trans (hb.mono hB2.size); replace ha2 := ha2.below hb ha2.lt; replace hp := hp.below hb hp.lt; clear hb ltp lta a1 a2; have ltp := hp.lt; have lta := ha2.lt; have a1 := ha2.cellv 1 (v := .int .i64 id) rfl; have a2 := ha2.cellv 2 (v := .int .i64 n) rfl)
    | (go_at_call 75; refine (pWaitingNil _ ).mono ?_; rintro e w5 ⟨rfl, hb⟩; replace hB2 := hB2.trans (hb.mono hB2.size); replace ha2 := ha2.below hb ha2.lt; replace hp := hp.below hb hp.lt; clear hb ltp lta a1 a2; have ltp := hp.lt; have lta := ha2.lt; have a1 := ha2.cellv 1 (v := .int .i64 id) rfl; have a2 := ha2.cellv 2 (v := .int .i64 n) rfl)
    )
  rw [rounds_succ]
  go_wp2_with (first
    | (go_at_call 71; refine (pTickZero _ _ 0 0 0 0 none hp ).mono ?_; rintro e w5 ⟨rfl, rfl⟩)
    | (go_at_call 72; refine (pAddZero _ _ 0 0 0 0 none hp id).mono ?_; rintro e w5 ⟨rfl, rfl⟩)
    | (go_at_call 73; refine (pRemoveZero _ _ 0 0 0 0 none hp id).mono ?_; rintro e w5 ⟨rfl, rfl⟩)
    | (go_at_call 76; refine (pIdsZero _ _ 0 0 0 0 none hp ).mono ?_; rintro e w5 ⟨rfl, rfl⟩)
    | (go_at_call 77; refine (pNowZero _ _ 0 0 0 0 none hp ).mono ?_; rintro e w5 ⟨rfl, rfl⟩)
    | (go_at_call 78; refine (pCopyZero _ _ 0 0 0 0 none hp ).mono ?_; rintro e w5 ⟨rfl, rfl⟩)
    | (go_at_call 74; refine (pResultZero _ _ 0 0 0 0 none hp id n).mono ?_; rintro e w5 ⟨rfl, hb⟩; replace hB2 := hB2.trans (hb.mono hB2.size); replace ha2 := ha2.below hb ha2.lt; replace hp := hp.below hb hp.lt; clear hb ltp lta a1 a2; have ltp := hp.lt; have lta := ha2.lt; have a1 := ha2.cellv 1 (v := .int .i64 id) rfl; have a2 := ha2.cellv 2 (v := .int .i64 n) rfl)
    | (go_at_call 75; refine (pWaitingZero _ _ 0 0 0 0 none hp ).mono ?_; rintro e w5 ⟨rfl, hb⟩; replace hB2 := hB2.trans (hb.mono hB2.size); replace ha2 := ha2.below hb ha2.lt; replace hp := hp.below hb hp.lt; clear hb ltp lta a1 a2; have ltp := hp.lt; have lta := ha2.lt; have a1 := ha2.cellv 1 (v := .int .i64 id) rfl; have a2 := ha2.cellv 2 (v := .int .i64 n) rfl)
    )
  rw [rounds_succ]
  go_wp2_with (go_at_call 79; refine (lives24_any _).mono ?_; rintro e w6 ⟨rfl, hb⟩)
  go_ret
  exact ⟨rfl, hB2.trans (hb.mono hB2.size)⟩
theorem none24_row (zs : List Int) (w : World) (hn : zs.length = 3) (hw : ∀ z ∈ zs, (Lit.int .i64 z).wf = true) : Calls Try.prog 13 #[.agg (zs.map (Value.int .i64)).toArray] w fun e w' => e = .returned (.bool true) ∧ Below w.heap.size w w' := by
  have key : ∀ zs : List Int, zs.length = 3 → (∀ z ∈ zs, (Lit.int .i64 z).wf = true) → Calls Try.prog 13 #[.agg (zs.map (Value.int .i64)).toArray] w fun e w' => e = .returned (.bool true) ∧ Below w.heap.size w w' := by
    intro zs hn hw
    match zs, hn with
    | [k, id, n], _ => exact none24_walk k id n w (hw k (by simp)) (hw id (by simp)) (hw n (by simp))
  exact key zs hn hw
end Go.Proofs.Ytejgekoinbdhjaa
