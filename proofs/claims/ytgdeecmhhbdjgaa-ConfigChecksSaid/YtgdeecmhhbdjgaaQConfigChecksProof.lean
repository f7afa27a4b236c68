import Derived.Test.YtgdeecmhhbdjgaaCgP
import Derived.Test.YtgdeecmhhbdjgaaDampR
import Derived.Laws.StructEq
import Derived.Test.YtgdeecmhhbdjgaaRows
import Derived.Test.YtgdeecmhhbdjgaaLib
/- config: the document's Check. -/
namespace Go.Proofs.Ytgdeecmhhbdjgaa
set_option linter.unusedVariables false
open Go Go.RowKit Go.Maps

set_option maxRecDepth 100000 in
set_option maxHeartbeats 8000000 in
theorem refCheck_any (w : World) (c : CfgV) (h : CfgIn w c) (hs : CfgSm c) : Calls Try.prog 8 #[.agg (cfgC c)] w fun e w' => e = .returned (.tuple #[.int .i64 (partC c : Nat), .int .i64 (errC c)]) ∧ Below w.heap.size w w' := by
  have hB := (Below.refl w.heap.size w).alloc (Nat.le_refl _) (.cells (cfgC c) 37)
  have hq := Blk.new w 37 (cfgC c)
  have hC := h.nx hB
  have hiC : (Try.prog.info? 37).map (·.size) = some (cfgC c).size := by kernel_rfl
  have hend : ∀ k : Nat, k ≠ 0 → partC c = k → errC c = 12 := fun k hk e => by unfold errC; rw [e, if_neg hk]
  go_enter Try.func8, Try.ntmps8
  go_upto_region 2 with (fail)
  generalize w.alloc (.cells (cfgC c) 37) = w1 at *
  have q0 : w1.cell? ⟨w.heap.size, 0, none⟩ = some (.int .i64 c.as_) := hq.cellv 0 rfl
  have q1 : w1.cell? ⟨w.heap.size, 1, none⟩ = some (.int .u32 c.id) := hq.cellv 1 rfl
  have q2 : w1.cell? ⟨w.heap.size, 2, none⟩ = some (.int .u32 c.own) := hq.cellv 2 rfl
  have ql := hq.lt
  cases e0 : selfB c
  · have hsf := e0
    unfold selfB rngB at hsf
    have ev := Lib.hid (show partC c = 1 by unfold partC; simp only [e0, if_true])
    have e12 := Lib.hid (hend 1 (by omega) ev.out)
    clear hend
    go_upto_region 4 with (fail)
    all_goals first
      | (exfalso; have r5 := beq_eq_false_iff_ne.1 (by assumption : (c.own == 0) = false); revert hsf; rw [imp_false, Bool.not_eq_false]; simp; omega)
      | (go_ret2; rw [ev.out, e12.out]; exact ⟨rfl, hB⟩)
      | (go_wp2_with fail; go_ret2; rw [ev.out, e12.out]; exact ⟨rfl, hB⟩)
  have hsf := e0
  unfold selfB rngB at hsf
  simp only [Bool.and_eq_true, decide_eq_true_eq, bne_iff_ne, ne_eq] at hsf
  obtain ⟨⟨⟨a1, a2⟩, a3⟩, a4⟩ := hsf
  have d1 : decide (c.as_ < 1) = false := by simp; omega
  have d2 : decide (65535 < c.as_) = false := by simp; omega
  have d3 : (c.id == 0) = false := by simpa using a3
  have d4 : (c.own == 0) = false := by simpa using a4
  clear a1 a2 a3 a4
  replace e0 := Lib.hid e0
  go_upto_region 4 with (fail)
  clear q0 q1 q2 ql
  clear d1 d2 d3 d4
  go_wp2_with (refine wpList_load_blk rfl hq 37 (.tmp 1) rfl rfl Try.underlying37 rfl hiC ?_)
  refine (refPeers_any w1 c hC).mono ?_
  rintro e u0 ⟨rfl, hb⟩
  replace hC := hC.nx hb
  replace hq := hq.below hb hq.lt
  replace hB := hB.trans (hb.mono hB.size)
  clear hb
  cases e1 : peersB c
  · skip
    have ev := Lib.hid (show partC c = 2 by unfold partC; simp only [e0.out, e1, if_true, Bool.true_eq_false, if_false])
    have e12 := Lib.hid (hend 2 (by omega) ev.out)
    clear hend
    go_wp2_with fail
    all_goals go_ret2
    all_goals (rw [ev.out, e12.out]; exact ⟨rfl, hB⟩)
  replace e1 := Lib.hid e1
  go_upto_region 6 with (fail)
  go_wp2_with (refine wpList_load_blk rfl hq 37 (.tmp 1) rfl rfl Try.underlying37 rfl hiC ?_)
  refine (refVips_any u0 c hC).mono ?_
  rintro e u1 ⟨rfl, hb⟩
  replace hC := hC.nx hb
  replace hq := hq.below hb hq.lt
  replace hB := hB.trans (hb.mono hB.size)
  clear hb
  cases e2 : vipsB c
  · skip
    have ev := Lib.hid (show partC c = 3 by unfold partC; simp only [e0.out, e1.out, e2, if_true, Bool.true_eq_false, if_false])
    have e12 := Lib.hid (hend 3 (by omega) ev.out)
    clear hend
    go_wp2_with fail
    all_goals go_ret2
    all_goals (rw [ev.out, e12.out]; exact ⟨rfl, hB⟩)
  replace e2 := Lib.hid e2
  go_upto_region 8 with (fail)
  go_wp2_with (refine wpList_load_blk rfl hq 37 (.tmp 1) rfl rfl Try.underlying37 rfl hiC ?_)
  refine (refPools_any u1 c hC hs).mono ?_
  rintro e u2 ⟨rfl, hb⟩
  replace hC := hC.nx hb
  replace hq := hq.below hb hq.lt
  replace hB := hB.trans (hb.mono hB.size)
  clear hb
  cases e3 : poolsB c
  · skip
    have ev := Lib.hid (show partC c = 4 by unfold partC; simp only [e0.out, e1.out, e2.out, e3, if_true, Bool.true_eq_false, if_false])
    have e12 := Lib.hid (hend 4 (by omega) ev.out)
    clear hend
    go_wp2_with fail
    all_goals go_ret2
    all_goals (rw [ev.out, e12.out]; exact ⟨rfl, hB⟩)
  replace e3 := Lib.hid e3
  go_upto_region 10 with (fail)
  go_wp2_with (refine wpList_load_blk rfl hq 37 (.tmp 1) rfl rfl Try.underlying37 rfl hiC ?_)
  refine (refSites_any u2 c hC hs).mono ?_
  rintro e u3 ⟨rfl, hb⟩
  replace hC := hC.nx hb
  replace hq := hq.below hb hq.lt
  replace hB := hB.trans (hb.mono hB.size)
  clear hb
  cases e4 : sitesB c
  · skip
    have ev := Lib.hid (show partC c = 5 by unfold partC; simp only [e0.out, e1.out, e2.out, e3.out, e4, if_true, Bool.true_eq_false, if_false])
    have e12 := Lib.hid (hend 5 (by omega) ev.out)
    clear hend
    go_wp2_with fail
    all_goals go_ret2
    all_goals (rw [ev.out, e12.out]; exact ⟨rfl, hB⟩)
  replace e4 := Lib.hid e4
  go_upto_region 12 with (fail)
  have q6 : u3.cell? ⟨w.heap.size, 6, none⟩ = some (.int .i64 c.rise) := hq.cellv 6 rfl
  have q7 : u3.cell? ⟨w.heap.size, 7, none⟩ = some (.int .i64 c.fall) := hq.cellv 7 rfl
  have q8 : u3.cell? ⟨w.heap.size, 8, none⟩ = some (.int .i64 c.every) := hq.cellv 8 rfl
  have q9 : u3.cell? ⟨w.heap.size, 9, none⟩ = some (.int .i64 c.pat) := hq.cellv 9 rfl
  have q10 : u3.cell? ⟨w.heap.size, 10, none⟩ = some (.int .i64 c.room) := hq.cellv 10 rfl
  have q11 : u3.cell? ⟨w.heap.size, 11, none⟩ = some (.int .i64 c.idle) := hq.cellv 11 rfl
  have ql := hq.lt
  go_wp2_with fail
  refine (refRiseN_any c.rise c.fall u3).mono ?_
  rintro e x2 ⟨p, rfl, hp, hb⟩
  clear q6 q7 q8 q9 q10 q11 ql
  replace hq := hq.below hb hq.lt
  replace hB := hB.trans (hb.mono hB.size)
  clear hb
  have q6 : x2.cell? ⟨w.heap.size, 6, none⟩ = some (.int .i64 c.rise) := hq.cellv 6 rfl
  have q7 : x2.cell? ⟨w.heap.size, 7, none⟩ = some (.int .i64 c.fall) := hq.cellv 7 rfl
  have q8 : x2.cell? ⟨w.heap.size, 8, none⟩ = some (.int .i64 c.every) := hq.cellv 8 rfl
  have q9 : x2.cell? ⟨w.heap.size, 9, none⟩ = some (.int .i64 c.pat) := hq.cellv 9 rfl
  have q10 : x2.cell? ⟨w.heap.size, 10, none⟩ = some (.int .i64 c.room) := hq.cellv 10 rfl
  have q11 : x2.cell? ⟨w.heap.size, 11, none⟩ = some (.int .i64 c.idle) := hq.cellv 11 rfl
  have ql := hq.lt
  cases p with
  | none =>
    have e5 : tabB c = false := by unfold tabB; rw [← hp]; rfl
    have ev := Lib.hid (show partC c = 6 by unfold partC; simp only [e0.out, e1.out, e2.out, e3.out, e4.out, e5, if_true, Bool.true_eq_false, if_false])
    have e12 := Lib.hid (hend 6 (by omega) ev.out)
    clear hend
    go_wp2_with fail
    all_goals go_ret2
    all_goals (rw [ev.out, e12.out]; exact ⟨rfl, hB⟩)
  | some b1 =>
  replace hp := Lib.hid hp
  go_wp2_with fail
  refine (refProbeN_any c.every c.pat x2).mono ?_
  rintro e x3 ⟨p, rfl, hp2, hb⟩
  clear q6 q7 q8 q9 q10 q11 ql
  replace hq := hq.below hb hq.lt
  replace hB := hB.trans (hb.mono hB.size)
  clear hb
  have q6 : x3.cell? ⟨w.heap.size, 6, none⟩ = some (.int .i64 c.rise) := hq.cellv 6 rfl
  have q7 : x3.cell? ⟨w.heap.size, 7, none⟩ = some (.int .i64 c.fall) := hq.cellv 7 rfl
  have q8 : x3.cell? ⟨w.heap.size, 8, none⟩ = some (.int .i64 c.every) := hq.cellv 8 rfl
  have q9 : x3.cell? ⟨w.heap.size, 9, none⟩ = some (.int .i64 c.pat) := hq.cellv 9 rfl
  have q10 : x3.cell? ⟨w.heap.size, 10, none⟩ = some (.int .i64 c.room) := hq.cellv 10 rfl
  have q11 : x3.cell? ⟨w.heap.size, 11, none⟩ = some (.int .i64 c.idle) := hq.cellv 11 rfl
  have ql := hq.lt
  cases p with
  | none =>
    have e5 : tabB c = false := by unfold tabB; rw [← hp.out, ← hp2]; rfl
    have ev := Lib.hid (show partC c = 6 by unfold partC; simp only [e0.out, e1.out, e2.out, e3.out, e4.out, e5, if_true, Bool.true_eq_false, if_false])
    have e12 := Lib.hid (hend 6 (by omega) ev.out)
    clear hend
    go_wp2_with fail
    all_goals go_ret2
    all_goals (rw [ev.out, e12.out]; exact ⟨rfl, hB⟩)
  | some b2 =>
  replace hp2 := Lib.hid hp2
  go_wp2_with fail
  refine (refFlowsN_any c.room c.idle x3).mono ?_
  rintro e x4 ⟨p, rfl, hp3, hb⟩
  clear q6 q7 q8 q9 q10 q11 ql
  replace hq := hq.below hb hq.lt
  replace hB := hB.trans (hb.mono hB.size)
  clear hb
  have q6 : x4.cell? ⟨w.heap.size, 6, none⟩ = some (.int .i64 c.rise) := hq.cellv 6 rfl
  have q7 : x4.cell? ⟨w.heap.size, 7, none⟩ = some (.int .i64 c.fall) := hq.cellv 7 rfl
  have q8 : x4.cell? ⟨w.heap.size, 8, none⟩ = some (.int .i64 c.every) := hq.cellv 8 rfl
  have q9 : x4.cell? ⟨w.heap.size, 9, none⟩ = some (.int .i64 c.pat) := hq.cellv 9 rfl
  have q10 : x4.cell? ⟨w.heap.size, 10, none⟩ = some (.int .i64 c.room) := hq.cellv 10 rfl
  have q11 : x4.cell? ⟨w.heap.size, 11, none⟩ = some (.int .i64 c.idle) := hq.cellv 11 rfl
  have ql := hq.lt
  cases p with
  | none =>
    have e5 : tabB c = false := by unfold tabB; rw [← hp.out, ← hp2.out, ← hp3]; rfl
    have ev := Lib.hid (show partC c = 6 by unfold partC; simp only [e0.out, e1.out, e2.out, e3.out, e4.out, e5, if_true, Bool.true_eq_false, if_false])
    have e12 := Lib.hid (hend 6 (by omega) ev.out)
    clear hend
    go_wp2_with fail
    all_goals go_ret2
    all_goals (rw [ev.out, e12.out]; exact ⟨rfl, hB⟩)
  | some b3 =>
  have e5 := Lib.hid (show tabB c = true by unfold tabB; rw [← hp.out, ← hp2.out, ← hp3]; rfl)
  clear hp hp2 hp3 q6 q7 q8 q9 q10 q11 ql
  go_upto_region 14 with (fail)
  have q13 : x4.cell? ⟨w.heap.size, 13, none⟩ = some (.int .i64 c.dF) := hq.cellv 13 rfl
  have q14 : x4.cell? ⟨w.heap.size, 14, none⟩ = some (.int .i64 c.dS) := hq.cellv 14 rfl
  have q15 : x4.cell? ⟨w.heap.size, 15, none⟩ = some (.int .i64 c.dR) := hq.cellv 15 rfl
  have q16 : x4.cell? ⟨w.heap.size, 16, none⟩ = some (.int .i64 c.dC) := hq.cellv 16 rfl
  have q17 : x4.cell? ⟨w.heap.size, 17, none⟩ = some (.int .i64 c.dH) := hq.cellv 17 rfl
  have ql := hq.lt
  go_wp2_with fail
  refine (dm.refGood_any c.dF c.dS c.dR c.dC c.dH x4).mono ?_
  rintro e x5 ⟨rfl, hb⟩
  clear q13 q14 q15 q16 q17 ql
  replace hq := hq.below hb hq.lt
  replace hB := hB.trans (hb.mono hB.size)
  clear hb
  have eD : dm.goodR c.dF c.dS c.dR c.dC c.dH = dampB c := rfl
  rw [eD]
  clear eD
  cases e6 : dampB c
  · skip
    have ev := Lib.hid (show partC c = 7 by unfold partC; simp only [e0.out, e1.out, e2.out, e3.out, e4.out, e5.out, e6, if_true, Bool.true_eq_false, if_false])
    have e12 := Lib.hid (hend 7 (by omega) ev.out)
    clear hend
    go_wp2_with fail
    all_goals go_ret2
    all_goals (rw [ev.out, e12.out]; exact ⟨rfl, hB⟩)
  replace e6 := Lib.hid e6
  go_upto_region 16 with (fail)
  have q12 : x5.cell? ⟨w.heap.size, 12, none⟩ = some (.int .i64 c.queue) := hq.cellv 12 rfl
  have q18 : x5.cell? ⟨w.heap.size, 18, none⟩ = some (.int .i64 c.ttl) := hq.cellv 18 rfl
  have ql := hq.lt
  cases e7 : ttlB c
  · have hsf := e7
    unfold ttlB rngB at hsf
    have ev := Lib.hid (show partC c = 8 by unfold partC; simp only [e0.out, e1.out, e2.out, e3.out, e4.out, e5.out, e6.out, e7, if_true, Bool.true_eq_false, if_false])
    have e12 := Lib.hid (hend 8 (by omega) ev.out)
    clear hend
    go_wp2_with fail
    all_goals first
      | (exfalso; simp at hsf; omega)
      | (go_ret2; rw [ev.out, e12.out]; exact ⟨rfl, hB⟩)
  have hsf := e7
  unfold ttlB rngB at hsf
  simp only [Bool.and_eq_true, decide_eq_true_eq] at hsf
  obtain ⟨⟨a1, a2⟩, a3, a4⟩ := hsf
  have d1 : decide (c.ttl < 1) = false := by simp; omega
  have d2 : decide (100000 < c.ttl) = false := by simp; omega
  have d3 : decide (c.queue < 8400) = false := by simp; omega
  have d4 : decide (65536 < c.queue) = false := by simp; omega
  clear a1 a2 a3 a4
  have ev := Lib.hid (show partC c = 0 by unfold partC; simp only [e0.out, e1.out, e2.out, e3.out, e4.out, e5.out, e6.out, e7, Bool.true_eq_false, if_false])
  have e0' := Lib.hid (show errC c = 0 by unfold errC; rw [ev.out]; rfl)
  clear hend
  go_wp2_with fail
  go_ret2
  rw [ev.out, e0'.out]
  exact ⟨rfl, hB⟩
end Go.Proofs.Ytgdeecmhhbdjgaa

/- damp: Ticks, and the laws DampTicks, DampNone. -/
namespace Go.Proofs.Ytgdeecmhhbdjgaa.dm
set_option linter.unusedVariables false
open Go.RowKit

/-- how many ticks from p down to R, in at most so many. -/
def tk (R H : Int) : Nat → Int → Nat
  | 0, _ => 0
  | f + 1, p => if R < p then tk R H f (decay p H) + 1 else 0
theorem tk_more (R H : Int) (hR : 0 ≤ R) : ∀ (f : Nat) (p : Int), p ≤ f → tk R H (f + 1) p = tk R H f p := by
  intro f
  induction f with
  | zero => intro p hp; simp only [tk]; rw [if_neg (by omega)]
  | succ f ih =>
    intro p hp
    show (if R < p then tk R H (f + 1) (decay p H) + 1 else 0) = (if R < p then tk R H f (decay p H) + 1 else 0)
    by_cases c : R < p
    · rw [if_pos c, if_pos c, ih]
      have := decay_lt p H (by omega); omega
    · rw [if_neg c, if_neg c]
theorem tk_enough (R H : Int) (hR : 0 ≤ R) (p : Int) (f : Nat) (hp : p ≤ f) : tk R H f p = tk R H p.toNat p := by
  have key : ∀ k : Nat, tk R H (p.toNat + k) p = tk R H p.toNat p := by
    intro k
    induction k with
    | zero => rfl
    | succ k ih => rw [← Nat.add_assoc, tk_more R H hR _ p (by omega), ih]
  have := key (f - p.toNat)
  rw [show p.toNat + (f - p.toNat) = f from by omega] at this
  exact this
/-- how many ticks from p on. -/
def ticks (R H p : Int) : Nat := tk R H p.toNat p
theorem ticks_step (R H p : Int) (hR : 0 ≤ R) (h : R < p) : ticks R H p = ticks R H (decay p H) + 1 := by
  unfold ticks
  obtain ⟨f, hf⟩ : ∃ f, p.toNat = f + 1 := ⟨p.toNat - 1, by omega⟩
  rw [hf, tk, if_pos h, tk_enough R H hR (decay p H) f]
  have := decay_lt p H (by omega); omega
theorem ticks_end (R H p : Int) (h : p ≤ R) : ticks R H p = 0 := by
  unfold ticks
  cases p.toNat with
  | zero => rfl
  | succ f => rw [tk, if_neg (by omega)]
theorem ticks_le (R H p : Int) (hR : 0 ≤ R) : ticks R H p ≤ p.toNat := by
  have key : ∀ (n : Nat) (p : Int), p.toNat ≤ n → ticks R H p ≤ p.toNat := by
    intro n
    induction n with
    | zero => intro p hp; rw [ticks_end R H p (by omega)]; omega
    | succ n ih =>
      intro p hp
      by_cases c : R < p
      · have h1 := decay_lt p H (by omega)
        have h2 := decay_lo p H
        have h3 := ih (decay p H) (by omega)
        rw [ticks_step R H p hR c]; omega
      · rw [ticks_end R H p (by omega)]; omega
  exact key _ p (Nat.le_refl _)
theorem ticks_mono (R H p q : Int) (hR : 0 ≤ R) (hpq : p ≤ q) : ticks R H p ≤ ticks R H q := by
  have key : ∀ (n : Nat) (p q : Int), p.toNat ≤ n → p ≤ q → ticks R H p ≤ ticks R H q := by
    intro n
    induction n with
    | zero => intro p q hp hpq; rw [ticks_end R H p (by omega)]; omega
    | succ n ih =>
      intro p q hp hpq
      by_cases c : R < p
      · have h1 := decay_lt p H (by omega)
        have h2 := decay_lo p H
        have h3 := ih (decay p H) (decay q H) (by omega) (decay_mono p q H hpq)
        rw [ticks_step R H p hR c, ticks_step R H q hR (by omega)]; omega
      · rw [ticks_end R H p (by omega)]; omega
  exact key _ p q (Nat.le_refl _) hpq

set_option maxHeartbeats 1000000 in
theorem ticks_yes (F S R C H : Int) (w : World) (h : goodR F S R C H = true) :
    Calls Try.prog 37 #[.agg #[.int .i64 F, .int .i64 S, .int .i64 R, .int .i64 C, .int .i64 H]] w fun e w' => e = .returned (.int .i64 (ticks R H C : Nat)) ∧ Below w.heap.size w w' := by
  obtain ⟨_, _, _, _, h5, h6, h7, h8, _, _⟩ := of_decide_eq_true h
  have HH := Lib.hid h
  clear h
  have hlim := ticks_le R H C h5
  go_enter Try.func37, Try.ntmps37
  go_wp2_with fail
  refine (good_yes F S R C H _ HH.out).mono ?_
  rintro e w1 ⟨rfl, hb⟩
  have hk := (Blk.new w 27 #[.int .i64 F, .int .i64 S, .int .i64 R, .int .i64 C, .int .i64 H]).below hb (by simp)
  have c2 := hk.cellv 2 (v := .int .i64 R) rfl
  have c3 := hk.cellv 3 (v := .int .i64 C) rfl
  have c4 := hk.cellv 4 (v := .int .i64 H) rfl
  have HB : Hid (Below w.heap.size w w1) := ((Below.refl _ _).alloc (Nat.le_refl _) _).trans (hb.mono (by simp))
  clear hk hb
  go_wp2_with fail
  go_loop [3, 4] (fun n p => ∃ (k : Nat) (q : Int), q ≤ C ∧ 0 ≤ q ∧ k + ticks R H q = ticks R H C ∧ n = .int .i64 k ∧ p = .int .i64 q) (fun _ p => (intOf p).toNat)
  case atStart => exact ⟨0, C, Int.le_refl _, by omega, Nat.zero_add _, rfl, rfl⟩
  case round =>
    obtain ⟨k, q, q1, q2, hq, rfl, rfl⟩ := hrel
    have hk : k ≤ ticks R H C := by omega
    have HQ := Lib.hid hq
    clear hq
    by_cases c : R < q
    · have l1 := decay_lt q H (by omega)
      have l2 := decay_lo q H
      go_wp2_with (go_at_call 59; refine (decay_any _ _ _ (by omega) (by omega)).mono ?_; rintro e w' ⟨rfl, rfl⟩)
      go_round
      case rel => exact ⟨k + 1, decay q H, by omega, by omega, by rw [← HQ.out, ticks_step R H q h5 c]; omega, by go_num, rfl⟩
      case measure => simp [intOf]; omega
    · have HE : Hid ((k : Int) = (ticks R H C : Nat)) := by rw [← HQ.out, ticks_end R H q (by omega)]; rfl
      go_wp2_with fail
      go_ret
      exact ⟨by rw [← HE.out]; rfl, HB.out⟩

set_option maxHeartbeats 1000000 in
theorem refTicks_yes (F S R C H : Int) (w : World) (h : goodR F S R C H = true) :
    Calls Try.prog 38 #[.agg #[.int .i64 F, .int .i64 S, .int .i64 R, .int .i64 C, .int .i64 H]] w fun e w' => e = .returned (.int .i64 (ticks R H C : Nat)) ∧ Below w.heap.size w w' := by
  obtain ⟨_, _, _, _, h5, h6, h7, h8, _, _⟩ := of_decide_eq_true h
  have HH := Lib.hid h
  clear h
  have hlim := ticks_le R H C h5
  go_enter Try.func38, Try.ntmps38
  go_wp2_with fail
  refine (refGood_any F S R C H _).mono ?_
  rintro e w1 ⟨rfl, hb⟩
  rw [HH.out]
  have hk := (Blk.new w 35 #[.int .i64 F, .int .i64 S, .int .i64 R, .int .i64 C, .int .i64 H]).below hb (by simp)
  have c2 := hk.cellv 2 (v := .int .i64 R) rfl
  have c3 := hk.cellv 3 (v := .int .i64 C) rfl
  have c4 := hk.cellv 4 (v := .int .i64 H) rfl
  have HB : Hid (Below w.heap.size w w1) := ((Below.refl _ _).alloc (Nat.le_refl _) _).trans (hb.mono (by simp))
  clear hk hb
  go_wp2_with fail
  go_loop [3, 4] (fun n p => ∃ (k : Nat) (q : Int), q ≤ C ∧ 0 ≤ q ∧ k + ticks R H q = ticks R H C ∧ n = .int .i64 k ∧ p = .int .i64 q) (fun _ p => (intOf p).toNat)
  case atStart => exact ⟨0, C, Int.le_refl _, by omega, Nat.zero_add _, rfl, rfl⟩
  case round =>
    obtain ⟨k, q, q1, q2, hq, rfl, rfl⟩ := hrel
    have hk : k ≤ ticks R H C := by omega
    have HQ := Lib.hid hq
    clear hq
    by_cases c : R < q
    · have l1 := decay_lt q H (by omega)
      have l2 := decay_lo q H
      go_wp2_with (go_at_call 60; refine (refDecay_any _ _ _ (by omega) (by omega)).mono ?_; rintro e w' ⟨rfl, rfl⟩)
      go_round
      case rel => exact ⟨k + 1, decay q H, by omega, by omega, by rw [← HQ.out, ticks_step R H q h5 c]; omega, by go_num, rfl⟩
      case measure => simp [intOf]; omega
    · have HE : Hid ((k : Int) = (ticks R H C : Nat)) := by rw [← HQ.out, ticks_end R H q (by omega)]; rfl
      go_wp2_with fail
      go_ret
      exact ⟨by rw [← HE.out]; rfl, HB.out⟩

set_option maxHeartbeats 400000 in
theorem ticks_no (F S R C H : Int) (w : World) (h : goodR F S R C H = false) :
    Calls Try.prog 37 #[.agg #[.int .i64 F, .int .i64 S, .int .i64 R, .int .i64 C, .int .i64 H]] w fun e w' => e = .returned (.int .i64 0) ∧ Below w.heap.size w w' := by
  have HH := Lib.hid h
  clear h
  go_enter Try.func37, Try.ntmps37
  go_wp2_with fail
  refine (good_no F S R C H _ HH.out).mono ?_
  rintro e w1 ⟨rfl, hb⟩
  have hB : Below w.heap.size w w1 := ((Below.refl _ _).alloc (Nat.le_refl _) _).trans (hb.mono (by simp))
  clear hb
  go_wp2_with fail
  go_ret
  exact ⟨rfl, hB⟩
set_option maxHeartbeats 400000 in
theorem refTicks_no (F S R C H : Int) (w : World) (h : goodR F S R C H = false) :
    Calls Try.prog 38 #[.agg #[.int .i64 F, .int .i64 S, .int .i64 R, .int .i64 C, .int .i64 H]] w fun e w' => e = .returned (.int .i64 0) ∧ Below w.heap.size w w' := by
  have HH := Lib.hid h
  clear h
  go_enter Try.func38, Try.ntmps38
  go_wp2_with fail
  refine (refGood_any F S R C H _).mono ?_
  rintro e w1 ⟨rfl, hb⟩
  rw [HH.out]
  have hB : Below w.heap.size w w1 := ((Below.refl _ _).alloc (Nat.le_refl _) _).trans (hb.mono (by simp))
  clear hb
  go_wp2_with fail
  go_ret
  exact ⟨rfl, hB⟩

end Go.Proofs.Ytgdeecmhhbdjgaa.dm

/- config: small, lives, how long an announcement waits. -/
namespace Go.Proofs.Ytgdeecmhhbdjgaa
set_option linter.unusedVariables false
open Go Go.RowKit Go.Maps

def smallB (c : CfgV) : Bool := decide (c.pn ≤ 20) && (decide (c.vn ≤ 40) && (decide (c.sn ≤ 40) && c.V.all fun v => decide (v.n ≤ 40)))
theorem small_sm {c : CfgV} (h : smallB c = true) : CfgSm c := by
  unfold smallB at h
  simp only [Bool.and_eq_true, decide_eq_true_eq, List.all_eq_true] at h
  exact ⟨h.1, h.2.1, h.2.2.1, h.2.2.2⟩
/-- the greatest gap of the first k peers. -/
def gapL : List PeerV → Nat → Int
  | _, 0 => 0
  | P, k + 1 => max (gapL P k) ((P[k]?.map PeerV.gap).getD 0)
def slowC (c : CfgV) : Int := (dm.ticks c.dR c.dH c.dC : Nat) + gapL c.P c.pn + 2
set_option maxRecDepth 100000 in
set_option maxHeartbeats 8000000 in
theorem small_any (w : World) (c : CfgV) (h : CfgIn w c) : Calls Try.prog 4 #[.agg (cfgC c)] w fun e w' => e = .returned (.bool (smallB c)) ∧ Below w.heap.size w w' := by
  have hB := (Below.refl w.heap.size w).alloc (Nat.le_refl _) (.cells (cfgC c) 29)
  have hq := Blk.new w 29 (cfgC c)
  have hVl := Lib.hid h.vips.1
  obtain ⟨A, hA⟩ : ∃ A, A = c.vA := ⟨_, rfl⟩
  have hSv := h.vips
  rw [← hA] at hSv
  go_enter Try.func4, Try.ntmps4
  go_upto_region 1 with (fail)
  generalize w.alloc (.cells (cfgC c) 29) = w1 at *
  have q3 : w1.cell? ⟨w.heap.size, 3, none⟩ = some (.slice c.pA c.pn c.pc) := hq.cellv 3 rfl
  have q4 : w1.cell? ⟨w.heap.size, 4, none⟩ = some (.slice A c.vn c.vc) := by rw [hA]; exact hq.cellv 4 rfl
  have q5 : w1.cell? ⟨w.heap.size, 5, none⟩ = some (.slice c.sA c.sn c.sc) := hq.cellv 5 rfl
  have ql := hq.lt
  replace hA := Lib.hid hA
  by_cases h0 : c.pn ≤ 20 ∧ c.vn ≤ 40 ∧ c.sn ≤ 40
  rotate_left
  · have ev := Lib.hid (show smallB c = false by unfold smallB; rw [Bool.eq_false_iff]; simp only [ne_eq, Bool.and_eq_true, decide_eq_true_eq]; exact fun q => h0 ⟨q.1, q.2.1, q.2.2.1⟩)
    by_cases k1 : c.pn ≤ 20
    · have d1 : decide ((20 : Int) < c.pn) = false := by simp; omega
      by_cases k2 : c.vn ≤ 40
      · have d2 : decide ((40 : Int) < c.vn) = false := by simp; omega
        have d3 : decide ((40 : Int) < c.sn) = true := by simp; omega
        clear h0
        go_wp2_with fail
        go_ret
        exact ⟨ret_bool ev.out.symm, hB⟩
      · have d2 : decide ((40 : Int) < c.vn) = true := by simp; omega
        clear h0
        go_wp2_with fail
        go_ret
        exact ⟨ret_bool ev.out.symm, hB⟩
    · have d1 : decide ((20 : Int) < c.pn) = true := by simp; omega
      clear h0
      go_wp2_with fail
      go_ret
      exact ⟨ret_bool ev.out.symm, hB⟩
  obtain ⟨k1, k2, k3⟩ := h0
  have d1 : decide ((20 : Int) < c.pn) = false := by simp; omega
  have d2 : decide ((40 : Int) < c.vn) = false := by simp; omega
  have d3 : decide ((40 : Int) < c.sn) = false := by simp; omega
  go_upto_region 4 with (fail)
  clear q3 q4 q5 ql d1 d2 d3
  go_loopw [24] (fun i wr => ∃ k : Nat, k ≤ c.vn ∧ i = .int .i64 (k : Int) ∧ (∀ j a, j < k → c.V[j]? = some a → a.n ≤ 40) ∧ Below w.heap.size w wr) (fun i _ => c.vn - (intOf i).toNat)
  case atStart => exact ⟨0, Nat.zero_le _, rfl, fun j a hj => absurd hj (by omega), hB⟩
  case round =>
  clear hq hB
  obtain ⟨k, hk, rfl, hall, hB⟩ := hrel
  replace hall := Lib.hid hall
  by_cases hlt : k < c.vn
  · have hki : (k : Int) < c.vn := by omega
    have hk0 : (0 : Int) ≤ k := by omega
    have hk40 : (k : Int) ≤ 40 := by omega
    obtain ⟨b, off, v, e1, hb, hv, hok, r0, r1, r2⟩ := vip_cells (seen_nx hSv hB) hlt
    subst e1
    have hv9 := Lib.hid hv
    have hbx := (Below.refl wr.heap.size wr).alloc (Nat.le_refl _) (.cells #[.int .u32 v.ad, .int .i64 v.pct, .slice v.A v.n v.c] 60)
    have h5 := Blk.new wr 60 #[.int .u32 v.ad, .int .i64 v.pct, .slice v.A v.n v.c]
    replace hB := hB.trans (hbx.mono hB.size)
    clear hv
    go_upto_region 6 with (fail)
    generalize wr.alloc (.cells #[.int .u32 v.ad, .int .i64 v.pct, .slice v.A v.n v.c] 60) = w3 at *
    generalize wr.heap.size = g5 at *
    have s2 : w3.cell? ⟨g5, 2, none⟩ = some (.slice v.A v.n v.c) := h5.cellv 2 rfl
    have sl := h5.lt
    clear r0 r1 r2 hbx hb
    by_cases hn : v.n ≤ 40
    · have d1 : decide ((40 : Int) < v.n) = false := by simp; omega
      have hall2 := Lib.hid (show ∀ j a, j < k + 1 → c.V[j]? = some a → a.n ≤ 40 from fun j a hj ha => by
        by_cases hjk : j < k
        · exact hall.out j a hjk ha
        · obtain rfl : j = k := by omega
          rw [hv9.out] at ha; injection ha with ha; subst ha
          exact hn)
      go_wp2_with fail
      exact ⟨⟨k + 1, by omega, by go_num, hall2.out, hB⟩, by simp [intOf]; omega⟩
    · have d1 : decide ((40 : Int) < v.n) = true := by simp; omega
      have ev := Lib.hid (show smallB c = false by unfold smallB; rw [all_no hv9.out (by simp; omega)]; simp)
      go_wp2_with fail
      go_ret
      exact ⟨ret_bool ev.out.symm, hB⟩
  · obtain rfl : k = c.vn := by omega
    have ev := Lib.hid (show smallB c = true by
      unfold smallB
      rw [all_yes fun j a ha => by simpa using hall.out j a (by have := (List.getElem?_eq_some_iff.1 ha).1; have := hVl.out; omega) ha]
      simp [k1, k2, k3])
    go_wp2_with fail
    go_ret
    exact ⟨ret_bool ev.out.symm, hB⟩
theorem quiet_any (w : World) : Calls Try.prog 17 #[] w fun e w' => e = .returned (.int .i64 4400) ∧ w = w' := by
  go_enter Try.func17, Try.ntmps17
  go_wp2_with fail
  go_ret
  exact ⟨rfl, rfl⟩
theorem cfg0_in (w : World) : CfgIn w (⟨1, 1, 1, none, 0, 0, [], none, 0, 0, [], none, 0, 0, [], 0, 0, 0, 0, 0, 0, 0, 0, 0, 0, 0, 0, 0⟩ : CfgV) :=
  ⟨⟨by decide, by decide⟩, ⟨by decide, by decide⟩, by unfold IsI; decide, by unfold IsI; decide, by decide, Seen.none_, Seen.none_, Seen.none_⟩
set_option maxRecDepth 100000 in
set_option maxHeartbeats 8000000 in
theorem lives32_any (w : World) : Calls Try.prog 5 #[] w fun e w' => e = .returned (.bool true) ∧ Below w.heap.size w w' := by
  have hc := checkC_any w (⟨1, 1, 1, none, 0, 0, [], none, 0, 0, [], none, 0, 0, [], 0, 0, 0, 0, 0, 0, 0, 0, 0, 0, 0, 0, 0⟩ : CfgV) (cfg0_in w) ⟨by decide, by decide, by decide, fun x hx => by cases hx⟩
  have e1 : partC (⟨1, 1, 1, none, 0, 0, [], none, 0, 0, [], none, 0, 0, [], 0, 0, 0, 0, 0, 0, 0, 0, 0, 0, 0, 0, 0⟩ : CfgV) = 3 := by decide
  have e2 : errC (⟨1, 1, 1, none, 0, 0, [], none, 0, 0, [], none, 0, 0, [], 0, 0, 0, 0, 0, 0, 0, 0, 0, 0, 0, 0, 0⟩ : CfgV) = 12 := by unfold errC; rw [e1]; rfl
  rw [e1, e2] at hc
  clear e1 e2
  go_enter Try.func5, Try.ntmps5
  go_wp2_with fail
  refine hc.mono ?_
  rintro e w2 ⟨rfl, hb⟩
  clear hc
  go_wp2_with fail
  refine (quiet_any w2).mono ?_
  rintro e w3 ⟨rfl, rfl⟩
  go_wp2_with fail
  go_ret
  exact ⟨rfl, hb⟩
end Go.Proofs.Ytgdeecmhhbdjgaa

/- config: how long an announcement waits. -/
namespace Go.Proofs.Ytgdeecmhhbdjgaa
set_option linter.unusedVariables false
open Go Go.RowKit Go.Maps

theorem ok_parts {c : CfgV} (h : partC c = 0) : peersB c = true ∧ dampB c = true := by
  unfold partC at h
  split at h
  · cases h
  split at h
  · cases h
  split at h
  · cases h
  split at h
  · cases h
  split at h
  · cases h
  split at h
  · cases h
  split at h
  · cases h
  · rename_i h2 h3 h4 h5 h6 h7 h8
    exact ⟨by simpa using h3, by simpa using h8⟩
theorem gap_bd {c : CfgV} (h : peersB c = true) : ∀ k, 0 ≤ gapL c.P k ∧ gapL c.P k ≤ 65535
  | 0 => by simp [gapL]
  | k + 1 => by
    have ih := gap_bd h k
    unfold gapL
    have : 0 ≤ (c.P[k]?.map PeerV.gap).getD 0 ∧ (c.P[k]?.map PeerV.gap).getD 0 ≤ 65535 := by
      cases hp : c.P[k]? with
      | none => simp
      | some p =>
        unfold peersB at h
        simp only [Bool.and_eq_true, List.all_eq_true] at h
        have := h.2 p (List.mem_of_getElem? hp)
        unfold peerB spkB at this
        simp only [Bool.and_eq_true, rngB_iff] at this
        simpa using this.1.2
    omega
theorem gap_at {P : List PeerV} {k : Nat} {p : PeerV} (h : P[k]? = some p) : gapL P (k + 1) = max (gapL P k) p.gap := by
  simp only [gapL, h]
  rfl
set_option maxRecDepth 100000 in
set_option maxHeartbeats 8000000 in
theorem slow_any (w : World) (c : CfgV) (h : CfgIn w c) (hs : CfgSm c) (hok : partC c = 0) : Calls Try.prog 15 #[.agg (cfgC c)] w fun e w' => e = .returned (.int .i64 (slowC c)) ∧ Below w.heap.size w w' := by
  obtain ⟨hpe, hda⟩ := ok_parts hok
  clear hok
  have hgb := gap_bd hpe
  have htk : (dm.ticks c.dR c.dH c.dC : Int) ≤ 1000000 := by
    have hd : dm.goodR c.dF c.dS c.dR c.dC c.dH = true := hda
    obtain ⟨_, _, _, _, h5, h6, h7, h8, _, _⟩ := of_decide_eq_true hd
    have := dm.ticks_le c.dR c.dH c.dC h5
    omega
  have hB := (Below.refl w.heap.size w).alloc (Nat.le_refl _) (.cells (cfgC c) 29)
  have hq := Blk.new w 29 (cfgC c)
  have hPl := Lib.hid h.peers.1
  obtain ⟨A, hA⟩ : ∃ A, A = c.pA := ⟨_, rfl⟩
  have hSv := h.peers
  rw [← hA] at hSv
  go_enter Try.func15, Try.ntmps15
  go_upto_region 1 with (fail)
  generalize w.alloc (.cells (cfgC c) 29) = w1 at *
  have q3 : w1.cell? ⟨w.heap.size, 3, none⟩ = some (.slice A c.pn c.pc) := by rw [hA]; exact hq.cellv 3 rfl
  have ql := hq.lt
  replace hA := Lib.hid hA
  go_upto_region 3 with (fail)
  clear q3 ql
  go_loopw [3, 9] (fun gv i wr => ∃ k : Nat, k ≤ c.pn ∧ i = .int .i64 (k : Int) ∧ gv = .int .i64 (gapL c.P k) ∧ Blk wr w.heap.size 29 (cfgC c) ∧ Below w.heap.size w wr) (fun _ i _ => c.pn - (intOf i).toNat)
  case atStart => exact ⟨0, Nat.zero_le _, rfl, rfl, hq, hB⟩
  case round =>
  clear hq hB
  obtain ⟨k, hk, rfl, rfl, hq, hB⟩ := hrel
  have hgk := hgb k
  by_cases hlt : k < c.pn
  · have hki : (k : Int) < c.pn := by omega
    have hk0 : (0 : Int) ≤ k := by omega
    have hk40 : (k : Int) ≤ 40 := by have := hs.p; omega
    obtain ⟨b, off, p, e1, hb, hp, hok, r0, r1, r2, r3, r4, r5, r6⟩ := peer_cells (seen_nx hSv hB) hlt
    subst e1
    have hgs := Lib.hid (gap_at hp)
    have hbx := (Below.refl wr.heap.size wr).alloc (Nat.le_refl _) (.cells #[.int .i64 p.as_, .int .i64 p.hold, .int .i64 p.retry, .int .i64 p.gap, .int .i64 p.med, .int .i64 p.prep, .int .i64 p.back] 71)
    have h5 := Blk.new wr 71 #[.int .i64 p.as_, .int .i64 p.hold, .int .i64 p.retry, .int .i64 p.gap, .int .i64 p.med, .int .i64 p.prep, .int .i64 p.back]
    replace hq := hq.below hbx hq.lt
    replace hB := hB.trans (hbx.mono hB.size)
    clear hp
    go_upto_region 5 with (fail)
    generalize wr.alloc (.cells #[.int .i64 p.as_, .int .i64 p.hold, .int .i64 p.retry, .int .i64 p.gap, .int .i64 p.med, .int .i64 p.prep, .int .i64 p.back] 71) = w3 at *
    generalize wr.heap.size = g5 at *
    have s3 : w3.cell? ⟨g5, 3, none⟩ = some (.int .i64 p.gap) := h5.cellv 3 rfl
    have sl := h5.lt
    clear r0 r1 r2 r3 r4 r5 r6 hbx hb
    generalize hG : gapL c.P k = G at *
    replace hG := Lib.hid hG
    by_cases hlg : G < p.gap
    · have d1 : decide (G < p.gap) = true := by simpa using hlg
      have eg := Lib.hid (show gapL c.P (k + 1) = p.gap by rw [hgs.out]; omega)
      have em := Lib.hid (show max G p.gap = p.gap by omega)
      go_wp2_with fail
      exact ⟨⟨k + 1, by omega, by go_num, by (try rw [em.out]); rw [eg.out], hq, hB⟩, by simp [intOf]; omega⟩
    · have d1 : decide (G < p.gap) = false := by simpa using hlg
      have eg := Lib.hid (show gapL c.P (k + 1) = G by rw [hgs.out]; omega)
      have em := Lib.hid (show max G p.gap = G by omega)
      go_wp2_with fail
      exact ⟨⟨k + 1, by omega, by go_num, by (try rw [em.out]); rw [eg.out], hq, hB⟩, by simp [intOf]; omega⟩
  · obtain rfl : k = c.pn := by omega
    go_upto_region 7 with (fail)
    have q13 : wr.cell? ⟨w.heap.size, 13, none⟩ = some (.int .i64 c.dF) := hq.cellv 13 rfl
    have q14 : wr.cell? ⟨w.heap.size, 14, none⟩ = some (.int .i64 c.dS) := hq.cellv 14 rfl
    have q15 : wr.cell? ⟨w.heap.size, 15, none⟩ = some (.int .i64 c.dR) := hq.cellv 15 rfl
    have q16 : wr.cell? ⟨w.heap.size, 16, none⟩ = some (.int .i64 c.dC) := hq.cellv 16 rfl
    have q17 : wr.cell? ⟨w.heap.size, 17, none⟩ = some (.int .i64 c.dH) := hq.cellv 17 rfl
    have ql := hq.lt
    have ev := Lib.hid (show slowC c = (dm.ticks c.dR c.dH c.dC : Nat) + gapL c.P c.pn + 2 from rfl)
    generalize gapL c.P c.pn = G at *
    have ht := dm.ticks_yes c.dF c.dS c.dR c.dC c.dH wr hda
    generalize dm.ticks c.dR c.dH c.dC = T at *
    have ht0 : (0 : Int) ≤ T := by omega
    go_wp2_with fail
    refine ht.mono ?_
    rintro e w4 ⟨rfl, hb⟩
    go_wp2_with fail
    go_ret
    exact ⟨ret_int ev.out.symm, hB.trans (hb.mono hB.size)⟩
set_option maxRecDepth 100000 in
set_option maxHeartbeats 8000000 in
theorem refSlow_any (w : World) (c : CfgV) (h : CfgIn w c) (hs : CfgSm c) (hok : partC c = 0) : Calls Try.prog 16 #[.agg (cfgC c)] w fun e w' => e = .returned (.int .i64 (slowC c)) ∧ Below w.heap.size w w' := by
  obtain ⟨hpe, hda⟩ := ok_parts hok
  clear hok
  have hgb := gap_bd hpe
  have htk : (dm.ticks c.dR c.dH c.dC : Int) ≤ 1000000 := by
    have hd : dm.goodR c.dF c.dS c.dR c.dC c.dH = true := hda
    obtain ⟨_, _, _, _, h5, h6, h7, h8, _, _⟩ := of_decide_eq_true hd
    have := dm.ticks_le c.dR c.dH c.dC h5
    omega
  have hB := (Below.refl w.heap.size w).alloc (Nat.le_refl _) (.cells (cfgC c) 37)
  have hq := Blk.new w 37 (cfgC c)
  have hPl := Lib.hid h.peers.1
  obtain ⟨A, hA⟩ : ∃ A, A = c.pA := ⟨_, rfl⟩
  have hSv := h.peers
  rw [← hA] at hSv
  go_enter Try.func16, Try.ntmps16
  go_upto_region 1 with (fail)
  generalize w.alloc (.cells (cfgC c) 37) = w1 at *
  have q3 : w1.cell? ⟨w.heap.size, 3, none⟩ = some (.slice A c.pn c.pc) := by rw [hA]; exact hq.cellv 3 rfl
  have ql := hq.lt
  replace hA := Lib.hid hA
  go_upto_region 3 with (fail)
  clear q3 ql
  go_loopw [3, 9] (fun gv i wr => ∃ k : Nat, k ≤ c.pn ∧ i = .int .i64 (k : Int) ∧ gv = .int .i64 (gapL c.P k) ∧ Blk wr w.heap.size 37 (cfgC c) ∧ Below w.heap.size w wr) (fun _ i _ => c.pn - (intOf i).toNat)
  case atStart => exact ⟨0, Nat.zero_le _, rfl, rfl, hq, hB⟩
  case round =>
  clear hq hB
  obtain ⟨k, hk, rfl, rfl, hq, hB⟩ := hrel
  have hgk := hgb k
  by_cases hlt : k < c.pn
  · have hki : (k : Int) < c.pn := by omega
    have hk0 : (0 : Int) ≤ k := by omega
    have hk40 : (k : Int) ≤ 40 := by have := hs.p; omega
    obtain ⟨b, off, p, e1, hb, hp, hok, r0, r1, r2, r3, r4, r5, r6⟩ := peer_cells (seen_nx hSv hB) hlt
    subst e1
    have hgs := Lib.hid (gap_at hp)
    have hbx := (Below.refl wr.heap.size wr).alloc (Nat.le_refl _) (.cells #[.int .i64 p.as_, .int .i64 p.hold, .int .i64 p.retry, .int .i64 p.gap, .int .i64 p.med, .int .i64 p.prep, .int .i64 p.back] 72)
    have h5 := Blk.new wr 72 #[.int .i64 p.as_, .int .i64 p.hold, .int .i64 p.retry, .int .i64 p.gap, .int .i64 p.med, .int .i64 p.prep, .int .i64 p.back]
    replace hq := hq.below hbx hq.lt
    replace hB := hB.trans (hbx.mono hB.size)
    clear hp
    go_upto_region 5 with (fail)
    generalize wr.alloc (.cells #[.int .i64 p.as_, .int .i64 p.hold, .int .i64 p.retry, .int .i64 p.gap, .int .i64 p.med, .int .i64 p.prep, .int .i64 p.back] 72) = w3 at *
    generalize wr.heap.size = g5 at *
    have s3 : w3.cell? ⟨g5, 3, none⟩ = some (.int .i64 p.gap) := h5.cellv 3 rfl
    have sl := h5.lt
    clear r0 r1 r2 r3 r4 r5 r6 hbx hb
    generalize hG : gapL c.P k = G at *
    replace hG := Lib.hid hG
    by_cases hlg : G < p.gap
    · have d1 : decide (G < p.gap) = true := by simpa using hlg
      have eg := Lib.hid (show gapL c.P (k + 1) = p.gap by rw [hgs.out]; omega)
      have em := Lib.hid (show max G p.gap = p.gap by omega)
      go_wp2_with fail
      exact ⟨⟨k + 1, by omega, by go_num, by (try rw [em.out]); rw [eg.out], hq, hB⟩, by simp [intOf]; omega⟩
    · have d1 : decide (G < p.gap) = false := by simpa using hlg
      have eg := Lib.hid (show gapL c.P (k + 1) = G by rw [hgs.out]; omega)
      have em := Lib.hid (show max G p.gap = G by omega)
      go_wp2_with fail
      exact ⟨⟨k + 1, by omega, by go_num, by (try rw [em.out]); rw [eg.out], hq, hB⟩, by simp [intOf]; omega⟩
  · obtain rfl : k = c.pn := by omega
    go_upto_region 8 with (fail)
    have q13 : wr.cell? ⟨w.heap.size, 13, none⟩ = some (.int .i64 c.dF) := hq.cellv 13 rfl
    have q14 : wr.cell? ⟨w.heap.size, 14, none⟩ = some (.int .i64 c.dS) := hq.cellv 14 rfl
    have q15 : wr.cell? ⟨w.heap.size, 15, none⟩ = some (.int .i64 c.dR) := hq.cellv 15 rfl
    have q16 : wr.cell? ⟨w.heap.size, 16, none⟩ = some (.int .i64 c.dC) := hq.cellv 16 rfl
    have q17 : wr.cell? ⟨w.heap.size, 17, none⟩ = some (.int .i64 c.dH) := hq.cellv 17 rfl
    have ql := hq.lt
    have ev := Lib.hid (show slowC c = (dm.ticks c.dR c.dH c.dC : Nat) + gapL c.P c.pn + 2 from rfl)
    generalize gapL c.P c.pn = G at *
    have ht := dm.refTicks_yes c.dF c.dS c.dR c.dC c.dH wr hda
    generalize dm.ticks c.dR c.dH c.dC = T at *
    have ht0 : (0 : Int) ≤ T := by omega
    go_wp2_with fail
    refine ht.mono ?_
    rintro e w4 ⟨rfl, hb⟩
    go_wp2_with fail
    go_ret
    exact ⟨ret_int ev.out.symm, hB.trans (hb.mono hB.size)⟩
end Go.Proofs.Ytgdeecmhhbdjgaa

/- config: plain: a configuration in the document's form. -/
namespace Go.Proofs.Ytgdeecmhhbdjgaa
set_option linter.unusedVariables false
open Go Go.RowKit Go.Maps

/-- vips as cells alone. -/
def vipT : RK VipV where
  size := 3
  cel := vipC
  ok _ _ _ := True
  pos := by omega
  len _ := rfl
  one _ u hu := by simp [vipC] at hu; rcases hu with rfl | rfl | rfl <;> rfl
  keep _ _ := trivial
  more _ _ := trivial
theorem vip_ofT {w : World} {S : Nat → Prop} {A : Option Addr} {n : Nat} {L : List VipV} (h : Seen vipT w S A n L) (hok : ∀ a ∈ L, vipK.ok w S a) : Seen vipK w S A n L := ⟨h.1, hok, h.2.2⟩
theorem peerE_ok : ElemOk Try.prog 32 72 peerK.size 56 (.agg #[.int .i64 0, .int .i64 0, .int .i64 0, .int .i64 0, .int .i64 0, .int .i64 0, .int .i64 0]) := ⟨Try.underlying32, by kernel_rfl, rfl, peerK.pos⟩
theorem vipE_ok : ElemOk Try.prog 33 65 vipT.size 40 (.agg #[.int .u32 0, .int .i64 0, .slice none 0 0]) := ⟨Try.underlying33, by kernel_rfl, rfl, vipT.pos⟩
theorem siteE_ok : ElemOk Try.prog 34 75 siteK.size 24 (.agg #[.int .i64 0, .int .u32 0, .int .i64 0]) := ⟨Try.underlying34, by kernel_rfl, rfl, siteK.pos⟩
/-- the configuration with other rows. -/
def outC (c : CfgV) (v3 v4 v5 : Value) : Array Value := #[.int .i64 c.as_, .int .u32 c.id, .int .u32 c.own, v3, v4, v5, .int .i64 c.rise, .int .i64 c.fall, .int .i64 c.every, .int .i64 c.pat, .int .i64 c.room, .int .i64 c.idle, .int .i64 c.queue, .int .i64 c.dF, .int .i64 c.dS, .int .i64 c.dR, .int .i64 c.dC, .int .i64 c.dH, .int .i64 c.ttl]
/-- c' is c in other memory. -/
def Again (c c' : CfgV) : Prop := ∃ A3 c3 A4 c4 A5 c5, c' = { c with pA := A3, pc := c3, vA := A4, vc := c4, sA := A5, sc := c5 }
set_option maxRecDepth 100000 in
set_option maxHeartbeats 16000000 in
theorem plain_any (w : World) (c : CfgV) (h : CfgIn w c) (hs : CfgSm c) : Calls Try.prog 6 #[.agg (cfgC c)] w fun e w' => ∃ c', e = .returned (.agg (cfgC c')) ∧ Again c c' ∧ CfgIn w' c' ∧ Below w.heap.size w w' := by
  have hB := ((Below.refl w.heap.size w).alloc (Nat.le_refl _) (.cells (cfgC c) 29)).alloc (by simp) (.cells #[.int .i64 0, .int .u32 0, .int .u32 0, .slice none 0 0, .slice none 0 0, .slice none 0 0, .int .i64 0, .int .i64 0, .int .i64 0, .int .i64 0, .int .i64 0, .int .i64 0, .int .i64 0, .int .i64 0, .int .i64 0, .int .i64 0, .int .i64 0, .int .i64 0, .int .i64 0] 37)
  have hq := (Blk.new w 29 (cfgC c)).alloc (.cells #[.int .i64 0, .int .u32 0, .int .u32 0, .slice none 0 0, .slice none 0 0, .slice none 0 0, .int .i64 0, .int .i64 0, .int .i64 0, .int .i64 0, .int .i64 0, .int .i64 0, .int .i64 0, .int .i64 0, .int .i64 0, .int .i64 0, .int .i64 0, .int .i64 0, .int .i64 0] 37)
  have hz := Blk.new (w.alloc (.cells (cfgC c) 29)) 37 #[.int .i64 0, .int .u32 0, .int .u32 0, .slice none 0 0, .slice none 0 0, .slice none 0 0, .int .i64 0, .int .i64 0, .int .i64 0, .int .i64 0, .int .i64 0, .int .i64 0, .int .i64 0, .int .i64 0, .int .i64 0, .int .i64 0, .int .i64 0, .int .i64 0, .int .i64 0]
  rw [World.size_alloc] at hz
  have hi : (Try.prog.info? 37).map (·.size) = some (#[.int .i64 0, .int .u32 0, .int .u32 0, .slice none 0 0, .slice none 0 0, .slice none 0 0, .int .i64 0, .int .i64 0, .int .i64 0, .int .i64 0, .int .i64 0, .int .i64 0, .int .i64 0, .int .i64 0, .int .i64 0, .int .i64 0, .int .i64 0, .int .i64 0, .int .i64 0] : Array Value).size := by kernel_rfl
  obtain ⟨A3, hA3⟩ : ∃ A, A = c.pA := ⟨_, rfl⟩
  obtain ⟨A4, hA4⟩ : ∃ A, A = c.vA := ⟨_, rfl⟩
  obtain ⟨A5, hA5⟩ : ∃ A, A = c.sA := ⟨_, rfl⟩
  have hS3 := h.peers
  have hS4 := h.vips
  have hS5 := h.sites
  rw [← hA3] at hS3
  rw [← hA4] at hS4
  rw [← hA5] at hS5
  go_enter Try.func6, Try.ntmps6
  go_upto_region 1 with (fail)
  generalize (w.alloc (.cells (cfgC c) 29)).alloc (.cells #[.int .i64 0, .int .u32 0, .int .u32 0, .slice none 0 0, .slice none 0 0, .slice none 0 0, .int .i64 0, .int .i64 0, .int .i64 0, .int .i64 0, .int .i64 0, .int .i64 0, .int .i64 0, .int .i64 0, .int .i64 0, .int .i64 0, .int .i64 0, .int .i64 0, .int .i64 0] 37) = w1 at *
  have q0 : w1.cell? ⟨w.heap.size, 0, none⟩ = some (.int .i64 c.as_) := hq.cellv 0 rfl
  have q1 : w1.cell? ⟨w.heap.size, 1, none⟩ = some (.int .u32 c.id) := hq.cellv 1 rfl
  have q2 : w1.cell? ⟨w.heap.size, 2, none⟩ = some (.int .u32 c.own) := hq.cellv 2 rfl
  have q6 : w1.cell? ⟨w.heap.size, 6, none⟩ = some (.int .i64 c.rise) := hq.cellv 6 rfl
  have q7 : w1.cell? ⟨w.heap.size, 7, none⟩ = some (.int .i64 c.fall) := hq.cellv 7 rfl
  have q8 : w1.cell? ⟨w.heap.size, 8, none⟩ = some (.int .i64 c.every) := hq.cellv 8 rfl
  have q9 : w1.cell? ⟨w.heap.size, 9, none⟩ = some (.int .i64 c.pat) := hq.cellv 9 rfl
  have q10 : w1.cell? ⟨w.heap.size, 10, none⟩ = some (.int .i64 c.room) := hq.cellv 10 rfl
  have q11 : w1.cell? ⟨w.heap.size, 11, none⟩ = some (.int .i64 c.idle) := hq.cellv 11 rfl
  have q12 : w1.cell? ⟨w.heap.size, 12, none⟩ = some (.int .i64 c.queue) := hq.cellv 12 rfl
  have q13 : w1.cell? ⟨w.heap.size, 13, none⟩ = some (.int .i64 c.dF) := hq.cellv 13 rfl
  have q14 : w1.cell? ⟨w.heap.size, 14, none⟩ = some (.int .i64 c.dS) := hq.cellv 14 rfl
  have q15 : w1.cell? ⟨w.heap.size, 15, none⟩ = some (.int .i64 c.dR) := hq.cellv 15 rfl
  have q16 : w1.cell? ⟨w.heap.size, 16, none⟩ = some (.int .i64 c.dC) := hq.cellv 16 rfl
  have q17 : w1.cell? ⟨w.heap.size, 17, none⟩ = some (.int .i64 c.dH) := hq.cellv 17 rfl
  have q18 : w1.cell? ⟨w.heap.size, 18, none⟩ = some (.int .i64 c.ttl) := hq.cellv 18 rfl
  have ql := hq.lt
  have zl := hz.lt
  have hbx := (Below.refl w1.heap.size w1).alloc (Nat.le_refl _) (.cells #[.int .i64 0, .int .u32 0, .int .u32 0, .slice none 0 0, .slice none 0 0, .slice none 0 0, .int .i64 0, .int .i64 0, .int .i64 0, .int .i64 0, .int .i64 0, .int .i64 0, .int .i64 0, .int .i64 0, .int .i64 0, .int .i64 0, .int .i64 0, .int .i64 0, .int .i64 0] 37)
  have hfr := Blk.new w1 37 #[.int .i64 0, .int .u32 0, .int .u32 0, .slice none 0 0, .slice none 0 0, .slice none 0 0, .int .i64 0, .int .i64 0, .int .i64 0, .int .i64 0, .int .i64 0, .int .i64 0, .int .i64 0, .int .i64 0, .int .i64 0, .int .i64 0, .int .i64 0, .int .i64 0, .int .i64 0]
  go_upto_region 2 with (refine wpList_store_blk rfl hfr 37 (.tmp 3) (.tmp 34) rfl rfl rfl rfl hi (by simp [Value.oneCell']) ?_; intro w2 ho hg2)
  have hbx2 := hbx.trans (Below.of_grown (B := w1.heap.size) hg2 (by simp) (Nat.le_refl _))
  replace hq := hq.below hbx2 ql
  replace hz := hz.below hbx2 zl
  have hz1 := hB.size
  have hgo1 := zl
  have hog : w1.heap.size < w2.heap.size := ho.lt
  replace hB := hB.trans (hbx2.mono hB.size)
  clear hbx hbx2 hg2 hfr q0 q1 q2 q6 q7 q8 q9 q10 q11 q12 q13 q14 q15 q16 q17 q18 ql zl
  generalize hgo : w1.heap.size = go at *
  clear hgo
  have hzB := hB.size
  replace hA3 := Lib.hid hA3
  replace hA4 := Lib.hid hA4
  replace hA5 := Lib.hid hA5
  have hP1 := Lib.hid h.peers.1
  have hV1 := Lib.hid h.vips.1
  have hT1 := Lib.hid h.sites.1
  have hsp := hs.p
  have hsv := hs.v
  have hss := hs.s
  obtain ⟨B3, hB3⟩ : ∃ B, B = w2.heap.size := ⟨_, rfl⟩
  have hzb3 : go < B3 := by rw [hB3]; exact ho.lt
  have q3 : w2.cell? ⟨w.heap.size, 3, none⟩ = some (.slice A3 c.pn c.pc) := by rw [hA3.out]; exact hq.cellv 3 rfl
  have ql := hq.lt
  go_upto_region 3 with (fail)
  clear q3 ql
  go_loopw [38] (fun i wr => ∃ (k : Nat) (v : Value), k ≤ c.pn ∧ i = .int .i64 (k : Int) ∧ Rows peerK wr B3 B3 72 v (c.P.take k) ∧ Blk wr go 37 (outC c (v) (.slice none 0 0) (.slice none 0 0)) ∧ Blk wr w.heap.size 29 (cfgC c) ∧ Blk wr (w.heap.size + 1) 37 #[.int .i64 0, .int .u32 0, .int .u32 0, .slice none 0 0, .slice none 0 0, .slice none 0 0, .int .i64 0, .int .i64 0, .int .i64 0, .int .i64 0, .int .i64 0, .int .i64 0, .int .i64 0, .int .i64 0, .int .i64 0, .int .i64 0, .int .i64 0, .int .i64 0, .int .i64 0] ∧ B3 ≤ wr.heap.size ∧ Below w.heap.size w wr) (fun i _ => c.pn - (intOf i).toNat)
  case atStart => exact ⟨0, _, Nat.zero_le _, rfl, Rows.nil _ _ _ _, ho, hq, hz, by omega, hB⟩
  case round =>
  clear ho hq hz hB
  obtain ⟨k, v, hk, rfl, hr, ho, hq, hz, hzw, hB⟩ := hrel
  by_cases hlt : k < c.pn
  · have hki : (k : Int) < c.pn := by omega
    have hk0 : (0 : Int) ≤ k := by omega
    have hk40 : (k : Int) ≤ 40 := by omega
    obtain ⟨b, off, p, e1, hb, hp, hok, r0, r1, r2, r3, r4, r5, r6⟩ := peer_cells (seen_nx hS3 hB) hlt
    subst e1
    have htk : c.P.take (k + 1) = c.P.take k ++ [p] := by rw [List.take_add_one, hp]; rfl
    have hlk : (c.P.take k).length = k := by rw [List.length_take]; have := hP1.out; omega
    have hbx := (Below.refl wr.heap.size wr).alloc (Nat.le_refl _) (.cells #[.int .i64 p.as_, .int .i64 p.hold, .int .i64 p.retry, .int .i64 p.gap, .int .i64 p.med, .int .i64 p.prep, .int .i64 p.back] 71)
    have h5 := Blk.new wr 71 #[.int .i64 p.as_, .int .i64 p.hold, .int .i64 p.retry, .int .i64 p.gap, .int .i64 p.med, .int .i64 p.prep, .int .i64 p.back]
    go_upto_region 5 with (fail)
    generalize wr.alloc (.cells #[.int .i64 p.as_, .int .i64 p.hold, .int .i64 p.retry, .int .i64 p.gap, .int .i64 p.med, .int .i64 p.prep, .int .i64 p.back] 71) = w3 at *
    replace hr := hr.below hbx
    replace ho := ho.below hbx ho.lt
    replace hq := hq.below hbx hq.lt
    replace hz := hz.below hbx hz.lt
    replace hB := hB.trans (hbx.mono hB.size)
    replace hzw := Nat.le_trans hzw hbx.size
    clear hb r0 r1 r2 r3 r4 r5 r6 hbx
    obtain ⟨Av, cv, ev, -, -, -⟩ := hr.seen (Nat.le_refl _)
    rw [hlk] at ev
    subst ev
    have hl4 : (c.P.take k ++ [p]).length = k + 1 := by rw [List.length_append, hlk]; rfl
    have hby := (Below.refl w3.heap.size w3).alloc (Nat.le_refl _) (.cells #[.int .i64 p.as_, .int .i64 p.hold, .int .i64 p.retry, .int .i64 p.gap, .int .i64 p.med, .int .i64 p.prep, .int .i64 p.back] 72)
    have hlit : Seen peerK (w3.alloc (.cells #[.int .i64 p.as_, .int .i64 p.hold, .int .i64 p.retry, .int .i64 p.gap, .int .i64 p.med, .int .i64 p.prep, .int .i64 p.back] 72)) (fun _ => True) (some ⟨w3.heap.size, 0, none⟩) 1 [p] := seen_one w3 72 p #[.int .i64 p.as_, .int .i64 p.hold, .int .i64 p.retry, .int .i64 p.gap, .int .i64 p.med, .int .i64 p.prep, .int .i64 p.back] rfl (S := fun _ => False) hok (fun _ h => h.elim) trivial (fun _ h => h.elim)
    have hokE : ∀ (S' : Nat → Prop) (w' : World), peerK.ok w' S' p := fun _ _ => hok
    have hr3 := hr.below hby
    have ho3 := ho.below hby ho.lt
    have hq3 := hq.below hby hq.lt
    have hz3 := hz.below hby hz.lt
    have hB3 := hB.trans (hby.mono hB.size)
    have hw3 := Nat.le_trans hzw hby.size
    have hapart : ∀ g', g' < B3 → some g' ≠ (Value.slice Av k cv).ownBlock := fun g' hg' e => by have := (hr.own g' e.symm).1; omega
    have o3 : w3.cell? ⟨go, 3, none⟩ = some (.slice Av k cv) := ho.cellv 3 rfl
    have ol := ho.lt
    have hlitn : (c.P.take k).length + 1 ≤ maxLen := by rw [hlk]; unfold maxLen; omega
    have hlitb : ((c.P.take k).length + 1) * 56 ≤ 140737488355328 := by rw [hlk]; omega
    go_upto_region 6 with (first
      | (refine wpList_load_blk rfl h5 71 (.tmp 5) rfl rfl Try.underlying71 rfl (by kernel_rfl) ?_)
      | (at_builtin; refine wpList_rows peerE_ok rfl (.tmp 43) (.tmp 45) rfl hr3 rfl rfl hlit (fun e he => by rw [List.mem_singleton.1 he]; exact hokE _ _) hlitn hlitb hw3 ?_; intro v4 w4 hr4 hg4; obtain ⟨A4, c4, ev4, -, -, -⟩ := hr4.seen (Nat.le_refl _); rw [hl4] at ev4; subst ev4; have ho4 := ho3.grown hg4 (hapart _ (by omega)); have o4 : w4.cell? ⟨go, 3, none⟩ = some (.slice Av k cv) := ho4.cellv 3 rfl; have f4 := ho4.frozen 3; have ol4 := ho4.lt))
    obtain ⟨so1, so2⟩ := blk_store ho4 3 (.slice A4 (k + 1) c4)
    replace so1 : Blk (w4.setCell ⟨go, 3, none⟩ (.slice A4 (k + 1) c4)) go 37 (outC c (.slice A4 (k + 1) c4) (.slice none 0 0) (.slice none 0 0)) := so1
    have hr5 := hr4.kept so2 (fun k' e => by injection e with e; omega) (Nat.le_refl _)
    rw [← htk] at hr5
    have hq5 := (hq3.grown hg4 (hapart _ (by omega))).far (p := ⟨go, 3, none⟩) (by simp; omega) (.slice A4 (k + 1) c4)
    have hz5 := (hz3.grown hg4 (hapart _ (by omega))).far (p := ⟨go, 3, none⟩) (by simp; omega) (.slice A4 (k + 1) c4)
    have hB5 := (hB3.trans ((hr3.below_app hg4 hw3).mono (by omega))).setCell (p := ⟨go, 3, none⟩) (by simp; omega) (.slice A4 (k + 1) c4)
    have hw5 := Nat.le_trans (Nat.le_trans hw3 hg4.size) so2.size
    generalize w4.setCell ⟨go, 3, none⟩ (.slice A4 (k + 1) c4) = w5 at *
    clear o4 f4 ol4 so2 hr4 ho4
    go_wp2_with fail
    exact ⟨⟨k + 1, _, by omega, by go_num, hr5, so1, hq5, hz5, hw5, hB5⟩, by simp [intOf]; omega⟩
  have hkn : k = c.pn := by omega
  subst hkn
  rw [List.take_of_length_le (by rw [hP1.out]; exact Nat.le_refl _)] at hr
  obtain ⟨Y3, C3, ev, hY3, hZ3, so3⟩ := hr.seen (Nat.le_refl _)
  rw [hP1.out] at ev hY3 so3
  subst ev
  generalize wr = x3 at *
  obtain ⟨B4, hB4⟩ : ∃ B, B = x3.heap.size := ⟨_, rfl⟩
  have hzb4 : go < B4 := by rw [hB4]; exact ho.lt
  have q4 : x3.cell? ⟨w.heap.size, 4, none⟩ = some (.slice A4 c.vn c.vc) := by rw [hA4.out]; exact hq.cellv 4 rfl
  have ql := hq.lt
  go_upto_region 8 with (fail)
  clear q4 ql
  rw [← hB4] at so3
  go_loopw [52] (fun i wr => ∃ (k : Nat) (v : Value), k ≤ c.vn ∧ i = .int .i64 (k : Int) ∧ Rows vipT wr B4 B4 65 v (c.V.take k) ∧ Blk wr go 37 (outC c (.slice Y3 c.pn C3) (v) (.slice none 0 0)) ∧ Blk wr w.heap.size 29 (cfgC c) ∧ Blk wr (w.heap.size + 1) 37 #[.int .i64 0, .int .u32 0, .int .u32 0, .slice none 0 0, .slice none 0 0, .slice none 0 0, .int .i64 0, .int .i64 0, .int .i64 0, .int .i64 0, .int .i64 0, .int .i64 0, .int .i64 0, .int .i64 0, .int .i64 0, .int .i64 0, .int .i64 0, .int .i64 0, .int .i64 0] ∧ B4 ≤ wr.heap.size ∧ Below w.heap.size w wr ∧ Seen peerK wr (fun b => B3 ≤ b ∧ b < B4) Y3 c.pn c.P) (fun i _ => c.vn - (intOf i).toNat)
  case atStart => exact ⟨0, _, Nat.zero_le _, rfl, Rows.nil _ _ _ _, ho, hq, hz, by omega, hB, so3⟩
  case round =>
  clear ho hq hz hB so3
  obtain ⟨k, v, hk, rfl, hr, ho, hq, hz, hzw, hB, so3⟩ := hrel
  by_cases hlt : k < c.vn
  · have hki : (k : Int) < c.vn := by omega
    have hk0 : (0 : Int) ≤ k := by omega
    have hk40 : (k : Int) ≤ 40 := by omega
    obtain ⟨b, off, p, e1, hb, hp, hok, r0, r1, r2⟩ := vip_cells (seen_nx hS4 hB) hlt
    subst e1
    have htk : c.V.take (k + 1) = c.V.take k ++ [p] := by rw [List.take_add_one, hp]; rfl
    have hlk : (c.V.take k).length = k := by rw [List.length_take]; have := hV1.out; omega
    have hbx := (Below.refl wr.heap.size wr).alloc (Nat.le_refl _) (.cells #[.int .u32 p.ad, .int .i64 p.pct, .slice p.A p.n p.c] 60)
    have h5 := Blk.new wr 60 #[.int .u32 p.ad, .int .i64 p.pct, .slice p.A p.n p.c]
    go_upto_region 10 with (fail)
    generalize wr.alloc (.cells #[.int .u32 p.ad, .int .i64 p.pct, .slice p.A p.n p.c] 60) = w3 at *
    replace hr := hr.below hbx
    replace ho := ho.below hbx ho.lt
    replace hq := hq.below hbx hq.lt
    replace hz := hz.below hbx hz.lt
    replace hB := hB.trans (hbx.mono hB.size)
    replace so3 := so3.below hbx fun b hb => Nat.lt_of_lt_of_le hb.2 hzw
    replace hzw := Nat.le_trans hzw hbx.size
    clear hb r0 r1 r2 hbx
    obtain ⟨Av, cv, ev, -, -, -⟩ := hr.seen (Nat.le_refl _)
    rw [hlk] at ev
    subst ev
    have hl4 : (c.V.take k ++ [p]).length = k + 1 := by rw [List.length_append, hlk]; rfl
    have hby := (Below.refl w3.heap.size w3).alloc (Nat.le_refl _) (.cells #[.int .u32 p.ad, .int .i64 p.pct, .slice p.A p.n p.c] 65)
    have hlit : Seen vipT (w3.alloc (.cells #[.int .u32 p.ad, .int .i64 p.pct, .slice p.A p.n p.c] 65)) (fun _ => True) (some ⟨w3.heap.size, 0, none⟩) 1 [p] := seen_one w3 65 p #[.int .u32 p.ad, .int .i64 p.pct, .slice p.A p.n p.c] rfl (S := fun _ => False) trivial (fun _ h => h.elim) trivial (fun _ h => h.elim)
    have hokE : ∀ (S' : Nat → Prop) (w' : World), vipT.ok w' S' p := fun _ _ => trivial
    have hr3 := hr.below hby
    have ho3 := ho.below hby ho.lt
    have hq3 := hq.below hby hq.lt
    have hz3 := hz.below hby hz.lt
    have hB3 := hB.trans (hby.mono hB.size)
    have hw3 := Nat.le_trans hzw hby.size
    have so33 := so3.below hby fun b hb => Nat.lt_of_lt_of_le hb.2 hzw
    have hapart : ∀ g', g' < B4 → some g' ≠ (Value.slice Av k cv).ownBlock := fun g' hg' e => by have := (hr.own g' e.symm).1; omega
    have o3 : w3.cell? ⟨go, 4, none⟩ = some (.slice Av k cv) := ho.cellv 4 rfl
    have ol := ho.lt
    have hlitn : (c.V.take k).length + 1 ≤ maxLen := by rw [hlk]; unfold maxLen; omega
    have hlitb : ((c.V.take k).length + 1) * 40 ≤ 140737488355328 := by rw [hlk]; omega
    go_upto_region 11 with (first
      | (refine wpList_load_blk rfl h5 60 (.tmp 7) rfl rfl Try.underlying60 rfl (by kernel_rfl) ?_)
      | (at_builtin; refine wpList_rows vipE_ok rfl (.tmp 57) (.tmp 59) rfl hr3 rfl rfl hlit (fun e he => by rw [List.mem_singleton.1 he]; exact hokE _ _) hlitn hlitb hw3 ?_; intro v4 w4 hr4 hg4; obtain ⟨A4, c4, ev4, -, -, -⟩ := hr4.seen (Nat.le_refl _); rw [hl4] at ev4; subst ev4; have ho4 := ho3.grown hg4 (hapart _ (by omega)); have o4 : w4.cell? ⟨go, 4, none⟩ = some (.slice Av k cv) := ho4.cellv 4 rfl; have f4 := ho4.frozen 4; have ol4 := ho4.lt))
    obtain ⟨so1, so2⟩ := blk_store ho4 4 (.slice A4 (k + 1) c4)
    replace so1 : Blk (w4.setCell ⟨go, 4, none⟩ (.slice A4 (k + 1) c4)) go 37 (outC c (.slice Y3 c.pn C3) (.slice A4 (k + 1) c4) (.slice none 0 0)) := so1
    have hr5 := hr4.kept so2 (fun k' e => by injection e with e; omega) (Nat.le_refl _)
    rw [← htk] at hr5
    have hq5 := (hq3.grown hg4 (hapart _ (by omega))).far (p := ⟨go, 4, none⟩) (by simp; omega) (.slice A4 (k + 1) c4)
    have hz5 := (hz3.grown hg4 (hapart _ (by omega))).far (p := ⟨go, 4, none⟩) (by simp; omega) (.slice A4 (k + 1) c4)
    have hB5 := (hB3.trans ((hr3.below_app hg4 hw3).mono (by omega))).setCell (p := ⟨go, 4, none⟩) (by simp; omega) (.slice A4 (k + 1) c4)
    have hw5 := Nat.le_trans (Nat.le_trans hw3 hg4.size) so2.size
    have so34 := so33.grown hg4 fun b hb => ⟨Nat.lt_of_lt_of_le hb.2 hw3, fun e => hapart b hb.2 e.symm⟩
    have so35 := so34.grown so2 fun b hb => ⟨Nat.lt_of_lt_of_le hb.2 (Nat.le_trans hw3 hg4.size), fun e => by injection e with e; have := hb.1; omega⟩
    generalize w4.setCell ⟨go, 4, none⟩ (.slice A4 (k + 1) c4) = w5 at *
    clear o4 f4 ol4 so2 hr4 ho4
    go_wp2_with fail
    exact ⟨⟨k + 1, _, by omega, by go_num, hr5, so1, hq5, hz5, hw5, hB5, so35⟩, by simp [intOf]; omega⟩
  have hkn : k = c.vn := by omega
  subst hkn
  rw [List.take_of_length_le (by rw [hV1.out]; exact Nat.le_refl _)] at hr
  obtain ⟨Y4, C4, ev, hY4, hZ4, so4⟩ := hr.seen (Nat.le_refl _)
  rw [hV1.out] at ev hY4 so4
  subst ev
  generalize wr = x4 at *
  replace so3 := so3.more (S' := fun b => B3 ≤ b ∧ b < x4.heap.size) fun b hb => ⟨hb.1, Nat.lt_of_lt_of_le hb.2 hzw⟩
  obtain ⟨B5, hB5⟩ : ∃ B, B = x4.heap.size := ⟨_, rfl⟩
  have hzb5 : go < B5 := by rw [hB5]; exact ho.lt
  have q5 : x4.cell? ⟨w.heap.size, 5, none⟩ = some (.slice A5 c.sn c.sc) := by rw [hA5.out]; exact hq.cellv 5 rfl
  have ql := hq.lt
  go_upto_region 13 with (fail)
  clear q5 ql
  rw [← hB5] at so3
  rw [← hB5] at so4
  go_loopw [66] (fun i wr => ∃ (k : Nat) (v : Value), k ≤ c.sn ∧ i = .int .i64 (k : Int) ∧ Rows siteK wr B5 B5 75 v (c.S.take k) ∧ Blk wr go 37 (outC c (.slice Y3 c.pn C3) (.slice Y4 c.vn C4) (v)) ∧ Blk wr w.heap.size 29 (cfgC c) ∧ Blk wr (w.heap.size + 1) 37 #[.int .i64 0, .int .u32 0, .int .u32 0, .slice none 0 0, .slice none 0 0, .slice none 0 0, .int .i64 0, .int .i64 0, .int .i64 0, .int .i64 0, .int .i64 0, .int .i64 0, .int .i64 0, .int .i64 0, .int .i64 0, .int .i64 0, .int .i64 0, .int .i64 0, .int .i64 0] ∧ B5 ≤ wr.heap.size ∧ Below w.heap.size w wr ∧ Seen peerK wr (fun b => B3 ≤ b ∧ b < B5) Y3 c.pn c.P ∧ Seen vipT wr (fun b => B4 ≤ b ∧ b < B5) Y4 c.vn c.V) (fun i _ => c.sn - (intOf i).toNat)
  case atStart => exact ⟨0, _, Nat.zero_le _, rfl, Rows.nil _ _ _ _, ho, hq, hz, by omega, hB, so3, so4⟩
  case round =>
  clear ho hq hz hB so3 so4
  obtain ⟨k, v, hk, rfl, hr, ho, hq, hz, hzw, hB, so3, so4⟩ := hrel
  by_cases hlt : k < c.sn
  · have hki : (k : Int) < c.sn := by omega
    have hk0 : (0 : Int) ≤ k := by omega
    have hk40 : (k : Int) ≤ 40 := by omega
    obtain ⟨b, off, p, e1, hb, hp, hok, r0, r1, r2⟩ := site_cells (seen_nx hS5 hB) hlt
    subst e1
    have htk : c.S.take (k + 1) = c.S.take k ++ [p] := by rw [List.take_add_one, hp]; rfl
    have hlk : (c.S.take k).length = k := by rw [List.length_take]; have := hT1.out; omega
    have hbx := (Below.refl wr.heap.size wr).alloc (Nat.le_refl _) (.cells #[.int .i64 p.id, .int .u32 p.ad, .int .i64 p.cost] 74)
    have h5 := Blk.new wr 74 #[.int .i64 p.id, .int .u32 p.ad, .int .i64 p.cost]
    go_upto_region 15 with (fail)
    generalize wr.alloc (.cells #[.int .i64 p.id, .int .u32 p.ad, .int .i64 p.cost] 74) = w3 at *
    replace hr := hr.below hbx
    replace ho := ho.below hbx ho.lt
    replace hq := hq.below hbx hq.lt
    replace hz := hz.below hbx hz.lt
    replace hB := hB.trans (hbx.mono hB.size)
    replace so3 := so3.below hbx fun b hb => Nat.lt_of_lt_of_le hb.2 hzw
    replace so4 := so4.below hbx fun b hb => Nat.lt_of_lt_of_le hb.2 hzw
    replace hzw := Nat.le_trans hzw hbx.size
    clear hb r0 r1 r2 hbx
    obtain ⟨Av, cv, ev, -, -, -⟩ := hr.seen (Nat.le_refl _)
    rw [hlk] at ev
    subst ev
    have hl4 : (c.S.take k ++ [p]).length = k + 1 := by rw [List.length_append, hlk]; rfl
    have hby := (Below.refl w3.heap.size w3).alloc (Nat.le_refl _) (.cells #[.int .i64 p.id, .int .u32 p.ad, .int .i64 p.cost] 75)
    have hlit : Seen siteK (w3.alloc (.cells #[.int .i64 p.id, .int .u32 p.ad, .int .i64 p.cost] 75)) (fun _ => True) (some ⟨w3.heap.size, 0, none⟩) 1 [p] := seen_one w3 75 p #[.int .i64 p.id, .int .u32 p.ad, .int .i64 p.cost] rfl (S := fun _ => False) hok (fun _ h => h.elim) trivial (fun _ h => h.elim)
    have hokE : ∀ (S' : Nat → Prop) (w' : World), siteK.ok w' S' p := fun _ _ => hok
    have hr3 := hr.below hby
    have ho3 := ho.below hby ho.lt
    have hq3 := hq.below hby hq.lt
    have hz3 := hz.below hby hz.lt
    have hB3 := hB.trans (hby.mono hB.size)
    have hw3 := Nat.le_trans hzw hby.size
    have so33 := so3.below hby fun b hb => Nat.lt_of_lt_of_le hb.2 hzw
    have so43 := so4.below hby fun b hb => Nat.lt_of_lt_of_le hb.2 hzw
    have hapart : ∀ g', g' < B5 → some g' ≠ (Value.slice Av k cv).ownBlock := fun g' hg' e => by have := (hr.own g' e.symm).1; omega
    have o3 : w3.cell? ⟨go, 5, none⟩ = some (.slice Av k cv) := ho.cellv 5 rfl
    have ol := ho.lt
    have hlitn : (c.S.take k).length + 1 ≤ maxLen := by rw [hlk]; unfold maxLen; omega
    have hlitb : ((c.S.take k).length + 1) * 24 ≤ 140737488355328 := by rw [hlk]; omega
    go_upto_region 16 with (first
      | (refine wpList_load_blk rfl h5 74 (.tmp 9) rfl rfl Try.underlying74 rfl (by kernel_rfl) ?_)
      | (at_builtin; refine wpList_rows siteE_ok rfl (.tmp 71) (.tmp 73) rfl hr3 rfl rfl hlit (fun e he => by rw [List.mem_singleton.1 he]; exact hokE _ _) hlitn hlitb hw3 ?_; intro v4 w4 hr4 hg4; obtain ⟨A4, c4, ev4, -, -, -⟩ := hr4.seen (Nat.le_refl _); rw [hl4] at ev4; subst ev4; have ho4 := ho3.grown hg4 (hapart _ (by omega)); have o4 : w4.cell? ⟨go, 5, none⟩ = some (.slice Av k cv) := ho4.cellv 5 rfl; have f4 := ho4.frozen 5; have ol4 := ho4.lt))
    obtain ⟨so1, so2⟩ := blk_store ho4 5 (.slice A4 (k + 1) c4)
    replace so1 : Blk (w4.setCell ⟨go, 5, none⟩ (.slice A4 (k + 1) c4)) go 37 (outC c (.slice Y3 c.pn C3) (.slice Y4 c.vn C4) (.slice A4 (k + 1) c4)) := so1
    have hr5 := hr4.kept so2 (fun k' e => by injection e with e; omega) (Nat.le_refl _)
    rw [← htk] at hr5
    have hq5 := (hq3.grown hg4 (hapart _ (by omega))).far (p := ⟨go, 5, none⟩) (by simp; omega) (.slice A4 (k + 1) c4)
    have hz5 := (hz3.grown hg4 (hapart _ (by omega))).far (p := ⟨go, 5, none⟩) (by simp; omega) (.slice A4 (k + 1) c4)
    have hB5 := (hB3.trans ((hr3.below_app hg4 hw3).mono (by omega))).setCell (p := ⟨go, 5, none⟩) (by simp; omega) (.slice A4 (k + 1) c4)
    have hw5 := Nat.le_trans (Nat.le_trans hw3 hg4.size) so2.size
    have so34 := so33.grown hg4 fun b hb => ⟨Nat.lt_of_lt_of_le hb.2 hw3, fun e => hapart b hb.2 e.symm⟩
    have so35 := so34.grown so2 fun b hb => ⟨Nat.lt_of_lt_of_le hb.2 (Nat.le_trans hw3 hg4.size), fun e => by injection e with e; have := hb.1; omega⟩
    have so44 := so43.grown hg4 fun b hb => ⟨Nat.lt_of_lt_of_le hb.2 hw3, fun e => hapart b hb.2 e.symm⟩
    have so45 := so44.grown so2 fun b hb => ⟨Nat.lt_of_lt_of_le hb.2 (Nat.le_trans hw3 hg4.size), fun e => by injection e with e; have := hb.1; omega⟩
    generalize w4.setCell ⟨go, 5, none⟩ (.slice A4 (k + 1) c4) = w5 at *
    clear o4 f4 ol4 so2 hr4 ho4
    go_wp2_with fail
    exact ⟨⟨k + 1, _, by omega, by go_num, hr5, so1, hq5, hz5, hw5, hB5, so35, so45⟩, by simp [intOf]; omega⟩
  have hkn : k = c.sn := by omega
  subst hkn
  rw [List.take_of_length_le (by rw [hT1.out]; exact Nat.le_refl _)] at hr
  obtain ⟨Y5, C5, ev, hY5, hZ5, so5⟩ := hr.seen (Nat.le_refl _)
  rw [hT1.out] at ev hY5 so5
  subst ev
  generalize wr = x5 at *
  replace so3 := so3.more (S' := fun b => B3 ≤ b ∧ b < x5.heap.size) fun b hb => ⟨hb.1, Nat.lt_of_lt_of_le hb.2 hzw⟩
  replace so4 := so4.more (S' := fun b => B4 ≤ b ∧ b < x5.heap.size) fun b hb => ⟨hb.1, Nat.lt_of_lt_of_le hb.2 hzw⟩
  have hi2 : (Try.prog.info? 37).map (·.size) = some (outC c (.slice Y3 c.pn C3) (.slice Y4 c.vn C4) (.slice Y5 c.sn C5)).size := by kernel_rfl
  go_wp2_with (first
    | (refine wpList_load_blk rfl ho 37 (.tmp 3) rfl rfl Try.underlying37 rfl hi2 ?_)
    | (refine wpList_store_blk rfl hz 37 (.tmp 2) (.tmp 77) rfl rfl rfl rfl hi2 (by simp [outC, Value.oneCell']) ?_; intro w9 hz9 hg9))
  have hb9 := below_own hB hg9 hB.size (by omega)
  refine bodyPost_ret (results_c rfl _ rfl (load_blk hz9 Try.underlying37 rfl hi2)) rfl ?_
  refine ⟨{ c with pA := Y3, pc := C3, vA := Y4, vc := C4, sA := Y5, sc := C5 }, rfl, ⟨_, _, _, _, _, _, rfl⟩, ?_, hb9⟩
  have hS9 : ∀ (lo b : Nat), go < lo → lo ≤ b ∧ b < x5.heap.size → b < x5.heap.size ∧ some (w.heap.size + 1) ≠ some b := fun lo b h1 h2 => ⟨h2.2, fun e => by injection e with e; omega⟩
  have hM9 : ∀ (lo b : Nat), lo ≤ b ∧ b < x5.heap.size → b < w9.heap.size := fun lo b h => Nat.lt_of_lt_of_le h.2 hg9.size
  exact ⟨h.id_, h.own_, h.nums, h.damp, ⟨⟨hY3, hZ3⟩, ⟨hY4, hZ4⟩, ⟨hY5, hZ5⟩⟩, (so3.grown hg9 fun b hb => hS9 _ b hzb3 hb).more fun b hb => hM9 _ b hb, vip_ofT ((so4.grown hg9 fun b hb => hS9 _ b hzb4 hb).more fun b hb => hM9 _ b hb) fun a ha => (h.nx hb9).vips.2.1 a ha, (so5.grown hg9 fun b hb => hS9 _ b hzb5 hb).more fun b hb => hM9 _ b hb⟩
end Go.Proofs.Ytgdeecmhhbdjgaa

/- config: ConfigChecks, the walk. -/
namespace Go.Proofs.Ytgdeecmhhbdjgaa
set_option linter.unusedVariables false
open Go Go.RowKit Go.Maps

@[go_sem high] theorem neq_rpol (p0 p1 p2 p3 p4 : Int) (w : World) : (binOp .neq 53 (.agg #[.int .i64 p0, .int .u32 p1, .int .i64 p2, .int .i64 p3, .int .i64 p4]) (.agg #[.int .i64 p0, .int .u32 p1, .int .i64 p2, .int .i64 p3, .int .i64 p4])).run Try.prog w = .ok (.bool false) w := by
  go_simp
@[go_sem high] theorem neq_rspk (s0 s1 s2 s3 s4 s5 s6 : Int) (w : World) : (binOp .neq 51 (.agg #[.int .i64 s0, .int .i64 s1, .int .u32 s2, .int .i64 s3, .int .i64 s4, .int .i64 s5, .int .i64 s6]) (.agg #[.int .i64 s0, .int .i64 s1, .int .u32 s2, .int .i64 s3, .int .i64 s4, .int .i64 s5, .int .i64 s6])).run Try.prog w = .ok (.bool false) w := by
  go_simp
@[go_sem high] theorem neq_pfx (a b : Int) (w : World) : (binOp .neq 62 (.agg #[.int .u32 a, .int .i64 b]) (.agg #[.int .u32 a, .int .i64 b])).run Try.prog w = .ok (.bool false) w := by
  go_simp
set_option maxRecDepth 100000 in
set_option maxHeartbeats 8000000 in
theorem prefixC_any (w : World) (v : VipV) : Calls Try.prog 13 #[.agg #[.int .u32 v.ad, .int .i64 v.pct, .slice v.A v.n v.c]] w fun e w' => e = .returned (.agg #[.int .u32 v.ad, .int .i64 32]) ∧ Below w.heap.size w w' := by
  have hi : (Try.prog.info? 62).map (·.size) = some 2 := by kernel_rfl
  go_enter Try.func13, Try.ntmps13
  go_wp2_with fail
  have hk : Blk ((w.alloc (.cells #[.int .u32 v.ad, .int .i64 v.pct, .slice v.A v.n v.c] 60)).alloc (.cells #[.int .u32 v.ad, .int .i64 32] 62)) (w.heap.size + 1) 62 #[.int .u32 v.ad, .int .i64 32] := by
    have := Blk.new (w.alloc (.cells #[.int .u32 v.ad, .int .i64 v.pct, .slice v.A v.n v.c] 60)) 62 #[.int .u32 v.ad, .int .i64 32]
    simpa using this
  exact bodyPost_ret (results_c rfl _ rfl (load_blk hk Try.underlying62 rfl hi)) rfl ⟨rfl, ((Below.refl w.heap.size w).alloc (Nat.le_refl _) _).alloc (by simp) _⟩
set_option maxRecDepth 100000 in
set_option maxHeartbeats 8000000 in
theorem refPrefixC_any (w : World) (v : VipV) : Calls Try.prog 14 #[.agg #[.int .u32 v.ad, .int .i64 v.pct, .slice v.A v.n v.c]] w fun e w' => e = .returned (.agg #[.int .u32 v.ad, .int .i64 32]) ∧ Below w.heap.size w w' := by
  have hi : (Try.prog.info? 62).map (·.size) = some 2 := by kernel_rfl
  go_enter Try.func14, Try.ntmps14
  go_wp2_with fail
  have hk : Blk ((w.alloc (.cells #[.int .u32 v.ad, .int .i64 v.pct, .slice v.A v.n v.c] 65)).alloc (.cells #[.int .u32 v.ad, .int .i64 32] 62)) (w.heap.size + 1) 62 #[.int .u32 v.ad, .int .i64 32] := by
    have := Blk.new (w.alloc (.cells #[.int .u32 v.ad, .int .i64 v.pct, .slice v.A v.n v.c] 65)) 62 #[.int .u32 v.ad, .int .i64 32]
    simpa using this
  exact bodyPost_ret (results_c rfl _ rfl (load_blk hk Try.underlying62 rfl hi)) rfl ⟨rfl, ((Below.refl w.heap.size w).alloc (Nat.le_refl _) _).alloc (by simp) _⟩
end Go.Proofs.Ytgdeecmhhbdjgaa

/- config: ConfigChecks walked. -/
namespace Go.Proofs.Ytgdeecmhhbdjgaa
set_option linter.unusedVariables false
open Go Go.RowKit Go.Maps

theorem again_part {c c' : CfgV} (h : Again c c') : partC c' = partC c ∧ errC c' = errC c ∧ slowC c' = slowC c ∧ c'.V = c.V ∧ c'.vn = c.vn ∧ (CfgSm c → CfgSm c') := by
  obtain ⟨A3, c3, A4, c4, A5, c5, rfl⟩ := h
  exact ⟨rfl, rfl, rfl, rfl, rfl, fun q => ⟨q.p, q.v, q.s, q.b⟩⟩
set_option maxRecDepth 100000 in
set_option maxHeartbeats 16000000 in
theorem checks_core (w : World) (c : CfgV) (i p0 p1 p2 p3 p4 s0 s1 s2 s3 s4 s5 s6 : Int) (h : CfgIn w c)
    (hPo : ∀ w, CfgIn w c → Calls Try.prog 10 #[.agg (cfgC c), .int .i64 i] w fun e w' => e = .returned (.agg #[.int .i64 p0, .int .u32 p1, .int .i64 p2, .int .i64 p3, .int .i64 p4]) ∧ Below w.heap.size w w')
    (hSp : ∀ w, CfgIn w c → Calls Try.prog 9 #[.agg (cfgC c), .int .i64 i] w fun e w' => e = .returned (.agg #[.int .i64 s0, .int .i64 s1, .int .u32 s2, .int .i64 s3, .int .i64 s4, .int .i64 s5, .int .i64 s6]) ∧ Below w.heap.size w w')
    (hRP : ∀ w c', Again c c' → CfgIn w c' → Calls Try.prog 11 #[.agg (cfgC c'), .int .i64 i] w fun e w' => e = .returned (.agg #[.int .i64 p0, .int .u32 p1, .int .i64 p2, .int .i64 p3, .int .i64 p4]) ∧ Below w.heap.size w w')
    (hRS : ∀ w c', Again c c' → CfgIn w c' → Calls Try.prog 12 #[.agg (cfgC c'), .int .i64 i] w fun e w' => e = .returned (.agg #[.int .i64 s0, .int .i64 s1, .int .u32 s2, .int .i64 s3, .int .i64 s4, .int .i64 s5, .int .i64 s6]) ∧ Below w.heap.size w w') :
    Calls Try.prog 3 #[.agg (cfgC c), .int .i64 i] w fun e w' => e = .returned (.bool true) ∧ Below w.heap.size w w' := by
  have hB := (Below.refl w.heap.size w).alloc (Nat.le_refl _) (.cells (cfgC c) 29)
  have hq := Blk.new w 29 (cfgC c)
  have hC := h.nx hB
  have hiC : (Try.prog.info? 29).map (·.size) = some (cfgC c).size := by kernel_rfl
  go_enter Try.func3, Try.ntmps3
  go_upto_region 1 with (fail)
  generalize w.alloc (.cells (cfgC c) 29) = w1 at *
  go_wp2_with (refine wpList_load_blk rfl hq 29 (.tmp 2) rfl rfl Try.underlying29 rfl hiC ?_)
  refine (small_any w1 c hC).mono ?_
  rintro e w2 ⟨rfl, hb⟩
  replace hC := hC.nx hb
  replace hq := hq.below hb hq.lt
  replace hB := hB.trans (hb.mono hB.size)
  clear hb
  cases hsm : smallB c
  · clear hPo hSp hRP hRS
    go_wp2_with fail
    refine (lives32_any w2).mono ?_
    rintro e w3 ⟨rfl, hb⟩
    go_wp2_with fail
    go_ret
    exact ⟨rfl, hB.trans (hb.mono hB.size)⟩
  have hs := small_sm hsm
  clear hsm
  go_wp2_with (refine wpList_load_blk rfl hq 29 (.tmp 2) rfl rfl Try.underlying29 rfl hiC ?_)
  refine (plain_any w2 c hC hs).mono ?_
  rintro e w3 ⟨c', rfl, hAg, hC2, hb⟩
  replace hC := hC.nx hb
  replace hq := hq.below hb hq.lt
  replace hB := hB.trans (hb.mono hB.size)
  clear hb
  obtain ⟨ep, ee, es, eV, en, esm⟩ := again_part hAg
  have hs2 := esm hs
  clear esm
  have hiR : (Try.prog.info? 37).map (·.size) = some (cfgC c').size := by kernel_rfl
  have hb := (Below.refl w3.heap.size w3).alloc (Nat.le_refl _) (.cells #[.int .i64 0, .int .u32 0, .int .u32 0, .slice none 0 0, .slice none 0 0, .slice none 0 0, .int .i64 0, .int .i64 0, .int .i64 0, .int .i64 0, .int .i64 0, .int .i64 0, .int .i64 0, .int .i64 0, .int .i64 0, .int .i64 0, .int .i64 0, .int .i64 0, .int .i64 0] 37)
  have hfr := Blk.new w3 37 #[.int .i64 0, .int .u32 0, .int .u32 0, .slice none 0 0, .slice none 0 0, .slice none 0 0, .int .i64 0, .int .i64 0, .int .i64 0, .int .i64 0, .int .i64 0, .int .i64 0, .int .i64 0, .int .i64 0, .int .i64 0, .int .i64 0, .int .i64 0, .int .i64 0, .int .i64 0]
  go_upto_region 4 with (refine wpList_store_blk rfl hfr 37 (.tmp 5) (.tmp 19) rfl rfl rfl rfl hiR (by simp [cfgC, Value.oneCell']) ?_; intro w4 h5 hg)
  replace hb := hb.trans (Below.of_grown (B := w3.heap.size) hg (by simp) (Nat.le_refl _))
  replace hC := hC.nx hb
  replace hq := hq.below hb hq.lt
  replace hB := hB.trans (hb.mono hB.size)
  replace hC2 := hC2.nx hb
  clear hb hg hfr
  generalize w3.heap.size = g5 at *
  go_wp2_with (refine wpList_load_blk rfl hq 29 (.tmp 2) rfl rfl Try.underlying29 rfl hiC ?_)
  refine (checkC_any w4 c hC hs).mono ?_
  rintro e w5 ⟨rfl, hb⟩
  replace hC := hC.nx hb
  replace hq := hq.below hb hq.lt
  replace hB := hB.trans (hb.mono hB.size)
  replace hC2 := hC2.nx hb
  replace h5 := h5.below hb h5.lt
  clear hb
  have hR5 := refCheck_any
  go_wp2_with (refine wpList_load_blk rfl h5 37 (.tmp 5) rfl rfl Try.underlying37 rfl hiR ?_)
  refine (refCheck_any w5 c' hC2 hs2).mono ?_
  rintro e w6 ⟨rfl, hb⟩
  rw [ep, ee]
  clear hR5
  replace hC := hC.nx hb
  replace hq := hq.below hb hq.lt
  replace hB := hB.trans (hb.mono hB.size)
  replace hC2 := hC2.nx hb
  replace h5 := h5.below hb h5.lt
  clear hb
  obtain ⟨P, hP⟩ : ∃ P, partC c = P := ⟨_, rfl⟩
  obtain ⟨E, hE⟩ : ∃ E, errC c = E := ⟨_, rfl⟩
  rw [hP, hE]
  replace hP := Lib.hid hP
  replace hE := Lib.hid hE
  replace ep := Lib.hid ep
  replace ee := Lib.hid ee
  replace es := Lib.hid es
  replace eV := Lib.hid eV
  replace en := Lib.hid en
  go_wp2_with (refine wpList_load_blk rfl hq 29 (.tmp 2) rfl rfl Try.underlying29 rfl hiC ?_)
  refine (hSp w6 hC).mono ?_
  rintro e w7 ⟨rfl, hb⟩
  replace hC := hC.nx hb
  replace hq := hq.below hb hq.lt
  replace hB := hB.trans (hb.mono hB.size)
  replace hC2 := hC2.nx hb
  replace h5 := h5.below hb h5.lt
  clear hb
  have hb := (Below.refl w7.heap.size w7).alloc (Nat.le_refl _) (.cells #[.int .i64 s0, .int .i64 s1, .int .u32 s2, .int .i64 s3, .int .i64 s4, .int .i64 s5, .int .i64 s6] 47)
  have h10 := Blk.new w7 47 #[.int .i64 s0, .int .i64 s1, .int .u32 s2, .int .i64 s3, .int .i64 s4, .int .i64 s5, .int .i64 s6]
  go_upto_region 7 with (fail)
  replace hC := hC.nx hb
  replace hq := hq.below hb hq.lt
  replace hB := hB.trans (hb.mono hB.size)
  replace hC2 := hC2.nx hb
  replace h5 := h5.below hb h5.lt
  generalize w7.alloc (.cells #[.int .i64 s0, .int .i64 s1, .int .u32 s2, .int .i64 s3, .int .i64 s4, .int .i64 s5, .int .i64 s6] 47) = w8 at *
  generalize w7.heap.size = g10 at *
  clear hb
  have z0 : w8.cell? ⟨g10, 0, none⟩ = some (.int .i64 s0) := h10.cellv 0 rfl
  have z1 : w8.cell? ⟨g10, 1, none⟩ = some (.int .i64 s1) := h10.cellv 1 rfl
  have z2 : w8.cell? ⟨g10, 2, none⟩ = some (.int .u32 s2) := h10.cellv 2 rfl
  have z3 : w8.cell? ⟨g10, 3, none⟩ = some (.int .i64 s3) := h10.cellv 3 rfl
  have z4 : w8.cell? ⟨g10, 4, none⟩ = some (.int .i64 s4) := h10.cellv 4 rfl
  have z5 : w8.cell? ⟨g10, 5, none⟩ = some (.int .i64 s5) := h10.cellv 5 rfl
  have z6 : w8.cell? ⟨g10, 6, none⟩ = some (.int .i64 s6) := h10.cellv 6 rfl
  have zl := h10.lt
  have hb := (Below.refl w8.heap.size w8).alloc (Nat.le_refl _) (.cells #[.int .i64 s0, .int .i64 s1, .int .u32 s2, .int .i64 s3, .int .i64 s4, .int .i64 s5, .int .i64 s6] 51)
  have h11 := Blk.new w8 51 #[.int .i64 s0, .int .i64 s1, .int .u32 s2, .int .i64 s3, .int .i64 s4, .int .i64 s5, .int .i64 s6]
  go_upto_region 8 with (fail)
  clear z0 z1 z2 z3 z4 z5 z6 zl
  replace hC := hC.nx hb
  replace hq := hq.below hb hq.lt
  replace hB := hB.trans (hb.mono hB.size)
  replace hC2 := hC2.nx hb
  replace h5 := h5.below hb h5.lt
  replace h10 := h10.below hb h10.lt
  generalize w8.alloc (.cells #[.int .i64 s0, .int .i64 s1, .int .u32 s2, .int .i64 s3, .int .i64 s4, .int .i64 s5, .int .i64 s6] 51) = w9 at *
  generalize w8.heap.size = g11 at *
  clear hb
  have l2 := hq.lt
  have l5 := h5.lt
  have l11 := h11.lt
  -- region 8: 0 1 2 3 4 5 6 7 8 9 10 11C 12 13 14C 15 16 17 18 19 20 21C 22 23
  try refine wp_region_noPanic ?_
  refine wp_region_lat (by kernel_rfl) ?_
  (refine lat_now 0 (by rfl) ?_ (by kernel_rfl) (fun _ _ _ h => h) ?_ ?_; rotate_left; (focus (intro wq hSw; have hrd : ∀ b o, b < w9.heap.size → wq.cell? ⟨b, o, none⟩ = w9.cell? ⟨b, o, none⟩ := (fun b o h => Below.cell hSw (p := ⟨b, o, none⟩) h); go_simp; try with_reducible rfl; done)); try simp only [Act.put, List.setIfInBounds_toArray, List.set_cons_zero, List.set_cons_succ])
  (refine lat_now 1 (by rfl) ?_ (by kernel_rfl) (fun _ _ _ h => h) ?_ ?_; rotate_left; (focus (intro wq hSw; have hrd : ∀ b o, b < w9.heap.size → wq.cell? ⟨b, o, none⟩ = w9.cell? ⟨b, o, none⟩ := (fun b o h => Below.cell hSw (p := ⟨b, o, none⟩) h); go_simp; try with_reducible rfl; done)); try simp only [Act.put, List.setIfInBounds_toArray, List.set_cons_zero, List.set_cons_succ])
  (refine lat_now 2 (by rfl) ?_ (by kernel_rfl) (fun _ _ _ h => h) ?_ ?_; rotate_left; (focus (intro wq hSw; have hrd : ∀ b o, b < w9.heap.size → wq.cell? ⟨b, o, none⟩ = w9.cell? ⟨b, o, none⟩ := (fun b o h => Below.cell hSw (p := ⟨b, o, none⟩) h); go_simp; try with_reducible rfl; done)); try simp only [Act.put, List.setIfInBounds_toArray, List.set_cons_zero, List.set_cons_succ])
  (refine lat_now 3 (by rfl) ?_ (by kernel_rfl) (fun _ _ _ h => h) ?_ ?_; rotate_left; (focus (intro wq hSw; have hrd : ∀ b o, b < w9.heap.size → wq.cell? ⟨b, o, none⟩ = w9.cell? ⟨b, o, none⟩ := (fun b o h => Below.cell hSw (p := ⟨b, o, none⟩) h); go_simp; try with_reducible rfl; done)); try simp only [Act.put, List.setIfInBounds_toArray, List.set_cons_zero, List.set_cons_succ])
  (refine lat_now 4 (by rfl) ?_ (by kernel_rfl) (fun _ _ _ h => h) ?_ ?_; rotate_left; (focus (intro wq hSw; have hrd : ∀ b o, b < w9.heap.size → wq.cell? ⟨b, o, none⟩ = w9.cell? ⟨b, o, none⟩ := (fun b o h => Below.cell hSw (p := ⟨b, o, none⟩) h); go_simp; try with_reducible rfl; done)); try simp only [Act.put, List.setIfInBounds_toArray, List.set_cons_zero, List.set_cons_succ])
  (refine lat_now 5 (by rfl) ?_ (by kernel_rfl) (fun _ _ _ h => h) ?_ ?_; rotate_left; (focus (intro wq hSw; have hrd : ∀ b o, b < w9.heap.size → wq.cell? ⟨b, o, none⟩ = w9.cell? ⟨b, o, none⟩ := (fun b o h => Below.cell hSw (p := ⟨b, o, none⟩) h); go_simp; try with_reducible rfl; done)); try simp only [Act.put, List.setIfInBounds_toArray, List.set_cons_zero, List.set_cons_succ])
  (refine lat_now 6 (by rfl) ?_ (by kernel_rfl) (fun _ _ _ h => h) ?_ ?_; rotate_left; (focus (intro wq hSw; have hrd : ∀ b o, b < w9.heap.size → wq.cell? ⟨b, o, none⟩ = w9.cell? ⟨b, o, none⟩ := (fun b o h => Below.cell hSw (p := ⟨b, o, none⟩) h); go_simp; try with_reducible rfl; done)); try simp only [Act.put, List.setIfInBounds_toArray, List.set_cons_zero, List.set_cons_succ])
  (refine lat_now 7 (by rfl) ?_ (by kernel_rfl) (fun _ _ _ h => h) ?_ ?_; rotate_left; (focus (intro wq hSw; have hrd : ∀ b o, b < w9.heap.size → wq.cell? ⟨b, o, none⟩ = w9.cell? ⟨b, o, none⟩ := (fun b o h => Below.cell hSw (p := ⟨b, o, none⟩) h); go_simp; try with_reducible rfl; done)); try simp only [Act.put, List.setIfInBounds_toArray, List.set_cons_zero, List.set_cons_succ])
  (refine lat_now 8 (by rfl) ?_ (by kernel_rfl) (fun _ _ _ h => h) ?_ ?_; rotate_left; (focus (intro wq hSw; have hrd : ∀ b o, b < w9.heap.size → wq.cell? ⟨b, o, none⟩ = w9.cell? ⟨b, o, none⟩ := (fun b o h => Below.cell hSw (p := ⟨b, o, none⟩) h); go_simp; try with_reducible rfl; done)); try simp only [Act.put, List.setIfInBounds_toArray, List.set_cons_zero, List.set_cons_succ])
  (refine lat_now 9 (by rfl) ?_ (by kernel_rfl) (fun _ _ _ h => h) ?_ ?_; rotate_left; (focus (intro wq hSw; refine exec_load_blk (x := .tmp 2) ?_ ?_ (hq.below hSw hq.lt) _ Try.underlying29 rfl (by kernel_rfl) <;> rfl)); simp only [Act.put, List.setIfInBounds_toArray, List.set_cons_zero, List.set_cons_succ])
  (refine lat_now 10 (by rfl) ?_ (by kernel_rfl) (fun _ _ _ h => h) ?_ ?_; rotate_left; (focus (intro wq hSw; have hrd : ∀ b o, b < w9.heap.size → wq.cell? ⟨b, o, none⟩ = w9.cell? ⟨b, o, none⟩ := (fun b o h => Below.cell hSw (p := ⟨b, o, none⟩) h); go_simp; try with_reducible rfl; done)); try simp only [Act.put, List.setIfInBounds_toArray, List.set_cons_zero, List.set_cons_succ])
  (refine lat_now 12 (by rfl) ?_ (by kernel_rfl) (fun _ _ _ h => h) ?_ ?_; rotate_left; (focus (intro wq hSw; refine exec_load_blk (x := .tmp 5) ?_ ?_ (h5.below hSw h5.lt) _ Try.underlying37 rfl (by kernel_rfl) <;> rfl)); simp only [Act.put, List.setIfInBounds_toArray, List.set_cons_zero, List.set_cons_succ])
  (refine lat_now 13 (by rfl) ?_ (by kernel_rfl) (fun _ _ _ h => h) ?_ ?_; rotate_left; (focus (intro wq hSw; have hrd : ∀ b o, b < w9.heap.size → wq.cell? ⟨b, o, none⟩ = w9.cell? ⟨b, o, none⟩ := (fun b o h => Below.cell hSw (p := ⟨b, o, none⟩) h); go_simp; try with_reducible rfl; done)); try simp only [Act.put, List.setIfInBounds_toArray, List.set_cons_zero, List.set_cons_succ])
  (refine lat_late 11 (by rfl) (.agg #[.int .i64 p0, .int .u32 p1, .int .i64 p2, .int .i64 p3, .int .i64 p4]) (by kernel_rfl) (fun _ _ _ h => h) (fun wq hSw => ⟨_, _, ?_, hPo wq (hC.nx hSw)⟩) ?_; focus (go_simp; try with_reducible rfl; done); try simp only [Act.put, List.setIfInBounds_toArray, List.set_cons_zero, List.set_cons_succ])
  (refine lat_late 14 (by rfl) (.agg #[.int .i64 p0, .int .u32 p1, .int .i64 p2, .int .i64 p3, .int .i64 p4]) (by kernel_rfl) (fun _ _ _ h => h) (fun wq hSw => ⟨_, _, ?_, hRP wq c' hAg (hC2.nx hSw)⟩) ?_; focus (go_simp; try with_reducible rfl; done); try simp only [Act.put, List.setIfInBounds_toArray, List.set_cons_zero, List.set_cons_succ])
  (refine lat_now 15 (by rfl) ?_ (by kernel_rfl) (fun _ _ _ h => h) ?_ ?_; rotate_left; (focus (intro wq hSw; have hrd : ∀ b o, b < w9.heap.size → wq.cell? ⟨b, o, none⟩ = w9.cell? ⟨b, o, none⟩ := (fun b o h => Below.cell hSw (p := ⟨b, o, none⟩) h); go_simp; try with_reducible rfl; done)); try simp only [Act.put, List.setIfInBounds_toArray, List.set_cons_zero, List.set_cons_succ])
  (refine lat_now 16 (by rfl) ?_ (by kernel_rfl) (fun _ _ _ h => h) ?_ ?_; rotate_left; (focus (intro wq hSw; have hrd : ∀ b o, b < w9.heap.size → wq.cell? ⟨b, o, none⟩ = w9.cell? ⟨b, o, none⟩ := (fun b o h => Below.cell hSw (p := ⟨b, o, none⟩) h); go_simp; try with_reducible rfl; done)); try simp only [Act.put, List.setIfInBounds_toArray, List.set_cons_zero, List.set_cons_succ])
  (refine lat_now 17 (by rfl) ?_ (by kernel_rfl) (fun _ _ _ h => h) ?_ ?_; rotate_left; (focus (intro wq hSw; have hrd : ∀ b o, b < w9.heap.size → wq.cell? ⟨b, o, none⟩ = w9.cell? ⟨b, o, none⟩ := (fun b o h => Below.cell hSw (p := ⟨b, o, none⟩) h); go_simp; try with_reducible rfl; done)); try simp only [Act.put, List.setIfInBounds_toArray, List.set_cons_zero, List.set_cons_succ])
  (refine lat_now 18 (by rfl) ?_ (by kernel_rfl) (fun _ _ _ h => h) ?_ ?_; rotate_left; (focus (intro wq hSw; refine exec_load_blk (x := .tmp 11) ?_ ?_ (h11.below hSw h11.lt) _ Try.underlying51 rfl (by kernel_rfl) <;> rfl)); simp only [Act.put, List.setIfInBounds_toArray, List.set_cons_zero, List.set_cons_succ])
  (refine lat_now 19 (by rfl) ?_ (by kernel_rfl) (fun _ _ _ h => h) ?_ ?_; rotate_left; (focus (intro wq hSw; refine exec_load_blk (x := .tmp 5) ?_ ?_ (h5.below hSw h5.lt) _ Try.underlying37 rfl (by kernel_rfl) <;> rfl)); simp only [Act.put, List.setIfInBounds_toArray, List.set_cons_zero, List.set_cons_succ])
  (refine lat_now 20 (by rfl) ?_ (by kernel_rfl) (fun _ _ _ h => h) ?_ ?_; rotate_left; (focus (intro wq hSw; have hrd : ∀ b o, b < w9.heap.size → wq.cell? ⟨b, o, none⟩ = w9.cell? ⟨b, o, none⟩ := (fun b o h => Below.cell hSw (p := ⟨b, o, none⟩) h); go_simp; try with_reducible rfl; done)); try simp only [Act.put, List.setIfInBounds_toArray, List.set_cons_zero, List.set_cons_succ])
  (refine lat_late 21 (by rfl) (.agg #[.int .i64 s0, .int .i64 s1, .int .u32 s2, .int .i64 s3, .int .i64 s4, .int .i64 s5, .int .i64 s6]) (by kernel_rfl) (fun _ _ _ h => h) (fun wq hSw => ⟨_, _, ?_, hRS wq c' hAg (hC2.nx hSw)⟩) ?_; focus (go_simp; try with_reducible rfl; done); try simp only [Act.put, List.setIfInBounds_toArray, List.set_cons_zero, List.set_cons_succ])
  (refine lat_now 22 (by rfl) ?_ (by kernel_rfl) (fun _ _ _ h => h) ?_ ?_; rotate_left; (focus (intro wq hSw; have hrd : ∀ b o, b < w9.heap.size → wq.cell? ⟨b, o, none⟩ = w9.cell? ⟨b, o, none⟩ := (fun b o h => Below.cell hSw (p := ⟨b, o, none⟩) h); go_simp; try with_reducible rfl; done)); try simp only [Act.put, List.setIfInBounds_toArray, List.set_cons_zero, List.set_cons_succ])
  (refine lat_now 23 (by rfl) ?_ (by kernel_rfl) (fun _ _ _ h => h) ?_ ?_; rotate_left; (focus (intro wq hSw; have hrd : ∀ b o, b < w9.heap.size → wq.cell? ⟨b, o, none⟩ = w9.cell? ⟨b, o, none⟩ := (fun b o h => Below.cell hSw (p := ⟨b, o, none⟩) h); go_simp; try with_reducible rfl; done)); try simp only [Act.put, List.setIfInBounds_toArray, List.set_cons_zero, List.set_cons_succ])
  refine lat_done (by kernel_rfl) (fun wz hz => ?_) _
  try refine NoPanic.normal ?_
  replace hC := hC.nx hz
  replace hq := hq.below hz hq.lt
  replace hB := hB.trans (hz.mono hB.size)
  replace hC2 := hC2.nx hz
  replace h5 := h5.below hz h5.lt
  clear hz l2 l5 l11 h10 h11 hPo hSp hRP hRS hAg
  have hpt : E = 0 → partC c = 0 := fun hz => by
    have := hE.out
    unfold errC at this
    split at this <;> omega
  replace hpt := Lib.hid hpt
  obtain ⟨A, hA⟩ : ∃ A, A = c.vA := ⟨_, rfl⟩
  obtain ⟨A', hA'⟩ : ∃ A', A' = c'.vA := ⟨_, rfl⟩
  have hSv := hC.vips
  rw [← hA] at hSv
  have hSv' := hC2.vips
  rw [← hA', eV.out, en.out] at hSv'
  have hv40 : c.vn ≤ 40 := hs.v
  have q4 : wz.cell? ⟨w.heap.size, 4, none⟩ = some (.slice A c.vn c.vc) := by rw [hA]; exact hq.cellv 4 rfl
  have x4 : wz.cell? ⟨g5, 4, none⟩ = some (.slice A' c.vn c'.vc) := by rw [hA', ← en.out]; exact h5.cellv 4 rfl
  have ql := hq.lt
  have xl := h5.lt
  replace hA := Lib.hid hA
  replace hA' := Lib.hid hA'
  have hno : c.vn = 0 ∨ 0 < c.vn := by omega
  go_upto_region 11 with (fail)
  clear q4 hno
  go_loopw [65] (fun i wr => ∃ k : Nat, k ≤ c.vn ∧ i = .int .i64 (k : Int) ∧ Below wz.heap.size wz wr) (fun i _ => c.vn - (intOf i).toNat)
  case atStart => exact ⟨0, Nat.zero_le _, rfl, Below.refl _ _⟩
  case round =>
  obtain ⟨k, hk, rfl, hD⟩ := hrel
  by_cases hlt : k < c.vn
  · have hki : (k : Int) < c.vn := by omega
    have hk0 : (0 : Int) ≤ k := by omega
    have hk40 : (k : Int) ≤ 40 := by omega
    obtain ⟨b, off, v, e1, hb, hv, hok, r0, r1, r2⟩ := vip_cells (seen_nx hSv hD) hlt
    obtain ⟨b', off', v', e1', hb', hv', hok', y0, y1, y2⟩ := vip_cells (seen_nx hSv' hD) hlt
    obtain rfl : v' = v := by rw [hv] at hv'; injection hv' with e; exact e.symm
    subst e1
    subst e1'
    replace x4 := (hD.cell (p := ⟨g5, 4, none⟩) xl).trans x4
    have hbx := (Below.refl wr.heap.size wr).alloc (Nat.le_refl _) (.cells #[.int .u32 v'.ad, .int .i64 v'.pct, .slice v'.A v'.n v'.c] 60)
    have h13 := Blk.new wr 60 #[.int .u32 v'.ad, .int .i64 v'.pct, .slice v'.A v'.n v'.c]
    replace x4 := (hbx.cell (p := ⟨g5, 4, none⟩) (Nat.lt_of_lt_of_le xl hD.size)).trans x4
    clear hv hv' hok hok' hSv hSv'
    go_upto_region 13 with (fail)
    replace y0 := (hbx.cell (p := ⟨b', off' + k * 3, none⟩) hb').trans y0
    replace y1 := (hbx.cell (p := ⟨b', off' + k * 3 + 1, none⟩) hb').trans y1
    replace y2 := (hbx.cell (p := ⟨b', off' + k * 3 + 2, none⟩) hb').trans y2
    have hD3 := hD.trans (hbx.mono hD.size)
    have yl3 := Nat.lt_of_lt_of_le hb' hbx.size
    generalize wr.alloc (.cells #[.int .u32 v'.ad, .int .i64 v'.pct, .slice v'.A v'.n v'.c] 60) = w3 at *
    generalize wr.heap.size = g13 at *
    have l13 := h13.lt
    have xl3 : g5 < w3.heap.size := Nat.lt_of_lt_of_le xl hD3.size
    clear r0 r1 r2 hb hb' hbx hD
    -- region 13: 0 1C 2 3 4 5 6 7C 8
    try refine wp_region_noPanic ?_
    refine wp_region_lat (by kernel_rfl) ?_
    (refine lat_now 0 (by rfl) ?_ (by kernel_rfl) (fun _ _ _ h => h) ?_ ?_; rotate_left; (focus (intro wq hSw; refine exec_load_blk (x := .tmp 13) ?_ ?_ (h13.below hSw h13.lt) _ Try.underlying60 rfl (by kernel_rfl) <;> rfl)); simp only [Act.put, List.setIfInBounds_toArray, List.set_cons_zero, List.set_cons_succ])
    (refine lat_now 2 (by rfl) ?_ (by kernel_rfl) (fun _ _ _ h => h) ?_ ?_; rotate_left; (focus (intro wq hSw; have hrd : ∀ b o, b < w3.heap.size → wq.cell? ⟨b, o, none⟩ = w3.cell? ⟨b, o, none⟩ := (fun b o h => Below.cell hSw (p := ⟨b, o, none⟩) h); go_simp; try with_reducible rfl; done)); try simp only [Act.put, List.setIfInBounds_toArray, List.set_cons_zero, List.set_cons_succ])
    (refine lat_now 3 (by rfl) ?_ (by kernel_rfl) (fun _ _ _ h => h) ?_ ?_; rotate_left; (focus (intro wq hSw; have hrd : ∀ b o, b < w3.heap.size → wq.cell? ⟨b, o, none⟩ = w3.cell? ⟨b, o, none⟩ := (fun b o h => Below.cell hSw (p := ⟨b, o, none⟩) h); go_simp; try with_reducible rfl; done)); try simp only [Act.put, List.setIfInBounds_toArray, List.set_cons_zero, List.set_cons_succ])
    (refine lat_now 4 (by rfl) ?_ (by kernel_rfl) (fun _ _ _ h => h) ?_ ?_; rotate_left; (focus (intro wq hSw; have hrd : ∀ b o, b < w3.heap.size → wq.cell? ⟨b, o, none⟩ = w3.cell? ⟨b, o, none⟩ := (fun b o h => Below.cell hSw (p := ⟨b, o, none⟩) h); go_simp; try with_reducible rfl; done)); try simp only [Act.put, List.setIfInBounds_toArray, List.set_cons_zero, List.set_cons_succ])
    (refine lat_now 5 (by rfl) ?_ (by kernel_rfl) (fun _ _ _ h => h) ?_ ?_; rotate_left; (focus (intro wq hSw; have hrd : ∀ b o, b < w3.heap.size → wq.cell? ⟨b, o, none⟩ = w3.cell? ⟨b, o, none⟩ := (fun b o h => Below.cell hSw (p := ⟨b, o, none⟩) h); go_simp; try with_reducible rfl; done)); try simp only [Act.put, List.setIfInBounds_toArray, List.set_cons_zero, List.set_cons_succ])
    (refine lat_now 6 (by rfl) ?_ (by kernel_rfl) (fun _ _ _ h => h) ?_ ?_; rotate_left; (focus (intro wq hSw; have hrd : ∀ b o, b < w3.heap.size → wq.cell? ⟨b, o, none⟩ = w3.cell? ⟨b, o, none⟩ := (fun b o h => Below.cell hSw (p := ⟨b, o, none⟩) h); go_simp; try with_reducible rfl; done)); try simp only [Act.put, List.setIfInBounds_toArray, List.set_cons_zero, List.set_cons_succ])
    (refine lat_late 1 (by rfl) (.agg #[.int .u32 v'.ad, .int .i64 32]) (by kernel_rfl) (fun _ _ _ h => h) (fun wq hSw => ⟨_, _, ?_, prefixC_any wq v'⟩) ?_; focus (go_simp; try with_reducible rfl; done); try simp only [Act.put, List.setIfInBounds_toArray, List.set_cons_zero, List.set_cons_succ])
    (refine lat_late 7 (by rfl) (.agg #[.int .u32 v'.ad, .int .i64 32]) (by kernel_rfl) (fun _ _ _ h => h) (fun wq hSw => ⟨_, _, ?_, refPrefixC_any wq v'⟩) ?_; focus (go_simp; try with_reducible rfl; done); try simp only [Act.put, List.setIfInBounds_toArray, List.set_cons_zero, List.set_cons_succ])
    (refine lat_now 8 (by rfl) ?_ (by kernel_rfl) (fun _ _ _ h => h) ?_ ?_; rotate_left; (focus (intro wq hSw; have hrd : ∀ b o, b < w3.heap.size → wq.cell? ⟨b, o, none⟩ = w3.cell? ⟨b, o, none⟩ := (fun b o h => Below.cell hSw (p := ⟨b, o, none⟩) h); go_simp; try with_reducible rfl; done)); try simp only [Act.put, List.setIfInBounds_toArray, List.set_cons_zero, List.set_cons_succ])
    refine lat_done (by kernel_rfl) (fun wz hz => ?_) _
    try refine NoPanic.normal ?_
    go_wp2_with fail
    exact ⟨⟨k + 1, by omega, by go_num, hD3.trans (hz.mono hD3.size)⟩, by simp [intOf]; omega⟩
  · obtain rfl : k = c.vn := by omega
    clear x4
    replace hq := hq.below hD hq.lt
    replace h5 := h5.below hD h5.lt
    replace hB := hB.trans (hD.mono hB.size)
    replace hC := hC.nx hD
    replace hC2 := hC2.nx hD
    have l2 := hq.lt
    have l5 := h5.lt
    go_upto_region 16 with (fail)
    by_cases hE0 : E = 0
    · have hp0 := hpt.out hE0
      subst hE0
      have hsl := fun w (h : CfgIn w c) => slow_any w c h hs hp0
      have hrl := fun w (h : CfgIn w c') => refSlow_any w c' h hs2 (ep.out.trans hp0)
      rw [es.out] at hrl
      replace hsl := Lib.hid hsl
      replace hrl := Lib.hid hrl
      -- region 16: 0 1 2 3 4C 5 6C 7 8 9 10C 11 12
      try refine wp_region_noPanic ?_
      refine wp_region_lat (by kernel_rfl) ?_
      (refine lat_now 0 (by rfl) ?_ (by kernel_rfl) (fun _ _ _ h => h) ?_ ?_; rotate_left; (focus (intro wq hSw; have hrd : ∀ b o, b < wr.heap.size → wq.cell? ⟨b, o, none⟩ = wr.cell? ⟨b, o, none⟩ := (fun b o h => Below.cell hSw (p := ⟨b, o, none⟩) h); go_simp; try with_reducible rfl; done)); try simp only [Act.put, List.setIfInBounds_toArray, List.set_cons_zero, List.set_cons_succ])
      (refine lat_now 1 (by rfl) ?_ (by kernel_rfl) (fun _ _ _ h => h) ?_ ?_; rotate_left; (focus (intro wq hSw; have hrd : ∀ b o, b < wr.heap.size → wq.cell? ⟨b, o, none⟩ = wr.cell? ⟨b, o, none⟩ := (fun b o h => Below.cell hSw (p := ⟨b, o, none⟩) h); go_simp; try with_reducible rfl; done)); try simp only [Act.put, List.setIfInBounds_toArray, List.set_cons_zero, List.set_cons_succ])
      (refine lat_now 2 (by rfl) ?_ (by kernel_rfl) (fun _ _ _ h => h) ?_ ?_; rotate_left; (focus (intro wq hSw; have hrd : ∀ b o, b < wr.heap.size → wq.cell? ⟨b, o, none⟩ = wr.cell? ⟨b, o, none⟩ := (fun b o h => Below.cell hSw (p := ⟨b, o, none⟩) h); go_simp; try with_reducible rfl; done)); try simp only [Act.put, List.setIfInBounds_toArray, List.set_cons_zero, List.set_cons_succ])
      (refine lat_now 3 (by rfl) ?_ (by kernel_rfl) (fun _ _ _ h => h) ?_ ?_; rotate_left; (focus (intro wq hSw; refine exec_load_blk (x := .tmp 2) ?_ ?_ (hq.below hSw hq.lt) _ Try.underlying29 rfl (by kernel_rfl) <;> rfl)); simp only [Act.put, List.setIfInBounds_toArray, List.set_cons_zero, List.set_cons_succ])
      (refine lat_now 5 (by rfl) ?_ (by kernel_rfl) (fun _ _ _ h => h) ?_ ?_; rotate_left; (focus (intro wq hSw; refine exec_load_blk (x := .tmp 5) ?_ ?_ (h5.below hSw h5.lt) _ Try.underlying37 rfl (by kernel_rfl) <;> rfl)); simp only [Act.put, List.setIfInBounds_toArray, List.set_cons_zero, List.set_cons_succ])
      (refine lat_late 4 (by rfl) (.int .i64 (slowC c)) (by kernel_rfl) (fun _ _ _ h => h) (fun wq hSw => ⟨_, _, ?_, hsl.out wq (hC.nx hSw)⟩) ?_; focus (go_simp; try with_reducible rfl; done); try simp only [Act.put, List.setIfInBounds_toArray, List.set_cons_zero, List.set_cons_succ])
      (refine lat_late 6 (by rfl) (.int .i64 (slowC c)) (by kernel_rfl) (fun _ _ _ h => h) (fun wq hSw => ⟨_, _, ?_, hrl.out wq (hC2.nx hSw)⟩) ?_; focus (go_simp; try with_reducible rfl; done); try simp only [Act.put, List.setIfInBounds_toArray, List.set_cons_zero, List.set_cons_succ])
      (refine lat_now 7 (by rfl) ?_ (by kernel_rfl) (fun _ _ _ h => h) ?_ ?_; rotate_left; (focus (intro wq hSw; have hrd : ∀ b o, b < wr.heap.size → wq.cell? ⟨b, o, none⟩ = wr.cell? ⟨b, o, none⟩ := (fun b o h => Below.cell hSw (p := ⟨b, o, none⟩) h); go_simp; try with_reducible rfl; done)); try simp only [Act.put, List.setIfInBounds_toArray, List.set_cons_zero, List.set_cons_succ])
      (refine lat_now 8 (by rfl) ?_ (by kernel_rfl) (fun _ _ _ h => h) ?_ ?_; rotate_left; (focus (intro wq hSw; have hrd : ∀ b o, b < wr.heap.size → wq.cell? ⟨b, o, none⟩ = wr.cell? ⟨b, o, none⟩ := (fun b o h => Below.cell hSw (p := ⟨b, o, none⟩) h); go_simp; try with_reducible rfl; done)); try simp only [Act.put, List.setIfInBounds_toArray, List.set_cons_zero, List.set_cons_succ])
      (refine lat_now 9 (by rfl) ?_ (by kernel_rfl) (fun _ _ _ h => h) ?_ ?_; rotate_left; (focus (intro wq hSw; have hrd : ∀ b o, b < wr.heap.size → wq.cell? ⟨b, o, none⟩ = wr.cell? ⟨b, o, none⟩ := (fun b o h => Below.cell hSw (p := ⟨b, o, none⟩) h); go_simp; try with_reducible rfl; done)); try simp only [Act.put, List.setIfInBounds_toArray, List.set_cons_zero, List.set_cons_succ])
      (refine lat_late 10 (by rfl) (.bool true) (by kernel_rfl) (fun _ _ _ h => h) (fun wq hSw => ⟨_, _, ?_, lives32_any wq⟩) ?_; focus (go_simp; try with_reducible rfl; done); try simp only [Act.put, List.setIfInBounds_toArray, List.set_cons_zero, List.set_cons_succ])
      (refine lat_now 11 (by rfl) ?_ (by kernel_rfl) (fun _ _ _ h => h) ?_ ?_; rotate_left; (focus (intro wq hSw; have hrd : ∀ b o, b < wr.heap.size → wq.cell? ⟨b, o, none⟩ = wr.cell? ⟨b, o, none⟩ := (fun b o h => Below.cell hSw (p := ⟨b, o, none⟩) h); go_simp; try with_reducible rfl; done)); try simp only [Act.put, List.setIfInBounds_toArray, List.set_cons_zero, List.set_cons_succ])
      (refine lat_now 12 (by rfl) ?_ (by kernel_rfl) (fun _ _ _ h => h) ?_ ?_; rotate_left; (focus (intro wq hSw; have hrd : ∀ b o, b < wr.heap.size → wq.cell? ⟨b, o, none⟩ = wr.cell? ⟨b, o, none⟩ := (fun b o h => Below.cell hSw (p := ⟨b, o, none⟩) h); go_simp; try with_reducible rfl; done)); try simp only [Act.put, List.setIfInBounds_toArray, List.set_cons_zero, List.set_cons_succ])
      refine lat_done (by kernel_rfl) (fun wz hz => ?_) _
      try refine NoPanic.normal ?_
      go_wp2_with fail
      go_ret
      exact ⟨rfl, hB.trans (hz.mono hB.size)⟩
    · have d1 : decide (E = 0) = false := by simpa using hE0
      have d2 : (E != 0) = true := by simpa using hE0
      -- region 16: 0 1 2 3 4C 5 6C 7 8 9 10C 11 12
      try refine wp_region_noPanic ?_
      refine wp_region_lat (by kernel_rfl) ?_
      (refine lat_now 0 (by rfl) ?_ (by kernel_rfl) (fun _ _ _ h => h) ?_ ?_; rotate_left; (focus (intro wq hSw; have hrd : ∀ b o, b < wr.heap.size → wq.cell? ⟨b, o, none⟩ = wr.cell? ⟨b, o, none⟩ := (fun b o h => Below.cell hSw (p := ⟨b, o, none⟩) h); go_simp; try with_reducible rfl; done)); try simp only [Act.put, List.setIfInBounds_toArray, List.set_cons_zero, List.set_cons_succ])
      (refine lat_now 1 (by rfl) ?_ (by kernel_rfl) (fun _ _ _ h => h) ?_ ?_; rotate_left; (focus (intro wq hSw; have hrd : ∀ b o, b < wr.heap.size → wq.cell? ⟨b, o, none⟩ = wr.cell? ⟨b, o, none⟩ := (fun b o h => Below.cell hSw (p := ⟨b, o, none⟩) h); go_simp; try with_reducible rfl; done)); try simp only [Act.put, List.setIfInBounds_toArray, List.set_cons_zero, List.set_cons_succ])
      (refine lat_now 2 (by rfl) ?_ (by kernel_rfl) (fun _ _ _ h => h) ?_ ?_; rotate_left; (focus (intro wq hSw; have hrd : ∀ b o, b < wr.heap.size → wq.cell? ⟨b, o, none⟩ = wr.cell? ⟨b, o, none⟩ := (fun b o h => Below.cell hSw (p := ⟨b, o, none⟩) h); go_simp; try with_reducible rfl; done)); try simp only [Act.put, List.setIfInBounds_toArray, List.set_cons_zero, List.set_cons_succ])
      (refine lat_skip 3 (by rfl) (by kernel_rfl) (fun _ _ _ h => h) ?_; try simp only [Act.put, List.setIfInBounds_toArray, List.set_cons_zero, List.set_cons_succ])
      (refine lat_skip 4 (by rfl) (by kernel_rfl) (fun _ _ _ h => h) ?_; try simp only [Act.put, List.setIfInBounds_toArray, List.set_cons_zero, List.set_cons_succ])
      (refine lat_skip 5 (by rfl) (by kernel_rfl) (fun _ _ _ h => h) ?_; try simp only [Act.put, List.setIfInBounds_toArray, List.set_cons_zero, List.set_cons_succ])
      (refine lat_skip 6 (by rfl) (by kernel_rfl) (fun _ _ _ h => h) ?_; try simp only [Act.put, List.setIfInBounds_toArray, List.set_cons_zero, List.set_cons_succ])
      (refine lat_skip 7 (by rfl) (by kernel_rfl) (fun _ _ _ h => h) ?_; try simp only [Act.put, List.setIfInBounds_toArray, List.set_cons_zero, List.set_cons_succ])
      (refine lat_now 8 (by rfl) ?_ (by kernel_rfl) (fun _ _ _ h => h) ?_ ?_; rotate_left; (focus (intro wq hSw; have hrd : ∀ b o, b < wr.heap.size → wq.cell? ⟨b, o, none⟩ = wr.cell? ⟨b, o, none⟩ := (fun b o h => Below.cell hSw (p := ⟨b, o, none⟩) h); go_simp; try with_reducible rfl; done)); try simp only [Act.put, List.setIfInBounds_toArray, List.set_cons_zero, List.set_cons_succ])
      (refine lat_now 9 (by rfl) ?_ (by kernel_rfl) (fun _ _ _ h => h) ?_ ?_; rotate_left; (focus (intro wq hSw; have hrd : ∀ b o, b < wr.heap.size → wq.cell? ⟨b, o, none⟩ = wr.cell? ⟨b, o, none⟩ := (fun b o h => Below.cell hSw (p := ⟨b, o, none⟩) h); go_simp; try with_reducible rfl; done)); try simp only [Act.put, List.setIfInBounds_toArray, List.set_cons_zero, List.set_cons_succ])
      (refine lat_late 10 (by rfl) (.bool true) (by kernel_rfl) (fun _ _ _ h => h) (fun wq hSw => ⟨_, _, ?_, lives32_any wq⟩) ?_; focus (go_simp; try with_reducible rfl; done); try simp only [Act.put, List.setIfInBounds_toArray, List.set_cons_zero, List.set_cons_succ])
      (refine lat_now 11 (by rfl) ?_ (by kernel_rfl) (fun _ _ _ h => h) ?_ ?_; rotate_left; (focus (intro wq hSw; have hrd : ∀ b o, b < wr.heap.size → wq.cell? ⟨b, o, none⟩ = wr.cell? ⟨b, o, none⟩ := (fun b o h => Below.cell hSw (p := ⟨b, o, none⟩) h); go_simp; try with_reducible rfl; done)); try simp only [Act.put, List.setIfInBounds_toArray, List.set_cons_zero, List.set_cons_succ])
      (refine lat_now 12 (by rfl) ?_ (by kernel_rfl) (fun _ _ _ h => h) ?_ ?_; rotate_left; (focus (intro wq hSw; have hrd : ∀ b o, b < wr.heap.size → wq.cell? ⟨b, o, none⟩ = wr.cell? ⟨b, o, none⟩ := (fun b o h => Below.cell hSw (p := ⟨b, o, none⟩) h); go_simp; try with_reducible rfl; done)); try simp only [Act.put, List.setIfInBounds_toArray, List.set_cons_zero, List.set_cons_succ])
      refine lat_done (by kernel_rfl) (fun wz hz => ?_) _
      try refine NoPanic.normal ?_
      go_wp2_with fail
      go_ret
      exact ⟨rfl, hB.trans (hz.mono hB.size)⟩
end Go.Proofs.Ytgdeecmhhbdjgaa

/- config: ConfigChecks, the law. -/
namespace Go.Proofs.Ytgdeecmhhbdjgaa
set_option linter.unusedVariables false
open Go Go.RowKit Go.Maps

theorem checks32_law (as_ id own : Int) (pA : Option Addr) (pn pc : Nat) (P : List PeerV) (vA : Option Addr) (vn vc : Nat) (V : List VipV) (sA : Option Addr) (sn sc : Nat) (S : List SiteV) (rise fall every pat room idle queue dF dS dR dC dH ttl i : Int) (w : World) (w1 : (Lit.int .i64 as_).wf = true) (w2 : (Lit.int .u32 id).wf = true) (w3 : (Lit.int .u32 own).wf = true) (hp1 : pn ≤ pc) (hp2 : pc ≤ maxLen) (hp3 : Seen peerK w (fun b => b < w.heap.size) pA pn P) (hv1 : vn ≤ vc) (hv2 : vc ≤ maxLen) (hv3 : Seen vipK w (fun b => b < w.heap.size) vA vn V) (hs1 : sn ≤ sc) (hs2 : sc ≤ maxLen) (hs3 : Seen siteK w (fun b => b < w.heap.size) sA sn S) (w_rise : (Lit.int .i64 rise).wf = true) (w_fall : (Lit.int .i64 fall).wf = true) (w_every : (Lit.int .i64 every).wf = true) (w_pat : (Lit.int .i64 pat).wf = true) (w_room : (Lit.int .i64 room).wf = true) (w_idle : (Lit.int .i64 idle).wf = true) (w_queue : (Lit.int .i64 queue).wf = true) (w_dF : (Lit.int .i64 dF).wf = true) (w_dS : (Lit.int .i64 dS).wf = true) (w_dR : (Lit.int .i64 dR).wf = true) (w_dC : (Lit.int .i64 dC).wf = true) (w_dH : (Lit.int .i64 dH).wf = true) (w_ttl : (Lit.int .i64 ttl).wf = true) (w_i : (Lit.int .i64 i).wf = true) :
    Calls Try.prog 3 #[.agg #[.int .i64 as_, .int .u32 id, .int .u32 own, .slice pA pn pc, .slice vA vn vc, .slice sA sn sc, .int .i64 rise, .int .i64 fall, .int .i64 every, .int .i64 pat, .int .i64 room, .int .i64 idle, .int .i64 queue, .int .i64 dF, .int .i64 dS, .int .i64 dR, .int .i64 dC, .int .i64 dH, .int .i64 ttl], .int .i64 i] w fun e w' => e = .returned (.bool true) ∧ Below w.heap.size w w' := by
  obtain ⟨c, hc⟩ : ∃ c : CfgV, c = ⟨as_, id, own, pA, pn, pc, P, vA, vn, vc, V, sA, sn, sc, S, rise, fall, every, pat, room, idle, queue, dF, dS, dR, dC, dH, ttl⟩ := ⟨_, rfl⟩
  have e1 : (#[.int .i64 as_, .int .u32 id, .int .u32 own, .slice pA pn pc, .slice vA vn vc, .slice sA sn sc, .int .i64 rise, .int .i64 fall, .int .i64 every, .int .i64 pat, .int .i64 room, .int .i64 idle, .int .i64 queue, .int .i64 dF, .int .i64 dS, .int .i64 dR, .int .i64 dC, .int .i64 dH, .int .i64 ttl] : Array Value) = cfgC c := by rw [hc]; rfl
  have e2 : c.pn = pn := by rw [hc]
  rw [e1]
  have h : CfgIn w c := by
    rw [hc]
    exact ⟨isU_wf w2, isU_wf w3, ⟨isI_wf w1, isI_wf w_rise, isI_wf w_fall, isI_wf w_every, isI_wf w_pat, isI_wf w_room, isI_wf w_idle, isI_wf w_queue⟩, ⟨isI_wf w_dF, isI_wf w_dS, isI_wf w_dR, isI_wf w_dC, isI_wf w_dH, isI_wf w_ttl⟩, ⟨⟨hp1, hp2⟩, ⟨hv1, hv2⟩, ⟨hs1, hs2⟩⟩, hp3, hv3, hs3⟩
  clear hc e1
  by_cases hi : 0 ≤ i ∧ i < c.pn
  · obtain ⟨k, rfl⟩ := Int.eq_ofNat_of_zero_le hi.1
    have hl := h.peers.1
    obtain ⟨p, hp⟩ : ∃ p, c.P[k]? = some p := ⟨_, List.getElem?_eq_getElem (by omega)⟩
    exact checks_core w c k c.as_ c.own p.med p.prep p.back c.as_ p.as_ c.id p.hold p.retry c.queue p.gap h
      (fun w h => policyC_yes w c k p h hp) (fun w h => speakerC_yes w c k p h hp)
      (fun w c' ha h => by obtain ⟨A3, c3, A4, c4, A5, c5, rfl⟩ := ha; exact refPolicy_yes w _ k p h hp)
      (fun w c' ha h => by obtain ⟨A3, c3, A4, c4, A5, c5, rfl⟩ := ha; exact refSpeaker_yes w _ k p h hp)
  · have hk : i < 0 ∨ (c.pn : Int) ≤ i := by omega
    exact checks_core w c i 0 0 0 0 0 0 0 0 0 0 0 0 h
      (fun w h => policyC_no w c i h hk) (fun w h => speakerC_no w c i h hk)
      (fun w c' ha h => by obtain ⟨A3, c3, A4, c4, A5, c5, rfl⟩ := ha; exact refPolicy_no w _ i h hk)
      (fun w c' ha h => by obtain ⟨A3, c3, A4, c4, A5, c5, rfl⟩ := ha; exact refSpeaker_no w _ i h hk)
end Go.Proofs.Ytgdeecmhhbdjgaa

/-
  What is proved: fairway/fairwaylaw32.ConfigChecks answers true for every input, and each argument reads afterwards as it read before. Conditions: those of the given statement Rows.ConfigChecksSaid, no others.
-/
namespace Go.Proofs.Ytgdeecmhhbdjgaa.lawConfigChecks
open Go.ChangeShapes Go.WideShapes Go.ChangeAt Go.RowKit
set_option linter.unusedVariables false

theorem own : ownKnob Try.prog.godebug = none := by kernel_rfl
theorem laidOut : laidOutB Try.prog = true := by kernel_rfl

set_option maxRecDepth 100000 in
theorem lifted (os : Os) (started : os.Started) (H : Type) (enc : TypeId × Value → H) :
    ReturnsInHanded {} Try.checked os 3 .any (Rows.configChecksSpec.pre6 enc Try.prog Try.f3 Rows.configChecksRow.domain false) (Rows.configChecksSpec.post enc Try.prog Try.f3 false true false false) := by
  refine returnsInHanded_of_change (C := Try.checked) own started (by kernel_rfl) Try.func3
    (ChangeSpec.witness6 (enc := enc) (C := Try.checked) false ⟨#[], #[.agg #[.int .i64 0, .int .u32 0, .int .u32 0, .slice none 0 0, .slice none 0 0, .slice none 0 0, .int .i64 0, .int .i64 0, .int .i64 0, .int .i64 0, .int .i64 0, .int .i64 0, .int .i64 0, .int .i64 0, .int .i64 0, .int .i64 0, .int .i64 0, .int .i64 0, .int .i64 0], .int .i64 0], []⟩ 8 (by kernel_rfl) (by kernel_rfl) (by kernel_rfl) (by kernel_rfl)) ?_
  intro W base args ds gs before hval0 hW hcnd _
  have hval : ∀ (j : Nat) t v, Try.f3.params[j]? = some t → args[j]? = some v → Value.okWide Try.prog W .any base t v := hval0
  have hW' := hW
  obtain ⟨p, q, hA0, hV, rfl, hfz, hnd⟩ := hW
  have hA : DataW.TrodAll enc Try.prog W 0 (fun _ => true) true Try.f3.params.toList args.toList ds p := hA0
  rw [Try.params3] at hA hval
  obtain ⟨v0, vs0, d0, ds0, p0, q0, hargs, rfl, rfl, k0, r0⟩ := trodAll_cons hA
  obtain ⟨v1, vs1, d1, ds1, p1, q1, rfl, rfl, rfl, k1, r1⟩ := trodAll_cons r0
  obtain ⟨rfl, rfl, rfl⟩ := trodAll_nil r1
  obtain rfl : args = #[v0, v1] := by cases args; simp_all
  obtain ⟨rfl, rfl⟩ := trodVars_none hV
  have lt0 : ∀ x ∈ p0, x.block < W.heap.size := by obtain ⟨m, hm⟩ := k0; exact DataW.trod_lt m _ _ _ hm
  have lt1 : ∀ x ∈ p1, x.block < W.heap.size := by obtain ⟨m, hm⟩ := k1; exact DataW.trod_lt m _ _ _ hm
  obtain ⟨cs0, nf0, xf0, rfl, hn0, ht0⟩ := open_whole (N := 19) Try.underlying29 (by kernel_rfl) (hval 0 29 v0 rfl rfl) k0
  have hq0 : ∀ l : List Value, l.length = 19 → ∃ u0_0 u0_1 u0_2 u0_3 u0_4 u0_5 u0_6 u0_7 u0_8 u0_9 u0_10 u0_11 u0_12 u0_13 u0_14 u0_15 u0_16 u0_17 u0_18, l = [u0_0, u0_1, u0_2, u0_3, u0_4, u0_5, u0_6, u0_7, u0_8, u0_9, u0_10, u0_11, u0_12, u0_13, u0_14, u0_15, u0_16, u0_17, u0_18] := fun l h => match l, h with | [u0_0, u0_1, u0_2, u0_3, u0_4, u0_5, u0_6, u0_7, u0_8, u0_9, u0_10, u0_11, u0_12, u0_13, u0_14, u0_15, u0_16, u0_17, u0_18], _ => ⟨u0_0, u0_1, u0_2, u0_3, u0_4, u0_5, u0_6, u0_7, u0_8, u0_9, u0_10, u0_11, u0_12, u0_13, u0_14, u0_15, u0_16, u0_17, u0_18, rfl⟩
  obtain ⟨u0_0, u0_1, u0_2, u0_3, u0_4, u0_5, u0_6, u0_7, u0_8, u0_9, u0_10, u0_11, u0_12, u0_13, u0_14, u0_15, u0_16, u0_17, u0_18, rfl⟩ := hq0 cs0 hn0
  obtain ⟨n_0_1, y_0_1, h_0_1⟩ := trod_field (off := 0) (k := 1) (T := 3) Try.underlying29 ht0 0 rfl rfl rfl (by kernel_rfl)
  replace h_0_1 : DataW.trod _ _ _ _ _ _ _ 3 [u0_0] = some _ := h_0_1
  obtain ⟨x_0_1, rfl, w_0_1⟩ := field_int Try.underlying3 h_0_1
  obtain ⟨n_0_2, y_0_2, h_0_2⟩ := trod_field (off := 1) (k := 1) (T := 22) Try.underlying29 ht0 1 rfl rfl rfl (by kernel_rfl)
  replace h_0_2 : DataW.trod _ _ _ _ _ _ _ 22 [u0_1] = some _ := h_0_2
  obtain ⟨x_0_2, rfl, w_0_2⟩ := field_int Try.underlying22 h_0_2
  obtain ⟨n_0_3, y_0_3, h_0_3⟩ := trod_field (off := 2) (k := 1) (T := 22) Try.underlying29 ht0 2 rfl rfl rfl (by kernel_rfl)
  replace h_0_3 : DataW.trod _ _ _ _ _ _ _ 22 [u0_2] = some _ := h_0_3
  obtain ⟨x_0_3, rfl, w_0_3⟩ := field_int Try.underlying22 h_0_3
  obtain ⟨n_0_4, y_0_4, h_0_4⟩ := trod_field (off := 3) (k := 1) (T := 23) Try.underlying29 ht0 3 rfl rfl rfl (by kernel_rfl)
  replace h_0_4 : DataW.trod _ _ _ _ _ _ _ 23 [u0_3] = some _ := h_0_4
  obtain ⟨x_0_4, n_0_4n, c_0_4, l_0_4, rfl, hl_0_4, hm_0_4, w_0_4⟩ := field_peers Try.underlying23 Try.underlying71 (by kernel_rfl) (by kernel_rfl) rfl rfl rfl rfl rfl rfl rfl rfl Try.underlying3 Try.underlying3 Try.underlying3 Try.underlying3 Try.underlying3 Try.underlying3 Try.underlying3 h_0_4
  obtain ⟨n_0_5, y_0_5, h_0_5⟩ := trod_field (off := 4) (k := 1) (T := 24) Try.underlying29 ht0 4 rfl rfl rfl (by kernel_rfl)
  replace h_0_5 : DataW.trod _ _ _ _ _ _ _ 24 [u0_4] = some _ := h_0_5
  obtain ⟨x_0_5, n_0_5n, c_0_5, l_0_5, rfl, hl_0_5, hm_0_5, w_0_5⟩ := field_vips (tb := 0) Try.underlying24 Try.underlying60 (by kernel_rfl) (by kernel_rfl) rfl rfl rfl rfl Try.underlying22 Try.underlying3 Try.underlying58 Try.underlying114 (by kernel_rfl) (by kernel_rfl) rfl rfl rfl rfl Try.underlying3 Try.underlying22 Try.underlying3 h_0_5
  obtain ⟨n_0_6, y_0_6, h_0_6⟩ := trod_field (off := 5) (k := 1) (T := 25) Try.underlying29 ht0 5 rfl rfl rfl (by kernel_rfl)
  replace h_0_6 : DataW.trod _ _ _ _ _ _ _ 25 [u0_5] = some _ := h_0_6
  obtain ⟨x_0_6, n_0_6n, c_0_6, l_0_6, rfl, hl_0_6, hm_0_6, w_0_6⟩ := field_sites Try.underlying25 Try.underlying74 (by kernel_rfl) (by kernel_rfl) rfl rfl rfl rfl Try.underlying3 Try.underlying22 Try.underlying3 h_0_6
  obtain ⟨n_0_7, y_0_7, h_0_7⟩ := trod_field (off := 6) (k := 1) (T := 3) Try.underlying29 ht0 6 rfl rfl rfl (by kernel_rfl)
  replace h_0_7 : DataW.trod _ _ _ _ _ _ _ 3 [u0_6] = some _ := h_0_7
  obtain ⟨x_0_7, rfl, w_0_7⟩ := field_int Try.underlying3 h_0_7
  obtain ⟨n_0_8, y_0_8, h_0_8⟩ := trod_field (off := 7) (k := 1) (T := 3) Try.underlying29 ht0 7 rfl rfl rfl (by kernel_rfl)
  replace h_0_8 : DataW.trod _ _ _ _ _ _ _ 3 [u0_7] = some _ := h_0_8
  obtain ⟨x_0_8, rfl, w_0_8⟩ := field_int Try.underlying3 h_0_8
  obtain ⟨n_0_9, y_0_9, h_0_9⟩ := trod_field (off := 8) (k := 1) (T := 3) Try.underlying29 ht0 8 rfl rfl rfl (by kernel_rfl)
  replace h_0_9 : DataW.trod _ _ _ _ _ _ _ 3 [u0_8] = some _ := h_0_9
  obtain ⟨x_0_9, rfl, w_0_9⟩ := field_int Try.underlying3 h_0_9
  obtain ⟨n_0_10, y_0_10, h_0_10⟩ := trod_field (off := 9) (k := 1) (T := 3) Try.underlying29 ht0 9 rfl rfl rfl (by kernel_rfl)
  replace h_0_10 : DataW.trod _ _ _ _ _ _ _ 3 [u0_9] = some _ := h_0_10
  obtain ⟨x_0_10, rfl, w_0_10⟩ := field_int Try.underlying3 h_0_10
  obtain ⟨n_0_11, y_0_11, h_0_11⟩ := trod_field (off := 10) (k := 1) (T := 3) Try.underlying29 ht0 10 rfl rfl rfl (by kernel_rfl)
  replace h_0_11 : DataW.trod _ _ _ _ _ _ _ 3 [u0_10] = some _ := h_0_11
  obtain ⟨x_0_11, rfl, w_0_11⟩ := field_int Try.underlying3 h_0_11
  obtain ⟨n_0_12, y_0_12, h_0_12⟩ := trod_field (off := 11) (k := 1) (T := 3) Try.underlying29 ht0 11 rfl rfl rfl (by kernel_rfl)
  replace h_0_12 : DataW.trod _ _ _ _ _ _ _ 3 [u0_11] = some _ := h_0_12
  obtain ⟨x_0_12, rfl, w_0_12⟩ := field_int Try.underlying3 h_0_12
  obtain ⟨n_0_13, y_0_13, h_0_13⟩ := trod_field (off := 12) (k := 1) (T := 3) Try.underlying29 ht0 12 rfl rfl rfl (by kernel_rfl)
  replace h_0_13 : DataW.trod _ _ _ _ _ _ _ 3 [u0_12] = some _ := h_0_13
  obtain ⟨x_0_13, rfl, w_0_13⟩ := field_int Try.underlying3 h_0_13
  obtain ⟨n_0_14, y_0_14, h_0_14⟩ := trod_field (off := 13) (k := 5) (T := 27) Try.underlying29 ht0 13 rfl rfl rfl (by kernel_rfl)
  replace h_0_14 : DataW.trod _ _ _ _ _ _ _ 27 [u0_13, u0_14, u0_15, u0_16, u0_17] = some _ := h_0_14
  obtain ⟨n_0_15, y_0_15, h_0_15⟩ := trod_field (off := 0) (k := 1) (T := 3) Try.underlying27 h_0_14 0 rfl rfl rfl (by kernel_rfl)
  replace h_0_15 : DataW.trod _ _ _ _ _ _ _ 3 [u0_13] = some _ := h_0_15
  obtain ⟨x_0_15, rfl, w_0_15⟩ := field_int Try.underlying3 h_0_15
  obtain ⟨n_0_16, y_0_16, h_0_16⟩ := trod_field (off := 1) (k := 1) (T := 3) Try.underlying27 h_0_14 1 rfl rfl rfl (by kernel_rfl)
  replace h_0_16 : DataW.trod _ _ _ _ _ _ _ 3 [u0_14] = some _ := h_0_16
  obtain ⟨x_0_16, rfl, w_0_16⟩ := field_int Try.underlying3 h_0_16
  obtain ⟨n_0_17, y_0_17, h_0_17⟩ := trod_field (off := 2) (k := 1) (T := 3) Try.underlying27 h_0_14 2 rfl rfl rfl (by kernel_rfl)
  replace h_0_17 : DataW.trod _ _ _ _ _ _ _ 3 [u0_15] = some _ := h_0_17
  obtain ⟨x_0_17, rfl, w_0_17⟩ := field_int Try.underlying3 h_0_17
  obtain ⟨n_0_18, y_0_18, h_0_18⟩ := trod_field (off := 3) (k := 1) (T := 3) Try.underlying27 h_0_14 3 rfl rfl rfl (by kernel_rfl)
  replace h_0_18 : DataW.trod _ _ _ _ _ _ _ 3 [u0_16] = some _ := h_0_18
  obtain ⟨x_0_18, rfl, w_0_18⟩ := field_int Try.underlying3 h_0_18
  obtain ⟨n_0_19, y_0_19, h_0_19⟩ := trod_field (off := 4) (k := 1) (T := 3) Try.underlying27 h_0_14 4 rfl rfl rfl (by kernel_rfl)
  replace h_0_19 : DataW.trod _ _ _ _ _ _ _ 3 [u0_17] = some _ := h_0_19
  obtain ⟨x_0_19, rfl, w_0_19⟩ := field_int Try.underlying3 h_0_19
  obtain ⟨n_0_20, y_0_20, h_0_20⟩ := trod_field (off := 18) (k := 1) (T := 3) Try.underlying29 ht0 14 rfl rfl rfl (by kernel_rfl)
  replace h_0_20 : DataW.trod _ _ _ _ _ _ _ 3 [u0_18] = some _ := h_0_20
  obtain ⟨x_0_20, rfl, w_0_20⟩ := field_int Try.underlying3 h_0_20
  obtain ⟨a1, rfl, -, -, w1⟩ := open_int Try.underlying3 (hval 1 3 v1 rfl rfl) k1
  clear hA0 hval0
  refine (checks32_law x_0_1 x_0_2 x_0_3 x_0_4 n_0_4n c_0_4 l_0_4 x_0_5 n_0_5n c_0_5 l_0_5 x_0_6 n_0_6n c_0_6 l_0_6 x_0_7 x_0_8 x_0_9 x_0_10 x_0_11 x_0_12 x_0_13 x_0_15 x_0_16 x_0_17 x_0_18 x_0_19 x_0_20 a1 W w_0_1 w_0_2 w_0_3 hl_0_4 hm_0_4 w_0_4 hl_0_5 hm_0_5 w_0_5 hl_0_6 hm_0_6 w_0_6 w_0_7 w_0_8 w_0_9 w_0_10 w_0_11 w_0_12 w_0_13 w_0_15 w_0_16 w_0_17 w_0_18 w_0_19 w_0_20 w1).mono fun e W' ⟨he, bel⟩ => ?_
  subst he
  exact ⟨_, rfl, _, _, _, [], _, [], hW', trodAll_mk1 (shut_bool Try.underlying4 _), (trodAll_cons_mk (Below.trod laidOut (by kernel_rfl) (of_decide_eq_true (by kernel_rfl)) k0 bel lt0) (trodAll_cons_mk (Below.trod laidOut (by kernel_rfl) (of_decide_eq_true (by kernel_rfl)) k1 bel lt1) trodAll_mk0)), rfl, bel.frame _, fun h => by cases h⟩

theorem proved : Rows.ConfigChecksSaid :=
  OpenClaim.holds_of_wide 3 Try.f3 rfl rfl rfl rfl rfl rfl rfl ⟨rfl, rfl, rfl, rfl, rfl⟩ rfl rfl rfl rfl rfl (by kernel_rfl) Try.func3 (by kernel_rfl)
    (of_decide_eq_true (by kernel_rfl)) (by unfold Func.isWrapper; first | (rw [if_pos (by decide +kernel)]; kernel_rfl) | (rw [if_neg (by decide +kernel)]; exact ⟨rfl, rfl⟩))
    (fun os started H enc _ => lifted os started H enc)
#print axioms proved
end Go.Proofs.Ytgdeecmhhbdjgaa.lawConfigChecks
