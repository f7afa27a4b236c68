/- config: the tables, the rule, the time to live; Check. -/
import Derived.Test.YtgdeecmhhbdjgaaCgO
import Derived.Test.YtgdeecmhhbdjgaaDampR
namespace Go.Proofs.Ytgdeecmhhbdjgaa
set_option linter.unusedVariables false
open Go Go.RowKit Go.Maps

set_option maxRecDepth 100000 in
set_option maxHeartbeats 8000000 in
theorem tabC_any (w : World) (c : CfgV) : Calls Try.prog 27 #[.agg (cfgC c)] w fun e w' => e = .returned (.bool (tabB c)) ∧ Below w.heap.size w w' := by
  have hB := (Below.refl w.heap.size w).alloc (Nat.le_refl _) (.cells (cfgC c) 29)
  have hq := Blk.new w 29 (cfgC c)
  go_enter Try.func27, Try.ntmps27
  go_upto_region 1 with (fail)
  generalize w.alloc (.cells (cfgC c) 29) = w1 at *
  have q6 : w1.cell? ⟨w.heap.size, 6, none⟩ = some (.int .i64 c.rise) := hq.cellv 6 rfl
  have q7 : w1.cell? ⟨w.heap.size, 7, none⟩ = some (.int .i64 c.fall) := hq.cellv 7 rfl
  have q8 : w1.cell? ⟨w.heap.size, 8, none⟩ = some (.int .i64 c.every) := hq.cellv 8 rfl
  have q9 : w1.cell? ⟨w.heap.size, 9, none⟩ = some (.int .i64 c.pat) := hq.cellv 9 rfl
  have q10 : w1.cell? ⟨w.heap.size, 10, none⟩ = some (.int .i64 c.room) := hq.cellv 10 rfl
  have q11 : w1.cell? ⟨w.heap.size, 11, none⟩ = some (.int .i64 c.idle) := hq.cellv 11 rfl
  have ql := hq.lt
  go_wp2_with fail
  refine (riseN_any c.rise c.fall w1).mono ?_
  rintro e w2 ⟨p, rfl, hp, hb⟩
  clear q6 q7 q8 q9 q10 q11 ql
  replace hq := hq.below hb hq.lt
  replace hB := hB.trans (hb.mono hB.size)
  clear hb
  have q6 : w2.cell? ⟨w.heap.size, 6, none⟩ = some (.int .i64 c.rise) := hq.cellv 6 rfl
  have q7 : w2.cell? ⟨w.heap.size, 7, none⟩ = some (.int .i64 c.fall) := hq.cellv 7 rfl
  have q8 : w2.cell? ⟨w.heap.size, 8, none⟩ = some (.int .i64 c.every) := hq.cellv 8 rfl
  have q9 : w2.cell? ⟨w.heap.size, 9, none⟩ = some (.int .i64 c.pat) := hq.cellv 9 rfl
  have q10 : w2.cell? ⟨w.heap.size, 10, none⟩ = some (.int .i64 c.room) := hq.cellv 10 rfl
  have q11 : w2.cell? ⟨w.heap.size, 11, none⟩ = some (.int .i64 c.idle) := hq.cellv 11 rfl
  have ql := hq.lt
  cases p with
  | none =>
    have ev := Lib.hid (show tabB c = false by unfold tabB; rw [← hp]; rfl)
    clear hp
    go_wp2_with fail
    go_ret
    exact ⟨ret_bool ev.out.symm, hB⟩
  | some a1 =>
  replace hp := Lib.hid hp
  go_wp2_with fail
  refine (probeN_any c.every c.pat w2).mono ?_
  rintro e w3 ⟨p, rfl, hp2, hb⟩
  clear q6 q7 q8 q9 q10 q11 ql
  replace hq := hq.below hb hq.lt
  replace hB := hB.trans (hb.mono hB.size)
  clear hb
  have q6 : w3.cell? ⟨w.heap.size, 6, none⟩ = some (.int .i64 c.rise) := hq.cellv 6 rfl
  have q7 : w3.cell? ⟨w.heap.size, 7, none⟩ = some (.int .i64 c.fall) := hq.cellv 7 rfl
  have q8 : w3.cell? ⟨w.heap.size, 8, none⟩ = some (.int .i64 c.every) := hq.cellv 8 rfl
  have q9 : w3.cell? ⟨w.heap.size, 9, none⟩ = some (.int .i64 c.pat) := hq.cellv 9 rfl
  have q10 : w3.cell? ⟨w.heap.size, 10, none⟩ = some (.int .i64 c.room) := hq.cellv 10 rfl
  have q11 : w3.cell? ⟨w.heap.size, 11, none⟩ = some (.int .i64 c.idle) := hq.cellv 11 rfl
  have ql := hq.lt
  cases p with
  | none =>
    have ev := Lib.hid (show tabB c = false by unfold tabB; rw [← hp.out, ← hp2]; rfl)
    clear hp2
    go_wp2_with fail
    go_ret
    exact ⟨ret_bool ev.out.symm, hB⟩
  | some a2 =>
  replace hp2 := Lib.hid hp2
  go_wp2_with fail
  refine (flowsN_any c.room c.idle w3).mono ?_
  rintro e w4 ⟨p, rfl, hp3, hb⟩
  clear q6 q7 q8 q9 q10 q11 ql
  replace hq := hq.below hb hq.lt
  replace hB := hB.trans (hb.mono hB.size)
  clear hb
  have q6 : w4.cell? ⟨w.heap.size, 6, none⟩ = some (.int .i64 c.rise) := hq.cellv 6 rfl
  have q7 : w4.cell? ⟨w.heap.size, 7, none⟩ = some (.int .i64 c.fall) := hq.cellv 7 rfl
  have q8 : w4.cell? ⟨w.heap.size, 8, none⟩ = some (.int .i64 c.every) := hq.cellv 8 rfl
  have q9 : w4.cell? ⟨w.heap.size, 9, none⟩ = some (.int .i64 c.pat) := hq.cellv 9 rfl
  have q10 : w4.cell? ⟨w.heap.size, 10, none⟩ = some (.int .i64 c.room) := hq.cellv 10 rfl
  have q11 : w4.cell? ⟨w.heap.size, 11, none⟩ = some (.int .i64 c.idle) := hq.cellv 11 rfl
  have ql := hq.lt
  have ev := Lib.hid (show tabB c = p.isSome by unfold tabB; rw [← hp.out, ← hp2.out, ← hp3]; simp)
  clear hp3
  cases p with
  | none =>
    go_wp2_with fail
    go_ret
    exact ⟨ret_bool ev.out.symm, hB⟩
  | some a3 =>
    go_wp2_with fail
    go_ret
    exact ⟨ret_bool ev.out.symm, hB⟩
theorem dGood_any (F S R C H : Int) (w : World) : Calls Try.prog 19 #[.agg #[.int .i64 F, .int .i64 S, .int .i64 R, .int .i64 C, .int .i64 H]] w fun e w' => e = .returned (.bool (dm.goodR F S R C H)) ∧ Below w.heap.size w w' := by
  cases h : dm.goodR F S R C H
  · exact dm.good_no F S R C H w h
  · exact dm.good_yes F S R C H w h
set_option maxRecDepth 100000 in
set_option maxHeartbeats 8000000 in
theorem rule_any (w : World) (c : CfgV) (cb : Nat) (hq : Blk w cb 29 (cfgC c)) : Calls Try.prog 18 #[.pointer (some ⟨cb, 0, none⟩)] w fun e w' => e = .returned (.bool (dampB c)) ∧ Below w.heap.size w w' := by
  go_enter Try.func18, Try.ntmps18
  go_upto_region 1 with (fail)
  have q13 : w.cell? ⟨cb, 13, none⟩ = some (.int .i64 c.dF) := hq.cellv 13 rfl
  have q14 : w.cell? ⟨cb, 14, none⟩ = some (.int .i64 c.dS) := hq.cellv 14 rfl
  have q15 : w.cell? ⟨cb, 15, none⟩ = some (.int .i64 c.dR) := hq.cellv 15 rfl
  have q16 : w.cell? ⟨cb, 16, none⟩ = some (.int .i64 c.dC) := hq.cellv 16 rfl
  have q17 : w.cell? ⟨cb, 17, none⟩ = some (.int .i64 c.dH) := hq.cellv 17 rfl
  have ql := hq.lt
  go_wp2_with fail
  refine (dGood_any c.dF c.dS c.dR c.dC c.dH w).mono ?_
  rintro e w2 ⟨rfl, hb⟩
  go_wp2_with fail
  go_ret
  exact ⟨rfl, hb⟩
set_option maxRecDepth 100000 in
set_option maxHeartbeats 8000000 in
theorem ttlC_any (w : World) (c : CfgV) (cb : Nat) (hq : Blk w cb 29 (cfgC c)) : Calls Try.prog 20 #[.pointer (some ⟨cb, 0, none⟩)] w fun e w' => e = .returned (.bool (ttlB c)) ∧ Below w.heap.size w w' := by
  go_enter Try.func20, Try.ntmps20
  go_upto_region 1 with (fail)
  have q12 : w.cell? ⟨cb, 12, none⟩ = some (.int .i64 c.queue) := hq.cellv 12 rfl
  have q18 : w.cell? ⟨cb, 18, none⟩ = some (.int .i64 c.ttl) := hq.cellv 18 rfl
  have ql := hq.lt
  go_wp2_with fail
  all_goals go_ret
  all_goals refine ⟨ret_bool ?_, Below.refl _ _⟩
  all_goals (unfold ttlB rngB; rw [Bool.eq_iff_iff]; simp <;> omega)
set_option maxRecDepth 100000 in
set_option maxHeartbeats 8000000 in
theorem first_any (w : World) (c : CfgV) (cb fb : Nat) (hC : CfgIn w c) (hs : CfgSm c) (hq : Blk w cb 29 (cfgC c)) (hF : Blk w fb 31 #[.func (.func 22) #[.agg (cfgC c)] #[], .func (.func 23) #[.agg (cfgC c)] #[], .func (.func 24) #[.agg (cfgC c)] #[], .func (.func 25) #[.agg (cfgC c)] #[], .func (.func 26) #[.agg (cfgC c)] #[], .func (.func 27) #[.agg (cfgC c)] #[], .func (.func 18) #[] #[.pointer (some ⟨cb, 0, none⟩)], .func (.func 20) #[] #[.pointer (some ⟨cb, 0, none⟩)]]) : Calls Try.prog 21 #[.slice (some ⟨fb, 0, none⟩) 8 8] w fun e w' => e = .returned (.int .i64 (partC c : Nat)) ∧ Below w.heap.size w w' := by
  have hB := Below.refl w.heap.size w
  go_enter Try.func21, Try.ntmps21
  go_wp2_with fail
  refine wp_loop_rounds 9 ?_
  change Code.rounds _ _ _ _ _ w
  rw [rounds_succ]
  have f0 : w.cell? ⟨fb, 0, none⟩ = some (.func (.func 22) #[.agg (cfgC c)] #[]) := hF.cellv 0 rfl
  have fl := hF.lt
  go_wp2_with fail
  refine (self_any w c).mono ?_
  rintro e u0 ⟨rfl, hb⟩
  clear f0 fl
  replace hC := hC.nx hb
  replace hq := hq.below hb hq.lt
  replace hF := hF.below hb hF.lt
  replace hB := hB.trans (hb.mono hB.size)
  clear hb
  cases e0 : selfB c
  · have ev := Lib.hid (show partC c = 1 by unfold partC; simp only [e0, if_true])
    clear e0
    go_wp2_with fail
    go_ret
    rw [ev.out]
    exact ⟨rfl, hB⟩
  replace e0 := Lib.hid e0
  go_wp2_with fail
  rw [rounds_succ]
  have f0 : u0.cell? ⟨fb, 1, none⟩ = some (.func (.func 23) #[.agg (cfgC c)] #[]) := hF.cellv 1 rfl
  have fl := hF.lt
  go_wp2_with fail
  refine (peersC_any u0 c hC).mono ?_
  rintro e u1 ⟨rfl, hb⟩
  clear f0 fl
  replace hC := hC.nx hb
  replace hq := hq.below hb hq.lt
  replace hF := hF.below hb hF.lt
  replace hB := hB.trans (hb.mono hB.size)
  clear hb
  cases e1 : peersB c
  · have ev := Lib.hid (show partC c = 2 by unfold partC; simp only [e0.out, e1, if_true, Bool.true_eq_false, if_false])
    clear e1
    go_wp2_with fail
    go_ret
    rw [ev.out]
    exact ⟨rfl, hB⟩
  replace e1 := Lib.hid e1
  go_wp2_with fail
  rw [rounds_succ]
  have f0 : u1.cell? ⟨fb, 2, none⟩ = some (.func (.func 24) #[.agg (cfgC c)] #[]) := hF.cellv 2 rfl
  have fl := hF.lt
  go_wp2_with fail
  refine (vipsC_any u1 c hC).mono ?_
  rintro e u2 ⟨rfl, hb⟩
  clear f0 fl
  replace hC := hC.nx hb
  replace hq := hq.below hb hq.lt
  replace hF := hF.below hb hF.lt
  replace hB := hB.trans (hb.mono hB.size)
  clear hb
  cases e2 : vipsB c
  · have ev := Lib.hid (show partC c = 3 by unfold partC; simp only [e0.out, e1.out, e2, if_true, Bool.true_eq_false, if_false])
    clear e2
    go_wp2_with fail
    go_ret
    rw [ev.out]
    exact ⟨rfl, hB⟩
  replace e2 := Lib.hid e2
  go_wp2_with fail
  rw [rounds_succ]
  have f0 : u2.cell? ⟨fb, 3, none⟩ = some (.func (.func 25) #[.agg (cfgC c)] #[]) := hF.cellv 3 rfl
  have fl := hF.lt
  go_wp2_with fail
  refine (poolsC_any u2 c hC hs).mono ?_
  rintro e u3 ⟨rfl, hb⟩
  clear f0 fl
  replace hC := hC.nx hb
  replace hq := hq.below hb hq.lt
  replace hF := hF.below hb hF.lt
  replace hB := hB.trans (hb.mono hB.size)
  clear hb
  cases e3 : poolsB c
  · have ev := Lib.hid (show partC c = 4 by unfold partC; simp only [e0.out, e1.out, e2.out, e3, if_true, Bool.true_eq_false, if_false])
    clear e3
    go_wp2_with fail
    go_ret
    rw [ev.out]
    exact ⟨rfl, hB⟩
  replace e3 := Lib.hid e3
  go_wp2_with fail
  rw [rounds_succ]
  have f0 : u3.cell? ⟨fb, 4, none⟩ = some (.func (.func 26) #[.agg (cfgC c)] #[]) := hF.cellv 4 rfl
  have fl := hF.lt
  go_wp2_with fail
  refine (sitesC_any u3 c hC hs).mono ?_
  rintro e u4 ⟨rfl, hb⟩
  clear f0 fl
  replace hC := hC.nx hb
  replace hq := hq.below hb hq.lt
  replace hF := hF.below hb hF.lt
  replace hB := hB.trans (hb.mono hB.size)
  clear hb
  cases e4 : sitesB c
  · have ev := Lib.hid (show partC c = 5 by unfold partC; simp only [e0.out, e1.out, e2.out, e3.out, e4, if_true, Bool.true_eq_false, if_false])
    clear e4
    go_wp2_with fail
    go_ret
    rw [ev.out]
    exact ⟨rfl, hB⟩
  replace e4 := Lib.hid e4
  go_wp2_with fail
  rw [rounds_succ]
  have f0 : u4.cell? ⟨fb, 5, none⟩ = some (.func (.func 27) #[.agg (cfgC c)] #[]) := hF.cellv 5 rfl
  have fl := hF.lt
  go_wp2_with fail
  refine (tabC_any u4 c).mono ?_
  rintro e u5 ⟨rfl, hb⟩
  clear f0 fl
  replace hC := hC.nx hb
  replace hq := hq.below hb hq.lt
  replace hF := hF.below hb hF.lt
  replace hB := hB.trans (hb.mono hB.size)
  clear hb
  cases e5 : tabB c
  · have ev := Lib.hid (show partC c = 6 by unfold partC; simp only [e0.out, e1.out, e2.out, e3.out, e4.out, e5, if_true, Bool.true_eq_false, if_false])
    clear e5
    go_wp2_with fail
    go_ret
    rw [ev.out]
    exact ⟨rfl, hB⟩
  replace e5 := Lib.hid e5
  go_wp2_with fail
  rw [rounds_succ]
  have f0 : u5.cell? ⟨fb, 6, none⟩ = some (.func (.func 18) #[] #[.pointer (some ⟨cb, 0, none⟩)]) := hF.cellv 6 rfl
  have fl := hF.lt
  go_wp2_with fail
  refine (rule_any u5 c cb hq).mono ?_
  rintro e u6 ⟨rfl, hb⟩
  clear f0 fl
  replace hC := hC.nx hb
  replace hq := hq.below hb hq.lt
  replace hF := hF.below hb hF.lt
  replace hB := hB.trans (hb.mono hB.size)
  clear hb
  cases e6 : dampB c
  · have ev := Lib.hid (show partC c = 7 by unfold partC; simp only [e0.out, e1.out, e2.out, e3.out, e4.out, e5.out, e6, if_true, Bool.true_eq_false, if_false])
    clear e6
    go_wp2_with fail
    go_ret
    rw [ev.out]
    exact ⟨rfl, hB⟩
  replace e6 := Lib.hid e6
  go_wp2_with fail
  rw [rounds_succ]
  have f0 : u6.cell? ⟨fb, 7, none⟩ = some (.func (.func 20) #[] #[.pointer (some ⟨cb, 0, none⟩)]) := hF.cellv 7 rfl
  have fl := hF.lt
  go_wp2_with fail
  refine (ttlC_any u6 c cb hq).mono ?_
  rintro e u7 ⟨rfl, hb⟩
  clear f0 fl
  replace hC := hC.nx hb
  replace hq := hq.below hb hq.lt
  replace hF := hF.below hb hF.lt
  replace hB := hB.trans (hb.mono hB.size)
  clear hb
  cases e7 : ttlB c
  · have ev := Lib.hid (show partC c = 8 by unfold partC; simp only [e0.out, e1.out, e2.out, e3.out, e4.out, e5.out, e6.out, e7, if_true, Bool.true_eq_false, if_false])
    clear e7
    go_wp2_with fail
    go_ret
    rw [ev.out]
    exact ⟨rfl, hB⟩
  replace e7 := Lib.hid e7
  go_wp2_with fail
  rw [rounds_succ]
  have ev := Lib.hid (show partC c = 0 by unfold partC; simp only [e0.out, e1.out, e2.out, e3.out, e4.out, e5.out, e6.out, e7.out, Bool.true_eq_false, if_false])
  go_wp2_with fail
  go_ret
  rw [ev.out]
  exact ⟨rfl, hB⟩
/-- Check's answers. -/
def errC (c : CfgV) : Int := if partC c = 0 then 0 else 12
set_option maxRecDepth 100000 in
set_option maxHeartbeats 8000000 in
theorem checkC_any (w : World) (c : CfgV) (h : CfgIn w c) (hs : CfgSm c) : Calls Try.prog 7 #[.agg (cfgC c)] w fun e w' => e = .returned (.tuple #[.int .i64 (partC c : Nat), .int .i64 (errC c)]) ∧ Below w.heap.size w w' := by
  have hB := (Below.refl w.heap.size w).alloc (Nat.le_refl _) (.cells (cfgC c) 29)
  have hq := Blk.new w 29 (cfgC c)
  have hC := h.nx hB
  have hiC : (Try.prog.info? 29).map (·.size) = some (cfgC c).size := by kernel_rfl
  go_enter Try.func7, Try.ntmps7
  go_upto_region 3 with (fail)
  generalize w.alloc (.cells (cfgC c) 29) = w1 at *
  have ql := hq.lt
  go_wp2_with (refine wpList_load_blk rfl hq 29 (.tmp 1) rfl rfl Try.underlying29 rfl hiC ?_)
  have hbx := (Below.refl w1.heap.size w1).alloc (Nat.le_refl _) (.cells #[.func (.func 22) #[.agg (cfgC c)] #[], .func (.func 23) #[.agg (cfgC c)] #[], .func (.func 24) #[.agg (cfgC c)] #[], .func (.func 25) #[.agg (cfgC c)] #[], .func (.func 26) #[.agg (cfgC c)] #[], .func (.func 27) #[.agg (cfgC c)] #[], .func (.func 18) #[] #[.pointer (some ⟨w.heap.size, 0, none⟩)], .func (.func 20) #[] #[.pointer (some ⟨w.heap.size, 0, none⟩)]] 31)
  have hF := Blk.new w1 31 #[.func (.func 22) #[.agg (cfgC c)] #[], .func (.func 23) #[.agg (cfgC c)] #[], .func (.func 24) #[.agg (cfgC c)] #[], .func (.func 25) #[.agg (cfgC c)] #[], .func (.func 26) #[.agg (cfgC c)] #[], .func (.func 27) #[.agg (cfgC c)] #[], .func (.func 18) #[] #[.pointer (some ⟨w.heap.size, 0, none⟩)], .func (.func 20) #[] #[.pointer (some ⟨w.heap.size, 0, none⟩)]]
  have hf := first_any _ c w.heap.size w1.heap.size (hC.nx hbx) hs (hq.below hbx ql) hF
  refine hf.mono ?_
  rintro e w2 ⟨rfl, hb⟩
  have hB2 := hB.trans ((hbx.trans (hb.mono hbx.size)).mono hB.size)
  clear hf hF hbx hb ql
  obtain ⟨pt, hpt⟩ : ∃ pt, partC c = pt := ⟨_, rfl⟩
  rw [hpt]
  have e9 : errC c = if pt = 0 then 0 else 12 := by unfold errC; rw [hpt]
  replace hpt := Lib.hid hpt
  by_cases h0 : pt = 0
  · rw [if_pos h0] at e9
    replace e9 := Lib.hid e9
    subst h0
    go_wp2_with fail
    go_ret2
    exact ⟨by rw [e9.out, hpt.out]; rfl, hB2⟩
  · have d0 : decide ((0 : Int) < (pt : Nat)) = true := by simp; omega
    have d1 : decide (0 < pt) = true := by simp; omega
    rw [if_neg h0] at e9
    replace e9 := Lib.hid e9
    replace h0 := Lib.hid h0
    go_wp2_with fail
    go_ret2
    exact ⟨by rw [e9.out, hpt.out]; rfl, hB2⟩
end Go.Proofs.Ytgdeecmhhbdjgaa
