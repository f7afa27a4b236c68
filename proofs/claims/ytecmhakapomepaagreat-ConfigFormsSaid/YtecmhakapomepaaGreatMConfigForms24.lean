import Derived.Test.YtecmhakapomepaaGreatMConfigForms23
/- config: the document's Same. -/
namespace Go.Proofs.YtecmhakapomepaaGreat
set_option linter.unusedVariables false
open Go Go.RowKit

set_option maxRecDepth 100000 in
set_option maxHeartbeats 16000000 in
theorem refSameC_any (w : World) (a b : CfgV) (ha : CfgIn w a) (hb : CfgIn w b) (hs : CfgSm a) : Calls Tryz.prog 11 #[.agg (cfgC a), .agg (cfgC b)] w fun e w' => e = .returned (.bool (decide (a.w = b.w))) ∧ Below w.heap.size w w' := by
  have hB := ((Below.refl w.heap.size w).alloc (Nat.le_refl _) (.cells (cfgC a) 41)).alloc (by simp) (.cells (cfgC b) 41)
  have h2 := (Blk.new w 41 (cfgC a)).alloc (.cells (cfgC b) 41)
  have h3 := Blk.new (w.alloc (.cells (cfgC a) 41)) 41 (cfgC b)
  rw [World.size_alloc] at h3
  have hA := ha.nx hB
  have hBb := hb.nx hB
  have hpn := hs.p
  have hsn := hs.s
  have hvn := hs.v
  have hbn := hs.b
  go_enter Tryz.func11, Tryz.ntmps11
  go_upto_region 1 with (fail)
  generalize (w.alloc (.cells (cfgC a) 41)).alloc (.cells (cfgC b) 41) = w1 at *
  generalize hg3 : w.heap.size + 1 = g3 at *
  replace hg3 := Lib.hid hg3
  have ekA : ∀ i v, (cfgC a)[i]? = some v → w1.cell? ⟨w.heap.size, i, none⟩ = some v := fun i v hi => h2.cellv i hi
  have ekB : ∀ i v, (cfgC b)[i]? = some v → w1.cell? ⟨g3, i, none⟩ = some v := fun i v hi => h3.cellv i hi
  replace ekA := Lib.hid ekA
  replace ekB := Lib.hid ekB
  have l2 := h2.lt
  have l3 := h3.lt
  have hz1 := hB.size
  have ed : ∀ w : World, (binOp .neq 39 (.agg #[.int .i64 a.dF, .int .i64 a.dS, .int .i64 a.dR, .int .i64 a.dC, .int .i64 a.dH]) (.agg #[.int .i64 b.dF, .int .i64 b.dS, .int .i64 b.dR, .int .i64 b.dC, .int .i64 b.dH])).run Tryz.prog w = .ok (.bool (!decide (dampL a = dampL b))) w := fun w => by
    rw [neqDR]
    congr 3
    rw [Bool.eq_iff_iff]
    simp [dampL, and_assoc]
  obtain ⟨x0, hx0⟩ : ∃ x, (a.as_ != b.as_) = x := ⟨_, rfl⟩
  replace hx0 := Lib.hid hx0
  obtain ⟨x1, hx1⟩ : ∃ x, (a.id != b.id) = x := ⟨_, rfl⟩
  replace hx1 := Lib.hid hx1
  obtain ⟨x2, hx2⟩ : ∃ x, (a.own != b.own) = x := ⟨_, rfl⟩
  replace hx2 := Lib.hid hx2
  obtain ⟨x3, hx3⟩ : ∃ x, ((a.pn : Int) != (b.pn : Int)) = x := ⟨_, rfl⟩
  replace hx3 := Lib.hid hx3
  obtain ⟨x4, hx4⟩ : ∃ x, ((a.vn : Int) != (b.vn : Int)) = x := ⟨_, rfl⟩
  replace hx4 := Lib.hid hx4
  obtain ⟨x5, hx5⟩ : ∃ x, decide (a.S = b.S) = x := ⟨_, rfl⟩
  replace hx5 := Lib.hid hx5
  obtain ⟨x6, hx6⟩ : ∃ x, (a.rise != b.rise) = x := ⟨_, rfl⟩
  replace hx6 := Lib.hid hx6
  obtain ⟨x7, hx7⟩ : ∃ x, (a.fall != b.fall) = x := ⟨_, rfl⟩
  replace hx7 := Lib.hid hx7
  obtain ⟨x8, hx8⟩ : ∃ x, (a.every != b.every) = x := ⟨_, rfl⟩
  replace hx8 := Lib.hid hx8
  obtain ⟨x9, hx9⟩ : ∃ x, (a.pat != b.pat) = x := ⟨_, rfl⟩
  replace hx9 := Lib.hid hx9
  obtain ⟨x10, hx10⟩ : ∃ x, (a.room != b.room) = x := ⟨_, rfl⟩
  replace hx10 := Lib.hid hx10
  obtain ⟨x11, hx11⟩ : ∃ x, (a.idle != b.idle) = x := ⟨_, rfl⟩
  replace hx11 := Lib.hid hx11
  obtain ⟨x12, hx12⟩ : ∃ x, (a.queue != b.queue) = x := ⟨_, rfl⟩
  replace hx12 := Lib.hid hx12
  obtain ⟨x13, hx13⟩ : ∃ x, decide (dampL a = dampL b) = x := ⟨_, rfl⟩
  simp only [hx13] at ed
  replace hx13 := Lib.hid hx13
  obtain ⟨x14, hx14⟩ : ∃ x, (a.ttl != b.ttl) = x := ⟨_, rfl⟩
  replace hx14 := Lib.hid hx14
  replace ed := Lib.hid ed
  by_cases c0 : x0 = true
  · subst c0
    have ev := Lib.hid (show decide (a.w = b.w) = false from decide_eq_false (by intro e; have e9 := hx0.out; have e2 : a.as_ = b.as_ := congrArg CfgW.as_ e; rw [e2] at e9; simp at e9))
    have fa0 := ekA.out 0 (.int .i64 a.as_) rfl
    have fb0 := ekB.out 0 (.int .i64 b.as_) rfl
    have fx0 := hx0.out
    go_wp2_with fail
    go_ret
    exact ⟨ret_bool ev.out.symm, hB⟩
  have c0' : x0 = false := by simpa using c0
  clear c0
  subst c0'
  by_cases c1 : x1 = true
  · subst c1
    have ev := Lib.hid (show decide (a.w = b.w) = false from decide_eq_false (by intro e; have e9 := hx1.out; have e2 : a.id = b.id := congrArg CfgW.id e; rw [e2] at e9; simp at e9))
    have fa0 := ekA.out 0 (.int .i64 a.as_) rfl
    have fb0 := ekB.out 0 (.int .i64 b.as_) rfl
    have fx0 := hx0.out
    have fa1 := ekA.out 1 (.int .u32 a.id) rfl
    have fb1 := ekB.out 1 (.int .u32 b.id) rfl
    have fx1 := hx1.out
    go_wp2_with fail
    go_ret
    exact ⟨ret_bool ev.out.symm, hB⟩
  have c1' : x1 = false := by simpa using c1
  clear c1
  subst c1'
  by_cases c2 : x2 = true
  · subst c2
    have ev := Lib.hid (show decide (a.w = b.w) = false from decide_eq_false (by intro e; have e9 := hx2.out; have e2 : a.own = b.own := congrArg CfgW.own e; rw [e2] at e9; simp at e9))
    have fa0 := ekA.out 0 (.int .i64 a.as_) rfl
    have fb0 := ekB.out 0 (.int .i64 b.as_) rfl
    have fx0 := hx0.out
    have fa1 := ekA.out 1 (.int .u32 a.id) rfl
    have fb1 := ekB.out 1 (.int .u32 b.id) rfl
    have fx1 := hx1.out
    have fa2 := ekA.out 2 (.int .u32 a.own) rfl
    have fb2 := ekB.out 2 (.int .u32 b.own) rfl
    have fx2 := hx2.out
    go_wp2_with fail
    go_ret
    exact ⟨ret_bool ev.out.symm, hB⟩
  have c2' : x2 = false := by simpa using c2
  clear c2
  subst c2'
  by_cases c3 : x3 = true
  · subst c3
    have ev := Lib.hid (show decide (a.w = b.w) = false from decide_eq_false (by intro e; have e9 := hx3.out; have e2 : a.P = b.P := congrArg CfgW.P e; have h1 := hA.peers.1; have h2 := hBb.peers.1; rw [e2] at h1; have e3 : a.pn = b.pn := h1.symm.trans h2; rw [e3] at e9; simp at e9))
    have fa0 := ekA.out 0 (.int .i64 a.as_) rfl
    have fb0 := ekB.out 0 (.int .i64 b.as_) rfl
    have fx0 := hx0.out
    have fa1 := ekA.out 1 (.int .u32 a.id) rfl
    have fb1 := ekB.out 1 (.int .u32 b.id) rfl
    have fx1 := hx1.out
    have fa2 := ekA.out 2 (.int .u32 a.own) rfl
    have fb2 := ekB.out 2 (.int .u32 b.own) rfl
    have fx2 := hx2.out
    have fa3 := ekA.out 3 (.slice a.pA a.pn a.pc) rfl
    have fb3 := ekB.out 3 (.slice b.pA b.pn b.pc) rfl
    have fx3 := hx3.out
    go_wp2_with fail
    go_ret
    exact ⟨ret_bool ev.out.symm, hB⟩
  have c3' : x3 = false := by simpa using c3
  clear c3
  subst c3'
  by_cases c4 : x4 = true
  · subst c4
    have ev := Lib.hid (show decide (a.w = b.w) = false from decide_eq_false (by intro e; have e9 := hx4.out; have e2 : a.V.map VipV.w = b.V.map VipV.w := congrArg CfgW.V e; have h1 := hA.vips.1; have h2 := hBb.vips.1; have e4 := congrArg List.length e2; rw [List.length_map, List.length_map] at e4; have e3 : a.vn = b.vn := (by omega); rw [e3] at e9; simp at e9))
    have fa0 := ekA.out 0 (.int .i64 a.as_) rfl
    have fb0 := ekB.out 0 (.int .i64 b.as_) rfl
    have fx0 := hx0.out
    have fa1 := ekA.out 1 (.int .u32 a.id) rfl
    have fb1 := ekB.out 1 (.int .u32 b.id) rfl
    have fx1 := hx1.out
    have fa2 := ekA.out 2 (.int .u32 a.own) rfl
    have fb2 := ekB.out 2 (.int .u32 b.own) rfl
    have fx2 := hx2.out
    have fa3 := ekA.out 3 (.slice a.pA a.pn a.pc) rfl
    have fb3 := ekB.out 3 (.slice b.pA b.pn b.pc) rfl
    have fx3 := hx3.out
    have fa4 := ekA.out 4 (.slice a.vA a.vn a.vc) rfl
    have fb4 := ekB.out 4 (.slice b.vA b.vn b.vc) rfl
    have fx4 := hx4.out
    go_wp2_with fail
    go_ret
    exact ⟨ret_bool ev.out.symm, hB⟩
  have c4' : x4 = false := by simpa using c4
  clear c4
  subst c4'
  have fa0 := ekA.out 0 (.int .i64 a.as_) rfl
  have fb0 := ekB.out 0 (.int .i64 b.as_) rfl
  have fx0 := hx0.out
  have fa1 := ekA.out 1 (.int .u32 a.id) rfl
  have fb1 := ekB.out 1 (.int .u32 b.id) rfl
  have fx1 := hx1.out
  have fa2 := ekA.out 2 (.int .u32 a.own) rfl
  have fb2 := ekB.out 2 (.int .u32 b.own) rfl
  have fx2 := hx2.out
  have fa3 := ekA.out 3 (.slice a.pA a.pn a.pc) rfl
  have fb3 := ekB.out 3 (.slice b.pA b.pn b.pc) rfl
  have fx3 := hx3.out
  have fa4 := ekA.out 4 (.slice a.vA a.vn a.vc) rfl
  have fb4 := ekB.out 4 (.slice b.vA b.vn b.vc) rfl
  have fx4 := hx4.out
  have fa5 := ekA.out 5 (.slice a.sA a.sn a.sc) rfl
  have fb5 := ekB.out 5 (.slice b.sA b.sn b.sc) rfl
  go_wp2_with fail
  refine (eqSR_any w1 _ _ a.sA a.sn a.sc a.S b.sA b.sn b.sc b.S hA.sites hBb.sites (fun _ q => q) (fun _ q => q) (by omega)).mono ?_
  rintro e wz ⟨rfl, hz⟩
  rw [hx5.out]
  clear fa0 fb0 fx0 fa1 fb1 fx1 fa2 fb2 fx2 fa3 fb3 fx3 fa4 fb4 fx4 fa5 fb5 ekA ekB l2 l3
  replace hA := hA.nx hz
  replace hBb := hBb.nx hz
  replace h2 := h2.below hz h2.lt
  replace h3 := h3.below hz h3.lt
  replace hB := hB.trans (hz.mono hz1)
  have hz1 := hB.size
  clear hz
  have ekA : ∀ i v, (cfgC a)[i]? = some v → wz.cell? ⟨w.heap.size, i, none⟩ = some v := fun i v hi => h2.cellv i hi
  have ekB : ∀ i v, (cfgC b)[i]? = some v → wz.cell? ⟨g3, i, none⟩ = some v := fun i v hi => h3.cellv i hi
  replace ekA := Lib.hid ekA
  replace ekB := Lib.hid ekB
  have l2 := h2.lt
  have l3 := h3.lt
  by_cases c5 : x5 = false
  · subst c5
    have ev := Lib.hid (show decide (a.w = b.w) = false from decide_eq_false (by intro e; have e9 := hx5.out; have e2 : a.S = b.S := congrArg CfgW.S e; exact (of_decide_eq_false e9) e2))
    go_wp2_with fail
    go_ret
    exact ⟨ret_bool ev.out.symm, hB⟩
  have c5' : x5 = true := by simpa using c5
  clear c5
  subst c5'
  by_cases c6 : x6 = true
  · subst c6
    have ev := Lib.hid (show decide (a.w = b.w) = false from decide_eq_false (by intro e; have e9 := hx6.out; have e2 : a.rise = b.rise := congrArg CfgW.rise e; rw [e2] at e9; simp at e9))
    have fa6 := ekA.out 6 (.int .i64 a.rise) rfl
    have fb6 := ekB.out 6 (.int .i64 b.rise) rfl
    have fx6 := hx6.out
    go_wp2_with fail
    go_ret
    exact ⟨ret_bool ev.out.symm, hB⟩
  have c6' : x6 = false := by simpa using c6
  clear c6
  subst c6'
  by_cases c7 : x7 = true
  · subst c7
    have ev := Lib.hid (show decide (a.w = b.w) = false from decide_eq_false (by intro e; have e9 := hx7.out; have e2 : a.fall = b.fall := congrArg CfgW.fall e; rw [e2] at e9; simp at e9))
    have fa6 := ekA.out 6 (.int .i64 a.rise) rfl
    have fb6 := ekB.out 6 (.int .i64 b.rise) rfl
    have fx6 := hx6.out
    have fa7 := ekA.out 7 (.int .i64 a.fall) rfl
    have fb7 := ekB.out 7 (.int .i64 b.fall) rfl
    have fx7 := hx7.out
    go_wp2_with fail
    go_ret
    exact ⟨ret_bool ev.out.symm, hB⟩
  have c7' : x7 = false := by simpa using c7
  clear c7
  subst c7'
  by_cases c8 : x8 = true
  · subst c8
    have ev := Lib.hid (show decide (a.w = b.w) = false from decide_eq_false (by intro e; have e9 := hx8.out; have e2 : a.every = b.every := congrArg CfgW.every e; rw [e2] at e9; simp at e9))
    have fa6 := ekA.out 6 (.int .i64 a.rise) rfl
    have fb6 := ekB.out 6 (.int .i64 b.rise) rfl
    have fx6 := hx6.out
    have fa7 := ekA.out 7 (.int .i64 a.fall) rfl
    have fb7 := ekB.out 7 (.int .i64 b.fall) rfl
    have fx7 := hx7.out
    have fa8 := ekA.out 8 (.int .i64 a.every) rfl
    have fb8 := ekB.out 8 (.int .i64 b.every) rfl
    have fx8 := hx8.out
    go_wp2_with fail
    go_ret
    exact ⟨ret_bool ev.out.symm, hB⟩
  have c8' : x8 = false := by simpa using c8
  clear c8
  subst c8'
  by_cases c9 : x9 = true
  · subst c9
    have ev := Lib.hid (show decide (a.w = b.w) = false from decide_eq_false (by intro e; have e9 := hx9.out; have e2 : a.pat = b.pat := congrArg CfgW.pat e; rw [e2] at e9; simp at e9))
    have fa6 := ekA.out 6 (.int .i64 a.rise) rfl
    have fb6 := ekB.out 6 (.int .i64 b.rise) rfl
    have fx6 := hx6.out
    have fa7 := ekA.out 7 (.int .i64 a.fall) rfl
    have fb7 := ekB.out 7 (.int .i64 b.fall) rfl
    have fx7 := hx7.out
    have fa8 := ekA.out 8 (.int .i64 a.every) rfl
    have fb8 := ekB.out 8 (.int .i64 b.every) rfl
    have fx8 := hx8.out
    have fa9 := ekA.out 9 (.int .i64 a.pat) rfl
    have fb9 := ekB.out 9 (.int .i64 b.pat) rfl
    have fx9 := hx9.out
    go_wp2_with fail
    go_ret
    exact ⟨ret_bool ev.out.symm, hB⟩
  have c9' : x9 = false := by simpa using c9
  clear c9
  subst c9'
  by_cases c10 : x10 = true
  · subst c10
    have ev := Lib.hid (show decide (a.w = b.w) = false from decide_eq_false (by intro e; have e9 := hx10.out; have e2 : a.room = b.room := congrArg CfgW.room e; rw [e2] at e9; simp at e9))
    have fa6 := ekA.out 6 (.int .i64 a.rise) rfl
    have fb6 := ekB.out 6 (.int .i64 b.rise) rfl
    have fx6 := hx6.out
    have fa7 := ekA.out 7 (.int .i64 a.fall) rfl
    have fb7 := ekB.out 7 (.int .i64 b.fall) rfl
    have fx7 := hx7.out
    have fa8 := ekA.out 8 (.int .i64 a.every) rfl
    have fb8 := ekB.out 8 (.int .i64 b.every) rfl
    have fx8 := hx8.out
    have fa9 := ekA.out 9 (.int .i64 a.pat) rfl
    have fb9 := ekB.out 9 (.int .i64 b.pat) rfl
    have fx9 := hx9.out
    have fa10 := ekA.out 10 (.int .i64 a.room) rfl
    have fb10 := ekB.out 10 (.int .i64 b.room) rfl
    have fx10 := hx10.out
    go_wp2_with fail
    go_ret
    exact ⟨ret_bool ev.out.symm, hB⟩
  have c10' : x10 = false := by simpa using c10
  clear c10
  subst c10'
  by_cases c11 : x11 = true
  · subst c11
    have ev := Lib.hid (show decide (a.w = b.w) = false from decide_eq_false (by intro e; have e9 := hx11.out; have e2 : a.idle = b.idle := congrArg CfgW.idle e; rw [e2] at e9; simp at e9))
    have fa6 := ekA.out 6 (.int .i64 a.rise) rfl
    have fb6 := ekB.out 6 (.int .i64 b.rise) rfl
    have fx6 := hx6.out
    have fa7 := ekA.out 7 (.int .i64 a.fall) rfl
    have fb7 := ekB.out 7 (.int .i64 b.fall) rfl
    have fx7 := hx7.out
    have fa8 := ekA.out 8 (.int .i64 a.every) rfl
    have fb8 := ekB.out 8 (.int .i64 b.every) rfl
    have fx8 := hx8.out
    have fa9 := ekA.out 9 (.int .i64 a.pat) rfl
    have fb9 := ekB.out 9 (.int .i64 b.pat) rfl
    have fx9 := hx9.out
    have fa10 := ekA.out 10 (.int .i64 a.room) rfl
    have fb10 := ekB.out 10 (.int .i64 b.room) rfl
    have fx10 := hx10.out
    have fa11 := ekA.out 11 (.int .i64 a.idle) rfl
    have fb11 := ekB.out 11 (.int .i64 b.idle) rfl
    have fx11 := hx11.out
    go_wp2_with fail
    go_ret
    exact ⟨ret_bool ev.out.symm, hB⟩
  have c11' : x11 = false := by simpa using c11
  clear c11
  subst c11'
  by_cases c12 : x12 = true
  · subst c12
    have ev := Lib.hid (show decide (a.w = b.w) = false from decide_eq_false (by intro e; have e9 := hx12.out; have e2 : a.queue = b.queue := congrArg CfgW.queue e; rw [e2] at e9; simp at e9))
    have fa6 := ekA.out 6 (.int .i64 a.rise) rfl
    have fb6 := ekB.out 6 (.int .i64 b.rise) rfl
    have fx6 := hx6.out
    have fa7 := ekA.out 7 (.int .i64 a.fall) rfl
    have fb7 := ekB.out 7 (.int .i64 b.fall) rfl
    have fx7 := hx7.out
    have fa8 := ekA.out 8 (.int .i64 a.every) rfl
    have fb8 := ekB.out 8 (.int .i64 b.every) rfl
    have fx8 := hx8.out
    have fa9 := ekA.out 9 (.int .i64 a.pat) rfl
    have fb9 := ekB.out 9 (.int .i64 b.pat) rfl
    have fx9 := hx9.out
    have fa10 := ekA.out 10 (.int .i64 a.room) rfl
    have fb10 := ekB.out 10 (.int .i64 b.room) rfl
    have fx10 := hx10.out
    have fa11 := ekA.out 11 (.int .i64 a.idle) rfl
    have fb11 := ekB.out 11 (.int .i64 b.idle) rfl
    have fx11 := hx11.out
    have fa12 := ekA.out 12 (.int .i64 a.queue) rfl
    have fb12 := ekB.out 12 (.int .i64 b.queue) rfl
    have fx12 := hx12.out
    go_wp2_with fail
    go_ret
    exact ⟨ret_bool ev.out.symm, hB⟩
  have c12' : x12 = false := by simpa using c12
  clear c12
  subst c12'
  by_cases c13 : x13 = false
  · subst c13
    have ev := Lib.hid (show decide (a.w = b.w) = false from decide_eq_false (by intro e; have e9 := hx13.out; refine (of_decide_eq_false e9) ?_; show [a.dF, a.dS, a.dR, a.dC, a.dH] = [b.dF, b.dS, b.dR, b.dC, b.dH]; rw [show a.dF = b.dF from congrArg CfgW.dF e, show a.dS = b.dS from congrArg CfgW.dS e, show a.dR = b.dR from congrArg CfgW.dR e, show a.dC = b.dC from congrArg CfgW.dC e, show a.dH = b.dH from congrArg CfgW.dH e]))
    have fa6 := ekA.out 6 (.int .i64 a.rise) rfl
    have fb6 := ekB.out 6 (.int .i64 b.rise) rfl
    have fx6 := hx6.out
    have fa7 := ekA.out 7 (.int .i64 a.fall) rfl
    have fb7 := ekB.out 7 (.int .i64 b.fall) rfl
    have fx7 := hx7.out
    have fa8 := ekA.out 8 (.int .i64 a.every) rfl
    have fb8 := ekB.out 8 (.int .i64 b.every) rfl
    have fx8 := hx8.out
    have fa9 := ekA.out 9 (.int .i64 a.pat) rfl
    have fb9 := ekB.out 9 (.int .i64 b.pat) rfl
    have fx9 := hx9.out
    have fa10 := ekA.out 10 (.int .i64 a.room) rfl
    have fb10 := ekB.out 10 (.int .i64 b.room) rfl
    have fx10 := hx10.out
    have fa11 := ekA.out 11 (.int .i64 a.idle) rfl
    have fb11 := ekB.out 11 (.int .i64 b.idle) rfl
    have fx11 := hx11.out
    have fa12 := ekA.out 12 (.int .i64 a.queue) rfl
    have fb12 := ekB.out 12 (.int .i64 b.queue) rfl
    have fx12 := hx12.out
    have fa13 := ekA.out 13 (.int .i64 a.dF) rfl
    have fb13 := ekB.out 13 (.int .i64 b.dF) rfl
    have fa14 := ekA.out 14 (.int .i64 a.dS) rfl
    have fb14 := ekB.out 14 (.int .i64 b.dS) rfl
    have fa15 := ekA.out 15 (.int .i64 a.dR) rfl
    have fb15 := ekB.out 15 (.int .i64 b.dR) rfl
    have fa16 := ekA.out 16 (.int .i64 a.dC) rfl
    have fb16 := ekB.out 16 (.int .i64 b.dC) rfl
    have fa17 := ekA.out 17 (.int .i64 a.dH) rfl
    have fb17 := ekB.out 17 (.int .i64 b.dH) rfl
    have fx13 := ed.out
    go_wp2_with fail
    go_ret
    exact ⟨ret_bool ev.out.symm, hB⟩
  have c13' : x13 = true := by simpa using c13
  clear c13
  subst c13'
  by_cases c14 : x14 = true
  · subst c14
    have ev := Lib.hid (show decide (a.w = b.w) = false from decide_eq_false (by intro e; have e9 := hx14.out; have e2 : a.ttl = b.ttl := congrArg CfgW.ttl e; rw [e2] at e9; simp at e9))
    have fa6 := ekA.out 6 (.int .i64 a.rise) rfl
    have fb6 := ekB.out 6 (.int .i64 b.rise) rfl
    have fx6 := hx6.out
    have fa7 := ekA.out 7 (.int .i64 a.fall) rfl
    have fb7 := ekB.out 7 (.int .i64 b.fall) rfl
    have fx7 := hx7.out
    have fa8 := ekA.out 8 (.int .i64 a.every) rfl
    have fb8 := ekB.out 8 (.int .i64 b.every) rfl
    have fx8 := hx8.out
    have fa9 := ekA.out 9 (.int .i64 a.pat) rfl
    have fb9 := ekB.out 9 (.int .i64 b.pat) rfl
    have fx9 := hx9.out
    have fa10 := ekA.out 10 (.int .i64 a.room) rfl
    have fb10 := ekB.out 10 (.int .i64 b.room) rfl
    have fx10 := hx10.out
    have fa11 := ekA.out 11 (.int .i64 a.idle) rfl
    have fb11 := ekB.out 11 (.int .i64 b.idle) rfl
    have fx11 := hx11.out
    have fa12 := ekA.out 12 (.int .i64 a.queue) rfl
    have fb12 := ekB.out 12 (.int .i64 b.queue) rfl
    have fx12 := hx12.out
    have fa13 := ekA.out 13 (.int .i64 a.dF) rfl
    have fb13 := ekB.out 13 (.int .i64 b.dF) rfl
    have fa14 := ekA.out 14 (.int .i64 a.dS) rfl
    have fb14 := ekB.out 14 (.int .i64 b.dS) rfl
    have fa15 := ekA.out 15 (.int .i64 a.dR) rfl
    have fb15 := ekB.out 15 (.int .i64 b.dR) rfl
    have fa16 := ekA.out 16 (.int .i64 a.dC) rfl
    have fb16 := ekB.out 16 (.int .i64 b.dC) rfl
    have fa17 := ekA.out 17 (.int .i64 a.dH) rfl
    have fb17 := ekB.out 17 (.int .i64 b.dH) rfl
    have fx13 := ed.out
    have fa18 := ekA.out 18 (.int .i64 a.ttl) rfl
    have fb18 := ekB.out 18 (.int .i64 b.ttl) rfl
    have fx14 := hx14.out
    go_wp2_with fail
    go_ret
    exact ⟨ret_bool ev.out.symm, hB⟩
  have c14' : x14 = false := by simpa using c14
  clear c14
  subst c14'
  have z0 : a.as_ = b.as_ := by simpa using hx0.out
  have z1 : a.id = b.id := by simpa using hx1.out
  have z2 : a.own = b.own := by simpa using hx2.out
  have z3 : a.pn = b.pn := by have := hx3.out; simp at this; omega
  have z4 : a.vn = b.vn := by have := hx4.out; simp at this; omega
  have z5 : a.S = b.S := of_decide_eq_true hx5.out
  have z6 : a.rise = b.rise := by simpa using hx6.out
  have z7 : a.fall = b.fall := by simpa using hx7.out
  have z8 : a.every = b.every := by simpa using hx8.out
  have z9 : a.pat = b.pat := by simpa using hx9.out
  have z10 : a.room = b.room := by simpa using hx10.out
  have z11 : a.idle = b.idle := by simpa using hx11.out
  have z12 : a.queue = b.queue := by simpa using hx12.out
  have z13 : a.dF = b.dF ∧ a.dS = b.dS ∧ a.dR = b.dR ∧ a.dC = b.dC ∧ a.dH = b.dH := by have := of_decide_eq_true hx13.out; simpa [dampL] using this
  have z14 : a.ttl = b.ttl := by simpa using hx14.out
  have hplain : a.P = b.P → a.V.map VipV.w = b.V.map VipV.w → a.w = b.w := fun e1 e2 => by
    unfold CfgV.w
    rw [z0, z1, z2, e1, e2, z5, z6, z7, z8, z9, z10, z11, z12, z13.1, z13.2.1, z13.2.2.1, z13.2.2.2.1, z13.2.2.2.2, z14]
  replace hplain := Lib.hid hplain
  clear z0 z1 z2 z5 z6 z7 z8 z9 z10 z11 z12 z13 z14
  replace z3 := Lib.hid z3
  replace z4 := Lib.hid z4
  have fa6 := ekA.out 6 (.int .i64 a.rise) rfl
  have fb6 := ekB.out 6 (.int .i64 b.rise) rfl
  have fx6 := hx6.out
  have fa7 := ekA.out 7 (.int .i64 a.fall) rfl
  have fb7 := ekB.out 7 (.int .i64 b.fall) rfl
  have fx7 := hx7.out
  have fa8 := ekA.out 8 (.int .i64 a.every) rfl
  have fb8 := ekB.out 8 (.int .i64 b.every) rfl
  have fx8 := hx8.out
  have fa9 := ekA.out 9 (.int .i64 a.pat) rfl
  have fb9 := ekB.out 9 (.int .i64 b.pat) rfl
  have fx9 := hx9.out
  have fa10 := ekA.out 10 (.int .i64 a.room) rfl
  have fb10 := ekB.out 10 (.int .i64 b.room) rfl
  have fx10 := hx10.out
  have fa11 := ekA.out 11 (.int .i64 a.idle) rfl
  have fb11 := ekB.out 11 (.int .i64 b.idle) rfl
  have fx11 := hx11.out
  have fa12 := ekA.out 12 (.int .i64 a.queue) rfl
  have fb12 := ekB.out 12 (.int .i64 b.queue) rfl
  have fx12 := hx12.out
  have fa13 := ekA.out 13 (.int .i64 a.dF) rfl
  have fb13 := ekB.out 13 (.int .i64 b.dF) rfl
  have fa14 := ekA.out 14 (.int .i64 a.dS) rfl
  have fb14 := ekB.out 14 (.int .i64 b.dS) rfl
  have fa15 := ekA.out 15 (.int .i64 a.dR) rfl
  have fb15 := ekB.out 15 (.int .i64 b.dR) rfl
  have fa16 := ekA.out 16 (.int .i64 a.dC) rfl
  have fb16 := ekB.out 16 (.int .i64 b.dC) rfl
  have fa17 := ekA.out 17 (.int .i64 a.dH) rfl
  have fb17 := ekB.out 17 (.int .i64 b.dH) rfl
  have fx13 := ed.out
  have fa18 := ekA.out 18 (.int .i64 a.ttl) rfl
  have fb18 := ekB.out 18 (.int .i64 b.ttl) rfl
  have fx14 := hx14.out
  go_upto_region 3 with (fail)
  clear fa6 fb6 fx6 fa7 fb7 fx7 fa8 fb8 fx8 fa9 fb9 fx9 fa10 fb10 fx10 fa11 fb11 fx11 fa12 fb12 fx12 fa13 fb13 fa14 fb14 fa15 fb15 fa16 fb16 fa17 fb17 fx13 fa18 fb18 fx14 ekA ekB l2 l3
  have hvn2 : a.vn ≤ 300 := hvn
  have hpn2 : a.pn ≤ 300 := hpn
  have fa3 : wz.cell? ⟨w.heap.size, 3, none⟩ = some (.slice a.pA a.pn a.pc) := h2.cellv 3 rfl
  have l2 := h2.lt
  go_wp2_with fail
  clear fa3 l2
  go_loopw [5, 120] (fun _ i wr => ∃ k : Nat, k ≤ a.pn ∧ i = .int .i64 (k : Int) ∧ a.P.take k = b.P.take k ∧ Blk wr w.heap.size 41 (cfgC a) ∧ Blk wr g3 41 (cfgC b) ∧ CfgIn wr a ∧ CfgIn wr b ∧ Below w.heap.size w wr) (fun _ i _ => a.pn - (intOf i).toNat)
  case atStart => exact ⟨0, Nat.zero_le _, rfl, rfl, h2, h3, hA, hBb, hB⟩
  case round =>
  clear h2 h3 hA hBb hB
  obtain ⟨k, hk, rfl, hkey, h2, h3, hA, hBb, hB⟩ := hrel
  replace hkey := Lib.hid hkey
  have hl := Lib.hid hA.peers.1
  have hl' := Lib.hid hBb.peers.1
  by_cases hlt : k < a.pn
  · obtain ⟨bb, off, p, e, hb1, hxk, -, c0, c1, c2, c3, c4, c5, c6⟩ := peer_cells hA.peers hlt
    obtain ⟨bb', off', q, e', hb2, hyk, -, d0, d1, d2, d3, d4, d5, d6⟩ := peer_cells hBb.peers (show k < b.pn by rw [← z3.out]; exact hlt)
    have fa3 : wr.cell? ⟨w.heap.size, 3, none⟩ = some (.slice (some ⟨bb, off, none⟩) a.pn a.pc) := by rw [← e]; exact h2.cellv 3 rfl
    have fb3 : wr.cell? ⟨g3, 3, none⟩ = some (.slice (some ⟨bb', off', none⟩) b.pn b.pc) := by rw [← e']; exact h3.cellv 3 rfl
    have l2 := h2.lt
    have l3 := h3.lt
    have hki : (k : Int) < a.pn := by omega
    have hki' : (k : Int) < b.pn := by rw [← z3.out]; exact hki
    have hk0 : (0 : Int) ≤ k := by omega
    have hk3 : (k : Int) ≤ 300 := by omega
    have hq : ∀ w : World, (binOp .neq 80 (.agg #[.int .i64 p.as_, .int .i64 p.hold, .int .i64 p.retry, .int .i64 p.gap, .int .i64 p.med, .int .i64 p.prep, .int .i64 p.back]) (.agg #[.int .i64 q.as_, .int .i64 q.hold, .int .i64 q.retry, .int .i64 q.gap, .int .i64 q.med, .int .i64 q.prep, .int .i64 q.back])).run Tryz.prog w = .ok (.bool (!decide (p = q))) w := fun w => by rw [neqPR, eqbP]
    clear e e'
    cases he : decide (p = q)
    · have ev := Lib.hid (show decide (a.w = b.w) = false by rw [decide_eq_false_iff_not]; intro e; have e2 : a.P = b.P := congrArg CfgW.P e; rw [e2, hyk] at hxk; injection hxk with hxk; exact (of_decide_eq_false he) hxk.symm)
      simp only [he, Bool.not_false] at hq
      clear he hxk hyk
      go_wp2_with fail
      -- region 6: 0 1 2 3 4 5 6 7 8 9 10
      try refine wp_region_noPanic ?_
      have hs1r : Below wr.heap.size wr wr.drew := (Below.refl _ _).drew
      refine wp_region_held_drew (S := fun w' => Below wr.heap.size wr w') (by kernel_rfl) hs1r (fun _ => ?_)
      (refine held_takeA 0 (by rfl) ?_ (by kernel_rfl) (fun _ _ _ h => h) hs1r ?_ ?_; rotate_left; (focus (intro wq hSw; have hrd : ∀ b o, b < wr.heap.size → wq.cell? ⟨b, o, none⟩ = wr.cell? ⟨b, o, none⟩ := (fun b o h => hSw.cell (p := ⟨b, o, none⟩) h); go_simp; try with_reducible rfl; done)); try simp only [Act.put, List.setIfInBounds_toArray, List.set_cons_zero, List.set_cons_succ])
      (refine held_takeA 1 (by rfl) ?_ (by kernel_rfl) (fun _ _ _ h => h) hs1r ?_ ?_; rotate_left; (focus (intro wq hSw; have hrd : ∀ b o, b < wr.heap.size → wq.cell? ⟨b, o, none⟩ = wr.cell? ⟨b, o, none⟩ := (fun b o h => hSw.cell (p := ⟨b, o, none⟩) h); go_simp; try with_reducible rfl; done)); try simp only [Act.put, List.setIfInBounds_toArray, List.set_cons_zero, List.set_cons_succ])
      (refine held_takeA 2 (by rfl) ?_ (by kernel_rfl) (fun _ _ _ h => h) hs1r ?_ ?_; rotate_left; (focus (intro wq hSw; have hrd : ∀ b o, b < wr.heap.size → wq.cell? ⟨b, o, none⟩ = wr.cell? ⟨b, o, none⟩ := (fun b o h => hSw.cell (p := ⟨b, o, none⟩) h); go_simp; try with_reducible rfl; done)); try simp only [Act.put, List.setIfInBounds_toArray, List.set_cons_zero, List.set_cons_succ])
      (refine held_takeA 3 (by rfl) ?_ (by kernel_rfl) (fun _ _ _ h => h) hs1r ?_ ?_; rotate_left; (focus (intro wq hSw; have hrd : ∀ b o, b < wr.heap.size → wq.cell? ⟨b, o, none⟩ = wr.cell? ⟨b, o, none⟩ := (fun b o h => hSw.cell (p := ⟨b, o, none⟩) h); go_simp; try with_reducible rfl; done)); try simp only [Act.put, List.setIfInBounds_toArray, List.set_cons_zero, List.set_cons_succ])
      (refine held_takeA 4 (by rfl) ?_ (by kernel_rfl) (fun _ _ _ h => h) hs1r ?_ ?_; rotate_left; (focus (intro wq hSw; have hrd : ∀ b o, b < wr.heap.size → wq.cell? ⟨b, o, none⟩ = wr.cell? ⟨b, o, none⟩ := (fun b o h => hSw.cell (p := ⟨b, o, none⟩) h); go_simp; try with_reducible rfl; done)); try simp only [Act.put, List.setIfInBounds_toArray, List.set_cons_zero, List.set_cons_succ])
      (refine held_takeA 5 (by rfl) ?_ (by kernel_rfl) (fun _ _ _ h => h) hs1r ?_ ?_; rotate_left; (focus (intro wq hSw; have hrd : ∀ b o, b < wr.heap.size → wq.cell? ⟨b, o, none⟩ = wr.cell? ⟨b, o, none⟩ := (fun b o h => hSw.cell (p := ⟨b, o, none⟩) h); go_simp; try with_reducible rfl; done)); try simp only [Act.put, List.setIfInBounds_toArray, List.set_cons_zero, List.set_cons_succ])
      (refine held_takeA 6 (by rfl) ?_ (by kernel_rfl) (fun _ _ _ h => h) hs1r ?_ ?_; rotate_left; (focus (intro wq hSw; have hrd : ∀ b o, b < wr.heap.size → wq.cell? ⟨b, o, none⟩ = wr.cell? ⟨b, o, none⟩ := (fun b o h => hSw.cell (p := ⟨b, o, none⟩) h); go_simp; try with_reducible rfl; done)); try simp only [Act.put, List.setIfInBounds_toArray, List.set_cons_zero, List.set_cons_succ])
      (refine held_takeA 7 (by rfl) ?_ (by kernel_rfl) (fun _ _ _ h => h) hs1r ?_ ?_; rotate_left; (focus (intro wq hSw; have hrd : ∀ b o, b < wr.heap.size → wq.cell? ⟨b, o, none⟩ = wr.cell? ⟨b, o, none⟩ := (fun b o h => hSw.cell (p := ⟨b, o, none⟩) h); go_simp; try with_reducible rfl; done)); try simp only [Act.put, List.setIfInBounds_toArray, List.set_cons_zero, List.set_cons_succ])
      (refine held_takeA 8 (by rfl) ?_ (by kernel_rfl) (fun _ _ _ h => h) hs1r ?_ ?_; rotate_left; (focus (intro wq hSw; have hrd : ∀ b o, b < wr.heap.size → wq.cell? ⟨b, o, none⟩ = wr.cell? ⟨b, o, none⟩ := (fun b o h => hSw.cell (p := ⟨b, o, none⟩) h); go_simp; try with_reducible rfl; done)); try simp only [Act.put, List.setIfInBounds_toArray, List.set_cons_zero, List.set_cons_succ])
      (refine held_takeA 9 (by rfl) ?_ (by kernel_rfl) (fun _ _ _ h => h) hs1r ?_ ?_; rotate_left; (focus (intro wq hSw; have hrd : ∀ b o, b < wr.heap.size → wq.cell? ⟨b, o, none⟩ = wr.cell? ⟨b, o, none⟩ := (fun b o h => hSw.cell (p := ⟨b, o, none⟩) h); go_simp; try with_reducible rfl; done)); try simp only [Act.put, List.setIfInBounds_toArray, List.set_cons_zero, List.set_cons_succ])
      (refine held_takeA 10 (by rfl) ?_ (by kernel_rfl) (fun _ _ _ h => h) hs1r ?_ ?_; rotate_left; (focus (intro wq hSw; have hrd : ∀ b o, b < wr.heap.size → wq.cell? ⟨b, o, none⟩ = wr.cell? ⟨b, o, none⟩ := (fun b o h => hSw.cell (p := ⟨b, o, none⟩) h); go_simp; try with_reducible rfl; done)); try simp only [Act.put, List.setIfInBounds_toArray, List.set_cons_zero, List.set_cons_succ])
      refine wpAnyH_done (by kernel_rfl) ?_ _
      try refine NoPanic.normal ?_
      go_wp2_with fail
      go_ret
      exact ⟨ret_bool ev.out.symm, hB.drew⟩
    · have e0 : p = q := of_decide_eq_true he
      rw [← e0] at hyk
      have ek := Lib.hid (take_nextF hkey.out hxk hyk)
      simp only [he, Bool.not_true] at hq
      clear he hxk hyk e0
      go_wp2_with fail
      -- region 6: 0 1 2 3 4 5 6 7 8 9 10
      try refine wp_region_noPanic ?_
      have hs2r : Below wr.heap.size wr wr.drew := (Below.refl _ _).drew
      refine wp_region_held_drew (S := fun w' => Below wr.heap.size wr w') (by kernel_rfl) hs2r (fun _ => ?_)
      (refine held_takeA 0 (by rfl) ?_ (by kernel_rfl) (fun _ _ _ h => h) hs2r ?_ ?_; rotate_left; (focus (intro wq hSw; have hrd : ∀ b o, b < wr.heap.size → wq.cell? ⟨b, o, none⟩ = wr.cell? ⟨b, o, none⟩ := (fun b o h => hSw.cell (p := ⟨b, o, none⟩) h); go_simp; try with_reducible rfl; done)); try simp only [Act.put, List.setIfInBounds_toArray, List.set_cons_zero, List.set_cons_succ])
      (refine held_takeA 1 (by rfl) ?_ (by kernel_rfl) (fun _ _ _ h => h) hs2r ?_ ?_; rotate_left; (focus (intro wq hSw; have hrd : ∀ b o, b < wr.heap.size → wq.cell? ⟨b, o, none⟩ = wr.cell? ⟨b, o, none⟩ := (fun b o h => hSw.cell (p := ⟨b, o, none⟩) h); go_simp; try with_reducible rfl; done)); try simp only [Act.put, List.setIfInBounds_toArray, List.set_cons_zero, List.set_cons_succ])
      (refine held_takeA 2 (by rfl) ?_ (by kernel_rfl) (fun _ _ _ h => h) hs2r ?_ ?_; rotate_left; (focus (intro wq hSw; have hrd : ∀ b o, b < wr.heap.size → wq.cell? ⟨b, o, none⟩ = wr.cell? ⟨b, o, none⟩ := (fun b o h => hSw.cell (p := ⟨b, o, none⟩) h); go_simp; try with_reducible rfl; done)); try simp only [Act.put, List.setIfInBounds_toArray, List.set_cons_zero, List.set_cons_succ])
      (refine held_takeA 3 (by rfl) ?_ (by kernel_rfl) (fun _ _ _ h => h) hs2r ?_ ?_; rotate_left; (focus (intro wq hSw; have hrd : ∀ b o, b < wr.heap.size → wq.cell? ⟨b, o, none⟩ = wr.cell? ⟨b, o, none⟩ := (fun b o h => hSw.cell (p := ⟨b, o, none⟩) h); go_simp; try with_reducible rfl; done)); try simp only [Act.put, List.setIfInBounds_toArray, List.set_cons_zero, List.set_cons_succ])
      (refine held_takeA 4 (by rfl) ?_ (by kernel_rfl) (fun _ _ _ h => h) hs2r ?_ ?_; rotate_left; (focus (intro wq hSw; have hrd : ∀ b o, b < wr.heap.size → wq.cell? ⟨b, o, none⟩ = wr.cell? ⟨b, o, none⟩ := (fun b o h => hSw.cell (p := ⟨b, o, none⟩) h); go_simp; try with_reducible rfl; done)); try simp only [Act.put, List.setIfInBounds_toArray, List.set_cons_zero, List.set_cons_succ])
      (refine held_takeA 5 (by rfl) ?_ (by kernel_rfl) (fun _ _ _ h => h) hs2r ?_ ?_; rotate_left; (focus (intro wq hSw; have hrd : ∀ b o, b < wr.heap.size → wq.cell? ⟨b, o, none⟩ = wr.cell? ⟨b, o, none⟩ := (fun b o h => hSw.cell (p := ⟨b, o, none⟩) h); go_simp; try with_reducible rfl; done)); try simp only [Act.put, List.setIfInBounds_toArray, List.set_cons_zero, List.set_cons_succ])
      (refine held_takeA 6 (by rfl) ?_ (by kernel_rfl) (fun _ _ _ h => h) hs2r ?_ ?_; rotate_left; (focus (intro wq hSw; have hrd : ∀ b o, b < wr.heap.size → wq.cell? ⟨b, o, none⟩ = wr.cell? ⟨b, o, none⟩ := (fun b o h => hSw.cell (p := ⟨b, o, none⟩) h); go_simp; try with_reducible rfl; done)); try simp only [Act.put, List.setIfInBounds_toArray, List.set_cons_zero, List.set_cons_succ])
      (refine held_takeA 7 (by rfl) ?_ (by kernel_rfl) (fun _ _ _ h => h) hs2r ?_ ?_; rotate_left; (focus (intro wq hSw; have hrd : ∀ b o, b < wr.heap.size → wq.cell? ⟨b, o, none⟩ = wr.cell? ⟨b, o, none⟩ := (fun b o h => hSw.cell (p := ⟨b, o, none⟩) h); go_simp; try with_reducible rfl; done)); try simp only [Act.put, List.setIfInBounds_toArray, List.set_cons_zero, List.set_cons_succ])
      (refine held_takeA 8 (by rfl) ?_ (by kernel_rfl) (fun _ _ _ h => h) hs2r ?_ ?_; rotate_left; (focus (intro wq hSw; have hrd : ∀ b o, b < wr.heap.size → wq.cell? ⟨b, o, none⟩ = wr.cell? ⟨b, o, none⟩ := (fun b o h => hSw.cell (p := ⟨b, o, none⟩) h); go_simp; try with_reducible rfl; done)); try simp only [Act.put, List.setIfInBounds_toArray, List.set_cons_zero, List.set_cons_succ])
      (refine held_takeA 9 (by rfl) ?_ (by kernel_rfl) (fun _ _ _ h => h) hs2r ?_ ?_; rotate_left; (focus (intro wq hSw; have hrd : ∀ b o, b < wr.heap.size → wq.cell? ⟨b, o, none⟩ = wr.cell? ⟨b, o, none⟩ := (fun b o h => hSw.cell (p := ⟨b, o, none⟩) h); go_simp; try with_reducible rfl; done)); try simp only [Act.put, List.setIfInBounds_toArray, List.set_cons_zero, List.set_cons_succ])
      (refine held_takeA 10 (by rfl) ?_ (by kernel_rfl) (fun _ _ _ h => h) hs2r ?_ ?_; rotate_left; (focus (intro wq hSw; have hrd : ∀ b o, b < wr.heap.size → wq.cell? ⟨b, o, none⟩ = wr.cell? ⟨b, o, none⟩ := (fun b o h => hSw.cell (p := ⟨b, o, none⟩) h); go_simp; try with_reducible rfl; done)); try simp only [Act.put, List.setIfInBounds_toArray, List.set_cons_zero, List.set_cons_succ])
      refine wpAnyH_done (by kernel_rfl) ?_ _
      try refine NoPanic.normal ?_
      go_wp2_with fail
      exact ⟨⟨k + 1, by omega, by go_num, ek.out, h2.drew, h3.drew, hA.nx (Below.refl _ _).drew, hBb.nx (Below.refl _ _).drew, hB.drew⟩, by simp [intOf]; omega⟩
  · obtain rfl : k = a.pn := by omega
    have eP : a.P = b.P := by
      have := hkey.out
      rw [List.take_of_length_le (by have := hl.out; omega), List.take_of_length_le (by have := hl'.out; have := z3.out; omega)] at this
      exact this
    replace eP := Lib.hid eP
    clear hl hl' hkey
    obtain ⟨X, hX⟩ : ∃ X, X = a.vA := ⟨_, rfl⟩
    have fa4 : wr.cell? ⟨w.heap.size, 4, none⟩ = some (.slice X a.vn a.vc) := by rw [hX]; exact h2.cellv 4 rfl
    replace hX := Lib.hid hX
    have l2 := h2.lt
    have hkn : ¬ ((a.pn : Int) < a.pn) := by omega
    generalize hw0 : wr = w7 at *
    clear hw0
    go_wp2_with fail
    clear fa4 l2
    have hvB : b.vn ≤ 300 := by have := z4.out; omega
    go_loopw [6, 138] (fun _ i wr => ∃ k : Nat, k ≤ a.vn ∧ i = .int .i64 (k : Int) ∧ (a.V.map VipV.w).take k = (b.V.map VipV.w).take k ∧ Blk wr w.heap.size 41 (cfgC a) ∧ Blk wr g3 41 (cfgC b) ∧ CfgIn wr a ∧ CfgIn wr b ∧ Below w.heap.size w wr) (fun _ i _ => a.vn - (intOf i).toNat)
    case atStart => exact ⟨0, Nat.zero_le _, rfl, rfl, h2, h3, hA, hBb, hB⟩
    case round =>
    clear h2 h3 hA hBb hB
    obtain ⟨k, hk, rfl, hkey, h2, h3, hA, hBb, hB⟩ := hrel
    replace hkey := Lib.hid hkey
    have hl := Lib.hid hA.vips.1
    have hl' := Lib.hid hBb.vips.1
    by_cases hlt : k < a.vn
    · have hS := hA.vips
      rw [← hX.out] at hS
      obtain ⟨bb, off, p, rfl, hb1, hxk, hokp, c0, c1, c2⟩ := vip_cells hS hlt
      obtain ⟨bb', off', q, e', hb2, hyk, hokq, d0, d1, d2⟩ := vip_cells hBb.vips (show k < b.vn by rw [← z4.out]; exact hlt)
      have fb4 : wr.cell? ⟨g3, 4, none⟩ = some (.slice (some ⟨bb', off', none⟩) b.vn b.vc) := by rw [← e']; exact h3.cellv 4 rfl
      clear e' hS
      have l2 := h2.lt
      have l3 := h3.lt
      have hki : (k : Int) < a.vn := by omega
      have hki' : (k : Int) < b.vn := by rw [← z4.out]; exact hki
      have hk0 : (0 : Int) ≤ k := by omega
      have hk3 : (k : Int) ≤ 300 := by omega
      have hpn3 := hbn p (List.mem_of_getElem? hxk)
      have hxw : (a.V.map VipV.w)[k]? = some p.w := by rw [List.getElem?_map, hxk]; rfl
      have hyw : (b.V.map VipV.w)[k]? = some q.w := by rw [List.getElem?_map, hyk]; rfl
      replace hxw := Lib.hid hxw
      replace hyw := Lib.hid hyw
      have hno : p.w ≠ q.w → decide (a.w = b.w) = false := fun h => by
        rw [decide_eq_false_iff_not]
        intro e
        have e2 : a.V.map VipV.w = b.V.map VipV.w := congrArg CfgW.V e
        have e3 := hxw.out
        rw [e2, hyw.out] at e3
        injection e3 with e3
        exact h e3.symm
      replace hno := Lib.hid hno
      clear hxk hyk
      have hbx := ((Below.refl wr.heap.size wr).alloc (Nat.le_refl _) (.cells #[.int .u32 p.ad, .int .i64 p.pct, .slice p.A p.n p.c] 81)).alloc (by simp) (.cells #[.int .u32 q.ad, .int .i64 q.pct, .slice q.A q.n q.c] 81)
      have h7 := (Blk.new wr 81 #[.int .u32 p.ad, .int .i64 p.pct, .slice p.A p.n p.c]).alloc (.cells #[.int .u32 q.ad, .int .i64 q.pct, .slice q.A q.n q.c] 81)
      have h8 := Blk.new (wr.alloc (.cells #[.int .u32 p.ad, .int .i64 p.pct, .slice p.A p.n p.c] 81)) 81 #[.int .u32 q.ad, .int .i64 q.pct, .slice q.A q.n q.c]
      rw [World.size_alloc] at h8
      go_upto_region 13 with (fail)
      generalize (wr.alloc (.cells #[.int .u32 p.ad, .int .i64 p.pct, .slice p.A p.n p.c] 81)).alloc (.cells #[.int .u32 q.ad, .int .i64 q.pct, .slice q.A q.n q.c] 81) = m7 at *
      clear c0 c1 c2 d0 d1 d2 fb4 l2 l3
      have hz7 := hbx.size
      replace hokp := vipK.more (vipK.keep hokp fun p hp => hbx.cell hp) (S' := fun b => b < m7.heap.size) fun b q => Nat.lt_of_lt_of_le q hz7
      replace hokq := vipK.more (vipK.keep hokq fun p hp => hbx.cell hp) (S' := fun b => b < m7.heap.size) fun b q => Nat.lt_of_lt_of_le q hz7
      replace h2 := h2.below hbx h2.lt
      replace h3 := h3.below hbx h3.lt
      replace hA := hA.nx hbx
      replace hBb := hBb.nx hbx
      replace hB := hB.trans (hbx.mono hB.size)
      clear hbx
      have p0 : m7.cell? ⟨wr.heap.size, 0, none⟩ = some (.int .u32 p.ad) := h7.cellv 0 rfl
      have p1 : m7.cell? ⟨wr.heap.size, 1, none⟩ = some (.int .i64 p.pct) := h7.cellv 1 rfl
      have p2 : m7.cell? ⟨wr.heap.size, 2, none⟩ = some (.slice p.A p.n p.c) := h7.cellv 2 rfl
      have q0 : m7.cell? ⟨wr.heap.size + 1, 0, none⟩ = some (.int .u32 q.ad) := h8.cellv 0 rfl
      have q1 : m7.cell? ⟨wr.heap.size + 1, 1, none⟩ = some (.int .i64 q.pct) := h8.cellv 1 rfl
      have q2 : m7.cell? ⟨wr.heap.size + 1, 2, none⟩ = some (.slice q.A q.n q.c) := h8.cellv 2 rfl
      have l7 := h7.lt
      have l8 := h8.lt
      obtain ⟨y0, hy0⟩ : ∃ y, (p.ad != q.ad) = y := ⟨_, rfl⟩
      obtain ⟨y1, hy1⟩ : ∃ y, (p.pct != q.pct) = y := ⟨_, rfl⟩
      cases y0
      case true =>
        have ev := Lib.hid (hno.out (by intro e; have e2 : p.ad = q.ad := congrArg VipW.ad e; rw [e2] at hy0; simp at hy0))
        go_wp2_with fail
        go_ret
        exact ⟨ret_bool ev.out.symm, hB⟩
      case false =>
      cases y1
      case true =>
        have ev := Lib.hid (hno.out (by intro e; have e2 : p.pct = q.pct := congrArg VipW.pct e; rw [e2] at hy1; simp at hy1))
        go_wp2_with fail
        go_ret
        exact ⟨ret_bool ev.out.symm, hB⟩
      case false =>
      go_wp2_with fail
      refine (eqBR_any m7 _ _ p.A p.n p.c p.L q.A q.n q.c q.L hokp.2.2.2.2 hokq.2.2.2.2 (fun _ q => q) (fun _ q => q) (by omega)).mono ?_
      rintro e m8 ⟨rfl, hz⟩
      clear p0 p1 p2 q0 q1 q2 l7 l8
      cases he : decide (p.L = q.L)
      case false =>
        have ev := Lib.hid (hno.out (by intro e; have e2 : p.L = q.L := congrArg VipW.L e; exact (of_decide_eq_false he) e2))
        clear he hy0 hy1
        go_wp2_with fail
        go_ret
        exact ⟨ret_bool ev.out.symm, hB.trans (hz.mono hB.size)⟩
      case true =>
      have ek := Lib.hid (take_nextF hkey.out hxw.out (hyw.out.trans (by
        have e1 : p.ad = q.ad := by simpa using hy0
        have e2 : p.pct = q.pct := by simpa using hy1
        have e3 : p.L = q.L := of_decide_eq_true he
        unfold VipV.w
        rw [e1, e2, e3])))
      clear he hy0 hy1
      go_wp2_with fail
      exact ⟨⟨k + 1, by omega, by go_num, ek.out, h2.below hz h2.lt, h3.below hz h3.lt, hA.nx hz, hBb.nx hz, hB.trans (hz.mono hB.size)⟩, by simp [intOf]; omega⟩
    · obtain rfl : k = a.vn := by omega
      have eV : a.V.map VipV.w = b.V.map VipV.w := by
        have := hkey.out
        rw [List.take_of_length_le (by rw [List.length_map]; have := hl.out; omega), List.take_of_length_le (by rw [List.length_map]; have := hl'.out; have := z4.out; omega)] at this
        exact this
      have ev := Lib.hid (show decide (a.w = b.w) = true from decide_eq_true (hplain.out eP.out eV))
      clear eV
      have hkn2 : ¬ ((a.vn : Int) < a.vn) := by omega
      go_wp2_with fail
      go_ret
      exact ⟨ret_bool ev.out.symm, hB⟩
end Go.Proofs.YtecmhakapomepaaGreat
