import Derived.Test.YtecmhakapomepaaGreatMConfigForms22
import Derived.Test.YtecmhakapomepaaGreatMConfigForms17
/- config: Same. -/
namespace Go.Proofs.YtecmhakapomepaaGreat
set_option linter.unusedVariables false
open Go Go.RowKit

def numsL (c : CfgV) : List Int := [c.as_, c.rise, c.fall, c.every, c.pat, c.room, c.idle, c.queue, c.ttl]
def dampL (c : CfgV) : List Int := [c.dF, c.dS, c.dR, c.dC, c.dH]
theorem cfgw_eq (a b : CfgV) : decide (a.w = b.w) = (decide (numsL a = numsL b) && decide (a.id = b.id) && decide (a.own = b.own) && decide (dampL a = dampL b) && decide (a.P = b.P) && decide (a.S = b.S) && decide (a.V.map VipV.w = b.V.map VipV.w)) := by
  rw [Bool.eq_iff_iff]
  simp only [CfgV.w, numsL, dampL, CfgW.mk.injEq, decide_eq_true_eq, Bool.and_eq_true, List.cons.injEq, and_true]
  constructor
  · rintro ⟨h1, h2, h3, h4, h5, h6, h7, h8, h9, h10, h11, h12, h13, h14, h15, h16, h17, h18, h19⟩
    exact ⟨⟨⟨⟨⟨⟨⟨h1, h7, h8, h9, h10, h11, h12, h13, h19⟩, h2⟩, h3⟩, h14, h15, h16, h17, h18⟩, h4⟩, h6⟩, h5⟩
  · rintro ⟨⟨⟨⟨⟨⟨⟨h1, h7, h8, h9, h10, h11, h12, h13, h19⟩, h2⟩, h3⟩, h14, h15, h16, h17, h18⟩, h4⟩, h6⟩, h5⟩
    exact ⟨h1, h2, h3, h4, h5, h6, h7, h8, h9, h10, h11, h12, h13, h14, h15, h16, h17, h18, h19⟩
set_option maxRecDepth 100000 in
set_option maxHeartbeats 16000000 in
theorem nums_any (w : World) (c : CfgV) : Calls Tryz.prog 43 #[.agg (cfgC c)] w fun e w' => e = .returned (.agg #[.int .i64 c.as_, .int .i64 c.rise, .int .i64 c.fall, .int .i64 c.every, .int .i64 c.pat, .int .i64 c.room, .int .i64 c.idle, .int .i64 c.queue, .int .i64 c.ttl]) ∧ Below w.heap.size w w' := by
  have hB := ((Below.refl w.heap.size w).alloc (Nat.le_refl _) (.cells (cfgC c) 29)).alloc (by simp) (.cells #[.int .i64 0, .int .i64 0, .int .i64 0, .int .i64 0, .int .i64 0, .int .i64 0, .int .i64 0, .int .i64 0, .int .i64 0] 96)
  have hq := (Blk.new w 29 (cfgC c)).alloc (.cells #[.int .i64 0, .int .i64 0, .int .i64 0, .int .i64 0, .int .i64 0, .int .i64 0, .int .i64 0, .int .i64 0, .int .i64 0] 96)
  have hz := Blk.new (w.alloc (.cells (cfgC c) 29)) 96 #[.int .i64 0, .int .i64 0, .int .i64 0, .int .i64 0, .int .i64 0, .int .i64 0, .int .i64 0, .int .i64 0, .int .i64 0]
  rw [World.size_alloc] at hz
  go_enter Tryz.func43, Tryz.ntmps43
  go_upto_region 1 with (fail)
  generalize (w.alloc (.cells (cfgC c) 29)).alloc (.cells #[.int .i64 0, .int .i64 0, .int .i64 0, .int .i64 0, .int .i64 0, .int .i64 0, .int .i64 0, .int .i64 0, .int .i64 0] 96) = w1 at *
  have q0 : w1.cell? ⟨w.heap.size, 0, none⟩ = some (.int .i64 c.as_) := hq.cellv 0 rfl
  have q6 : w1.cell? ⟨w.heap.size, 6, none⟩ = some (.int .i64 c.rise) := hq.cellv 6 rfl
  have q7 : w1.cell? ⟨w.heap.size, 7, none⟩ = some (.int .i64 c.fall) := hq.cellv 7 rfl
  have q8 : w1.cell? ⟨w.heap.size, 8, none⟩ = some (.int .i64 c.every) := hq.cellv 8 rfl
  have q9 : w1.cell? ⟨w.heap.size, 9, none⟩ = some (.int .i64 c.pat) := hq.cellv 9 rfl
  have q10 : w1.cell? ⟨w.heap.size, 10, none⟩ = some (.int .i64 c.room) := hq.cellv 10 rfl
  have q11 : w1.cell? ⟨w.heap.size, 11, none⟩ = some (.int .i64 c.idle) := hq.cellv 11 rfl
  have q12 : w1.cell? ⟨w.heap.size, 12, none⟩ = some (.int .i64 c.queue) := hq.cellv 12 rfl
  have q18 : w1.cell? ⟨w.heap.size, 18, none⟩ = some (.int .i64 c.ttl) := hq.cellv 18 rfl
  have ql := hq.lt
  have hi9 : (Tryz.prog.info? 96).map (·.size) = some (9 : Nat) := by kernel_rfl
  go_wp2_with (refine wpList_store_blk rfl hz 96 (.tmp 2) (.tmp 21) rfl rfl rfl rfl hi9 (by simp [Value.oneCell']) ?_; intro w9 h9 hg9)
  refine bodyPost_ret (results_c rfl _ rfl (load_blk h9 Tryz.underlying96 rfl hi9)) rfl ?_
  exact ⟨rfl, below_own hB hg9 hB.size (by omega)⟩
set_option maxRecDepth 100000 in
set_option maxHeartbeats 16000000 in
theorem sameC_any (w : World) (a b : CfgV) (ha : CfgIn w a) (hb : CfgIn w b) (hs : CfgSm a) : Calls Tryz.prog 12 #[.agg (cfgC a), .agg (cfgC b)] w fun e w' => e = .returned (.bool (decide (a.w = b.w))) ∧ Below w.heap.size w w' := by
  rw [cfgw_eq]
  have hB := ((Below.refl w.heap.size w).alloc (Nat.le_refl _) (.cells (cfgC a) 29)).alloc (by simp) (.cells (cfgC b) 29)
  have h2 := (Blk.new w 29 (cfgC a)).alloc (.cells (cfgC b) 29)
  have h3 := Blk.new (w.alloc (.cells (cfgC a) 29)) 29 (cfgC b)
  rw [World.size_alloc] at h3
  have hA := ha.nx hB
  have hBb := hb.nx hB
  have hia : (Tryz.prog.info? 29).map (·.size) = some (cfgC a).size := by kernel_rfl
  have hib : (Tryz.prog.info? 29).map (·.size) = some (cfgC b).size := by kernel_rfl
  have hpn := hs.p
  have hsn := hs.s
  have hvn := hs.v
  have hbn := hs.b
  go_enter Tryz.func12, Tryz.ntmps12
  go_upto_region 1 with (fail)
  generalize (w.alloc (.cells (cfgC a) 29)).alloc (.cells (cfgC b) 29) = w1 at *
  generalize hg3 : w.heap.size + 1 = g3 at *
  replace hg3 := Lib.hid hg3
  have a1 : w1.cell? ⟨w.heap.size, 1, none⟩ = some (.int .u32 a.id) := h2.cellv 1 rfl
  have b1 : w1.cell? ⟨g3, 1, none⟩ = some (.int .u32 b.id) := h3.cellv 1 rfl
  have a2 : w1.cell? ⟨w.heap.size, 2, none⟩ = some (.int .u32 a.own) := h2.cellv 2 rfl
  have b2 : w1.cell? ⟨g3, 2, none⟩ = some (.int .u32 b.own) := h3.cellv 2 rfl
  have a13 : w1.cell? ⟨w.heap.size, 13, none⟩ = some (.int .i64 a.dF) := h2.cellv 13 rfl
  have b13 : w1.cell? ⟨g3, 13, none⟩ = some (.int .i64 b.dF) := h3.cellv 13 rfl
  have a14 : w1.cell? ⟨w.heap.size, 14, none⟩ = some (.int .i64 a.dS) := h2.cellv 14 rfl
  have b14 : w1.cell? ⟨g3, 14, none⟩ = some (.int .i64 b.dS) := h3.cellv 14 rfl
  have a15 : w1.cell? ⟨w.heap.size, 15, none⟩ = some (.int .i64 a.dR) := h2.cellv 15 rfl
  have b15 : w1.cell? ⟨g3, 15, none⟩ = some (.int .i64 b.dR) := h3.cellv 15 rfl
  have a16 : w1.cell? ⟨w.heap.size, 16, none⟩ = some (.int .i64 a.dC) := h2.cellv 16 rfl
  have b16 : w1.cell? ⟨g3, 16, none⟩ = some (.int .i64 b.dC) := h3.cellv 16 rfl
  have a17 : w1.cell? ⟨w.heap.size, 17, none⟩ = some (.int .i64 a.dH) := h2.cellv 17 rfl
  have b17 : w1.cell? ⟨g3, 17, none⟩ = some (.int .i64 b.dH) := h3.cellv 17 rfl
  have l2 := h2.lt
  have l3 := h3.lt
  have en : ∀ w : World, (binOp .eql 96 (.agg #[.int .i64 a.as_, .int .i64 a.rise, .int .i64 a.fall, .int .i64 a.every, .int .i64 a.pat, .int .i64 a.room, .int .i64 a.idle, .int .i64 a.queue, .int .i64 a.ttl]) (.agg #[.int .i64 b.as_, .int .i64 b.rise, .int .i64 b.fall, .int .i64 b.every, .int .i64 b.pat, .int .i64 b.room, .int .i64 b.idle, .int .i64 b.queue, .int .i64 b.ttl])).run Tryz.prog w = .ok (.bool (decide (numsL a = numsL b))) w := fun w => by
    rw [eqlN]
    congr 2
    rw [Bool.eq_iff_iff]
    simp [numsL]
  have ed : ∀ w : World, (binOp .eql 27 (.agg #[.int .i64 a.dF, .int .i64 a.dS, .int .i64 a.dR, .int .i64 a.dC, .int .i64 a.dH]) (.agg #[.int .i64 b.dF, .int .i64 b.dS, .int .i64 b.dR, .int .i64 b.dC, .int .i64 b.dH])).run Tryz.prog w = .ok (.bool (decide (dampL a = dampL b))) w := fun w => by
    rw [eqlD]
    congr 2
    rw [Bool.eq_iff_iff]
    simp [dampL, and_assoc]
  have hz1 := hB.size
  generalize ea : decide (numsL a = numsL b) = x0 at *
  generalize eb : decide (a.id = b.id) = x1 at *
  generalize ec : decide (a.own = b.own) = x2 at *
  generalize eD : decide (dampL a = dampL b) = x3 at *
  have ei : (a.id == b.id) = x1 := by rw [← eb, Bool.eq_iff_iff]; simp
  have eo : (a.own == b.own) = x2 := by rw [← ec, Bool.eq_iff_iff]; simp
  replace ea := Lib.hid ea
  replace eb := Lib.hid eb
  replace ec := Lib.hid ec
  replace eD := Lib.hid eD
  cases x0
  · skip
    have ev := Lib.hid (show (decide (numsL a = numsL b) && decide (a.id = b.id) && decide (a.own = b.own) && decide (dampL a = dampL b) && decide (a.P = b.P) && decide (a.S = b.S) && decide (a.V.map VipV.w = b.V.map VipV.w)) = false by rw [ea.out]; rfl)
    -- region 1: 0 1C 2 3C 4 5 6 7 8 9 10 11 12 13 14 15 16 17 18 19 20 21 22 23 24 25 26
    try refine wp_region_noPanic ?_
    refine wp_region_lat (by kernel_rfl) ?_
    (refine lat_now 0 (by rfl) ?_ (by kernel_rfl) (fun _ _ _ h => h) ?_ ?_; rotate_left; (focus (intro wq hSw; refine exec_load_blk (x := .tmp 2) ?_ ?_ (h2.below hSw h2.lt) _ Tryz.underlying29 rfl (by kernel_rfl) <;> rfl)); simp only [Act.put, List.setIfInBounds_toArray, List.set_cons_zero, List.set_cons_succ])
    (refine lat_now 2 (by rfl) ?_ (by kernel_rfl) (fun _ _ _ h => h) ?_ ?_; rotate_left; (focus (intro wq hSw; refine exec_load_blk (x := .tmp 3) ?_ ?_ (h3.below hSw h3.lt) _ Tryz.underlying29 rfl (by kernel_rfl) <;> rfl)); simp only [Act.put, List.setIfInBounds_toArray, List.set_cons_zero, List.set_cons_succ])
    (refine lat_late 1 (by rfl) (.agg #[.int .i64 a.as_, .int .i64 a.rise, .int .i64 a.fall, .int .i64 a.every, .int .i64 a.pat, .int .i64 a.room, .int .i64 a.idle, .int .i64 a.queue, .int .i64 a.ttl]) (by kernel_rfl) (fun _ _ _ h => h) (fun wq hSw => ⟨_, _, ?_, nums_any wq a⟩) ?_; focus (go_simp; try with_reducible rfl; done); try simp only [Act.put, List.setIfInBounds_toArray, List.set_cons_zero, List.set_cons_succ])
    (refine lat_late 3 (by rfl) (.agg #[.int .i64 b.as_, .int .i64 b.rise, .int .i64 b.fall, .int .i64 b.every, .int .i64 b.pat, .int .i64 b.room, .int .i64 b.idle, .int .i64 b.queue, .int .i64 b.ttl]) (by kernel_rfl) (fun _ _ _ h => h) (fun wq hSw => ⟨_, _, ?_, nums_any wq b⟩) ?_; focus (go_simp; try with_reducible rfl; done); try simp only [Act.put, List.setIfInBounds_toArray, List.set_cons_zero, List.set_cons_succ])
    (refine lat_now 4 (by rfl) ?_ (by kernel_rfl) (fun _ _ _ h => h) ?_ ?_; rotate_left; (focus (intro wq hSw; have hrd : ∀ b o, b < w1.heap.size → wq.cell? ⟨b, o, none⟩ = w1.cell? ⟨b, o, none⟩ := (fun b o h => Below.cell hSw (p := ⟨b, o, none⟩) h); go_simp; try with_reducible rfl; done)); try simp only [Act.put, List.setIfInBounds_toArray, List.set_cons_zero, List.set_cons_succ])
    (refine lat_now 5 (by rfl) ?_ (by kernel_rfl) (fun _ _ _ h => h) ?_ ?_; rotate_left; (focus (intro wq hSw; have hrd : ∀ b o, b < w1.heap.size → wq.cell? ⟨b, o, none⟩ = w1.cell? ⟨b, o, none⟩ := (fun b o h => Below.cell hSw (p := ⟨b, o, none⟩) h); go_simp; try with_reducible rfl; done)); try simp only [Act.put, List.setIfInBounds_toArray, List.set_cons_zero, List.set_cons_succ])
    (refine lat_skip 6 (by rfl) (by kernel_rfl) (fun _ _ _ h => h) ?_; try simp only [Act.put, List.setIfInBounds_toArray, List.set_cons_zero, List.set_cons_succ])
    (refine lat_skip 7 (by rfl) (by kernel_rfl) (fun _ _ _ h => h) ?_; try simp only [Act.put, List.setIfInBounds_toArray, List.set_cons_zero, List.set_cons_succ])
    (refine lat_skip 8 (by rfl) (by kernel_rfl) (fun _ _ _ h => h) ?_; try simp only [Act.put, List.setIfInBounds_toArray, List.set_cons_zero, List.set_cons_succ])
    (refine lat_skip 9 (by rfl) (by kernel_rfl) (fun _ _ _ h => h) ?_; try simp only [Act.put, List.setIfInBounds_toArray, List.set_cons_zero, List.set_cons_succ])
    (refine lat_skip 10 (by rfl) (by kernel_rfl) (fun _ _ _ h => h) ?_; try simp only [Act.put, List.setIfInBounds_toArray, List.set_cons_zero, List.set_cons_succ])
    (refine lat_now 11 (by rfl) ?_ (by kernel_rfl) (fun _ _ _ h => h) ?_ ?_; rotate_left; (focus (intro wq hSw; have hrd : ∀ b o, b < w1.heap.size → wq.cell? ⟨b, o, none⟩ = w1.cell? ⟨b, o, none⟩ := (fun b o h => Below.cell hSw (p := ⟨b, o, none⟩) h); go_simp; try with_reducible rfl; done)); try simp only [Act.put, List.setIfInBounds_toArray, List.set_cons_zero, List.set_cons_succ])
    (refine lat_now 12 (by rfl) ?_ (by kernel_rfl) (fun _ _ _ h => h) ?_ ?_; rotate_left; (focus (intro wq hSw; have hrd : ∀ b o, b < w1.heap.size → wq.cell? ⟨b, o, none⟩ = w1.cell? ⟨b, o, none⟩ := (fun b o h => Below.cell hSw (p := ⟨b, o, none⟩) h); go_simp; try with_reducible rfl; done)); try simp only [Act.put, List.setIfInBounds_toArray, List.set_cons_zero, List.set_cons_succ])
    (refine lat_skip 13 (by rfl) (by kernel_rfl) (fun _ _ _ h => h) ?_; try simp only [Act.put, List.setIfInBounds_toArray, List.set_cons_zero, List.set_cons_succ])
    (refine lat_skip 14 (by rfl) (by kernel_rfl) (fun _ _ _ h => h) ?_; try simp only [Act.put, List.setIfInBounds_toArray, List.set_cons_zero, List.set_cons_succ])
    (refine lat_skip 15 (by rfl) (by kernel_rfl) (fun _ _ _ h => h) ?_; try simp only [Act.put, List.setIfInBounds_toArray, List.set_cons_zero, List.set_cons_succ])
    (refine lat_skip 16 (by rfl) (by kernel_rfl) (fun _ _ _ h => h) ?_; try simp only [Act.put, List.setIfInBounds_toArray, List.set_cons_zero, List.set_cons_succ])
    (refine lat_skip 17 (by rfl) (by kernel_rfl) (fun _ _ _ h => h) ?_; try simp only [Act.put, List.setIfInBounds_toArray, List.set_cons_zero, List.set_cons_succ])
    (refine lat_now 18 (by rfl) ?_ (by kernel_rfl) (fun _ _ _ h => h) ?_ ?_; rotate_left; (focus (intro wq hSw; have hrd : ∀ b o, b < w1.heap.size → wq.cell? ⟨b, o, none⟩ = w1.cell? ⟨b, o, none⟩ := (fun b o h => Below.cell hSw (p := ⟨b, o, none⟩) h); go_simp; try with_reducible rfl; done)); try simp only [Act.put, List.setIfInBounds_toArray, List.set_cons_zero, List.set_cons_succ])
    (refine lat_now 19 (by rfl) ?_ (by kernel_rfl) (fun _ _ _ h => h) ?_ ?_; rotate_left; (focus (intro wq hSw; have hrd : ∀ b o, b < w1.heap.size → wq.cell? ⟨b, o, none⟩ = w1.cell? ⟨b, o, none⟩ := (fun b o h => Below.cell hSw (p := ⟨b, o, none⟩) h); go_simp; try with_reducible rfl; done)); try simp only [Act.put, List.setIfInBounds_toArray, List.set_cons_zero, List.set_cons_succ])
    (refine lat_skip 20 (by rfl) (by kernel_rfl) (fun _ _ _ h => h) ?_; try simp only [Act.put, List.setIfInBounds_toArray, List.set_cons_zero, List.set_cons_succ])
    (refine lat_skip 21 (by rfl) (by kernel_rfl) (fun _ _ _ h => h) ?_; try simp only [Act.put, List.setIfInBounds_toArray, List.set_cons_zero, List.set_cons_succ])
    (refine lat_skip 22 (by rfl) (by kernel_rfl) (fun _ _ _ h => h) ?_; try simp only [Act.put, List.setIfInBounds_toArray, List.set_cons_zero, List.set_cons_succ])
    (refine lat_skip 23 (by rfl) (by kernel_rfl) (fun _ _ _ h => h) ?_; try simp only [Act.put, List.setIfInBounds_toArray, List.set_cons_zero, List.set_cons_succ])
    (refine lat_skip 24 (by rfl) (by kernel_rfl) (fun _ _ _ h => h) ?_; try simp only [Act.put, List.setIfInBounds_toArray, List.set_cons_zero, List.set_cons_succ])
    (refine lat_now 25 (by rfl) ?_ (by kernel_rfl) (fun _ _ _ h => h) ?_ ?_; rotate_left; (focus (intro wq hSw; have hrd : ∀ b o, b < w1.heap.size → wq.cell? ⟨b, o, none⟩ = w1.cell? ⟨b, o, none⟩ := (fun b o h => Below.cell hSw (p := ⟨b, o, none⟩) h); go_simp; try with_reducible rfl; done)); try simp only [Act.put, List.setIfInBounds_toArray, List.set_cons_zero, List.set_cons_succ])
    (refine lat_now 26 (by rfl) ?_ (by kernel_rfl) (fun _ _ _ h => h) ?_ ?_; rotate_left; (focus (intro wq hSw; have hrd : ∀ b o, b < w1.heap.size → wq.cell? ⟨b, o, none⟩ = w1.cell? ⟨b, o, none⟩ := (fun b o h => Below.cell hSw (p := ⟨b, o, none⟩) h); go_simp; try with_reducible rfl; done)); try simp only [Act.put, List.setIfInBounds_toArray, List.set_cons_zero, List.set_cons_succ])
    refine lat_done (by kernel_rfl) (fun wz hz => ?_) _
    try refine NoPanic.normal ?_
    go_wp2_with fail
    go_ret
    exact ⟨ret_bool ev.out.symm, hB.trans (hz.mono hz1)⟩
  cases x1
  · skip
    have ev := Lib.hid (show (decide (numsL a = numsL b) && decide (a.id = b.id) && decide (a.own = b.own) && decide (dampL a = dampL b) && decide (a.P = b.P) && decide (a.S = b.S) && decide (a.V.map VipV.w = b.V.map VipV.w)) = false by rw [ea.out, eb.out]; rfl)
    -- region 1: 0 1C 2 3C 4 5 6 7 8 9 10 11 12 13 14 15 16 17 18 19 20 21 22 23 24 25 26
    try refine wp_region_noPanic ?_
    refine wp_region_lat (by kernel_rfl) ?_
    (refine lat_now 0 (by rfl) ?_ (by kernel_rfl) (fun _ _ _ h => h) ?_ ?_; rotate_left; (focus (intro wq hSw; refine exec_load_blk (x := .tmp 2) ?_ ?_ (h2.below hSw h2.lt) _ Tryz.underlying29 rfl (by kernel_rfl) <;> rfl)); simp only [Act.put, List.setIfInBounds_toArray, List.set_cons_zero, List.set_cons_succ])
    (refine lat_now 2 (by rfl) ?_ (by kernel_rfl) (fun _ _ _ h => h) ?_ ?_; rotate_left; (focus (intro wq hSw; refine exec_load_blk (x := .tmp 3) ?_ ?_ (h3.below hSw h3.lt) _ Tryz.underlying29 rfl (by kernel_rfl) <;> rfl)); simp only [Act.put, List.setIfInBounds_toArray, List.set_cons_zero, List.set_cons_succ])
    (refine lat_late 1 (by rfl) (.agg #[.int .i64 a.as_, .int .i64 a.rise, .int .i64 a.fall, .int .i64 a.every, .int .i64 a.pat, .int .i64 a.room, .int .i64 a.idle, .int .i64 a.queue, .int .i64 a.ttl]) (by kernel_rfl) (fun _ _ _ h => h) (fun wq hSw => ⟨_, _, ?_, nums_any wq a⟩) ?_; focus (go_simp; try with_reducible rfl; done); try simp only [Act.put, List.setIfInBounds_toArray, List.set_cons_zero, List.set_cons_succ])
    (refine lat_late 3 (by rfl) (.agg #[.int .i64 b.as_, .int .i64 b.rise, .int .i64 b.fall, .int .i64 b.every, .int .i64 b.pat, .int .i64 b.room, .int .i64 b.idle, .int .i64 b.queue, .int .i64 b.ttl]) (by kernel_rfl) (fun _ _ _ h => h) (fun wq hSw => ⟨_, _, ?_, nums_any wq b⟩) ?_; focus (go_simp; try with_reducible rfl; done); try simp only [Act.put, List.setIfInBounds_toArray, List.set_cons_zero, List.set_cons_succ])
    (refine lat_now 4 (by rfl) ?_ (by kernel_rfl) (fun _ _ _ h => h) ?_ ?_; rotate_left; (focus (intro wq hSw; have hrd : ∀ b o, b < w1.heap.size → wq.cell? ⟨b, o, none⟩ = w1.cell? ⟨b, o, none⟩ := (fun b o h => Below.cell hSw (p := ⟨b, o, none⟩) h); go_simp; try with_reducible rfl; done)); try simp only [Act.put, List.setIfInBounds_toArray, List.set_cons_zero, List.set_cons_succ])
    (refine lat_now 5 (by rfl) ?_ (by kernel_rfl) (fun _ _ _ h => h) ?_ ?_; rotate_left; (focus (intro wq hSw; have hrd : ∀ b o, b < w1.heap.size → wq.cell? ⟨b, o, none⟩ = w1.cell? ⟨b, o, none⟩ := (fun b o h => Below.cell hSw (p := ⟨b, o, none⟩) h); go_simp; try with_reducible rfl; done)); try simp only [Act.put, List.setIfInBounds_toArray, List.set_cons_zero, List.set_cons_succ])
    (refine lat_now 6 (by rfl) ?_ (by kernel_rfl) (fun _ _ _ h => h) ?_ ?_; rotate_left; (focus (intro wq hSw; have hrd : ∀ b o, b < w1.heap.size → wq.cell? ⟨b, o, none⟩ = w1.cell? ⟨b, o, none⟩ := (fun b o h => Below.cell hSw (p := ⟨b, o, none⟩) h); go_simp; try with_reducible rfl; done)); try simp only [Act.put, List.setIfInBounds_toArray, List.set_cons_zero, List.set_cons_succ])
    (refine lat_now 7 (by rfl) ?_ (by kernel_rfl) (fun _ _ _ h => h) ?_ ?_; rotate_left; (focus (intro wq hSw; have hrd : ∀ b o, b < w1.heap.size → wq.cell? ⟨b, o, none⟩ = w1.cell? ⟨b, o, none⟩ := (fun b o h => Below.cell hSw (p := ⟨b, o, none⟩) h); go_simp; try with_reducible rfl; done)); try simp only [Act.put, List.setIfInBounds_toArray, List.set_cons_zero, List.set_cons_succ])
    (refine lat_now 8 (by rfl) ?_ (by kernel_rfl) (fun _ _ _ h => h) ?_ ?_; rotate_left; (focus (intro wq hSw; have hrd : ∀ b o, b < w1.heap.size → wq.cell? ⟨b, o, none⟩ = w1.cell? ⟨b, o, none⟩ := (fun b o h => Below.cell hSw (p := ⟨b, o, none⟩) h); go_simp; try with_reducible rfl; done)); try simp only [Act.put, List.setIfInBounds_toArray, List.set_cons_zero, List.set_cons_succ])
    (refine lat_now 9 (by rfl) ?_ (by kernel_rfl) (fun _ _ _ h => h) ?_ ?_; rotate_left; (focus (intro wq hSw; have hrd : ∀ b o, b < w1.heap.size → wq.cell? ⟨b, o, none⟩ = w1.cell? ⟨b, o, none⟩ := (fun b o h => Below.cell hSw (p := ⟨b, o, none⟩) h); go_simp; try with_reducible rfl; done)); try simp only [Act.put, List.setIfInBounds_toArray, List.set_cons_zero, List.set_cons_succ])
    (refine lat_now 10 (by rfl) ?_ (by kernel_rfl) (fun _ _ _ h => h) ?_ ?_; rotate_left; (focus (intro wq hSw; have hrd : ∀ b o, b < w1.heap.size → wq.cell? ⟨b, o, none⟩ = w1.cell? ⟨b, o, none⟩ := (fun b o h => Below.cell hSw (p := ⟨b, o, none⟩) h); go_simp; try with_reducible rfl; done)); try simp only [Act.put, List.setIfInBounds_toArray, List.set_cons_zero, List.set_cons_succ])
    (refine lat_now 11 (by rfl) ?_ (by kernel_rfl) (fun _ _ _ h => h) ?_ ?_; rotate_left; (focus (intro wq hSw; have hrd : ∀ b o, b < w1.heap.size → wq.cell? ⟨b, o, none⟩ = w1.cell? ⟨b, o, none⟩ := (fun b o h => Below.cell hSw (p := ⟨b, o, none⟩) h); go_simp; try with_reducible rfl; done)); try simp only [Act.put, List.setIfInBounds_toArray, List.set_cons_zero, List.set_cons_succ])
    (refine lat_now 12 (by rfl) ?_ (by kernel_rfl) (fun _ _ _ h => h) ?_ ?_; rotate_left; (focus (intro wq hSw; have hrd : ∀ b o, b < w1.heap.size → wq.cell? ⟨b, o, none⟩ = w1.cell? ⟨b, o, none⟩ := (fun b o h => Below.cell hSw (p := ⟨b, o, none⟩) h); go_simp; try with_reducible rfl; done)); try simp only [Act.put, List.setIfInBounds_toArray, List.set_cons_zero, List.set_cons_succ])
    (refine lat_skip 13 (by rfl) (by kernel_rfl) (fun _ _ _ h => h) ?_; try simp only [Act.put, List.setIfInBounds_toArray, List.set_cons_zero, List.set_cons_succ])
    (refine lat_skip 14 (by rfl) (by kernel_rfl) (fun _ _ _ h => h) ?_; try simp only [Act.put, List.setIfInBounds_toArray, List.set_cons_zero, List.set_cons_succ])
    (refine lat_skip 15 (by rfl) (by kernel_rfl) (fun _ _ _ h => h) ?_; try simp only [Act.put, List.setIfInBounds_toArray, List.set_cons_zero, List.set_cons_succ])
    (refine lat_skip 16 (by rfl) (by kernel_rfl) (fun _ _ _ h => h) ?_; try simp only [Act.put, List.setIfInBounds_toArray, List.set_cons_zero, List.set_cons_succ])
    (refine lat_skip 17 (by rfl) (by kernel_rfl) (fun _ _ _ h => h) ?_; try simp only [Act.put, List.setIfInBounds_toArray, List.set_cons_zero, List.set_cons_succ])
    (refine lat_now 18 (by rfl) ?_ (by kernel_rfl) (fun _ _ _ h => h) ?_ ?_; rotate_left; (focus (intro wq hSw; have hrd : ∀ b o, b < w1.heap.size → wq.cell? ⟨b, o, none⟩ = w1.cell? ⟨b, o, none⟩ := (fun b o h => Below.cell hSw (p := ⟨b, o, none⟩) h); go_simp; try with_reducible rfl; done)); try simp only [Act.put, List.setIfInBounds_toArray, List.set_cons_zero, List.set_cons_succ])
    (refine lat_now 19 (by rfl) ?_ (by kernel_rfl) (fun _ _ _ h => h) ?_ ?_; rotate_left; (focus (intro wq hSw; have hrd : ∀ b o, b < w1.heap.size → wq.cell? ⟨b, o, none⟩ = w1.cell? ⟨b, o, none⟩ := (fun b o h => Below.cell hSw (p := ⟨b, o, none⟩) h); go_simp; try with_reducible rfl; done)); try simp only [Act.put, List.setIfInBounds_toArray, List.set_cons_zero, List.set_cons_succ])
    (refine lat_skip 20 (by rfl) (by kernel_rfl) (fun _ _ _ h => h) ?_; try simp only [Act.put, List.setIfInBounds_toArray, List.set_cons_zero, List.set_cons_succ])
    (refine lat_skip 21 (by rfl) (by kernel_rfl) (fun _ _ _ h => h) ?_; try simp only [Act.put, List.setIfInBounds_toArray, List.set_cons_zero, List.set_cons_succ])
    (refine lat_skip 22 (by rfl) (by kernel_rfl) (fun _ _ _ h => h) ?_; try simp only [Act.put, List.setIfInBounds_toArray, List.set_cons_zero, List.set_cons_succ])
    (refine lat_skip 23 (by rfl) (by kernel_rfl) (fun _ _ _ h => h) ?_; try simp only [Act.put, List.setIfInBounds_toArray, List.set_cons_zero, List.set_cons_succ])
    (refine lat_skip 24 (by rfl) (by kernel_rfl) (fun _ _ _ h => h) ?_; try simp only [Act.put, List.setIfInBounds_toArray, List.set_cons_zero, List.set_cons_succ])
    (refine lat_now 25 (by rfl) ?_ (by kernel_rfl) (fun _ _ _ h => h) ?_ ?_; rotate_left; (focus (intro wq hSw; have hrd : ∀ b o, b < w1.heap.size → wq.cell? ⟨b, o, none⟩ = w1.cell? ⟨b, o, none⟩ := (fun b o h => Below.cell hSw (p := ⟨b, o, none⟩) h); go_simp; try with_reducible rfl; done)); try simp only [Act.put, List.setIfInBounds_toArray, List.set_cons_zero, List.set_cons_succ])
    (refine lat_now 26 (by rfl) ?_ (by kernel_rfl) (fun _ _ _ h => h) ?_ ?_; rotate_left; (focus (intro wq hSw; have hrd : ∀ b o, b < w1.heap.size → wq.cell? ⟨b, o, none⟩ = w1.cell? ⟨b, o, none⟩ := (fun b o h => Below.cell hSw (p := ⟨b, o, none⟩) h); go_simp; try with_reducible rfl; done)); try simp only [Act.put, List.setIfInBounds_toArray, List.set_cons_zero, List.set_cons_succ])
    refine lat_done (by kernel_rfl) (fun wz hz => ?_) _
    try refine NoPanic.normal ?_
    go_wp2_with fail
    go_ret
    exact ⟨ret_bool ev.out.symm, hB.trans (hz.mono hz1)⟩
  cases x2
  · skip
    have ev := Lib.hid (show (decide (numsL a = numsL b) && decide (a.id = b.id) && decide (a.own = b.own) && decide (dampL a = dampL b) && decide (a.P = b.P) && decide (a.S = b.S) && decide (a.V.map VipV.w = b.V.map VipV.w)) = false by rw [ea.out, eb.out, ec.out]; rfl)
    -- region 1: 0 1C 2 3C 4 5 6 7 8 9 10 11 12 13 14 15 16 17 18 19 20 21 22 23 24 25 26
    try refine wp_region_noPanic ?_
    refine wp_region_lat (by kernel_rfl) ?_
    (refine lat_now 0 (by rfl) ?_ (by kernel_rfl) (fun _ _ _ h => h) ?_ ?_; rotate_left; (focus (intro wq hSw; refine exec_load_blk (x := .tmp 2) ?_ ?_ (h2.below hSw h2.lt) _ Tryz.underlying29 rfl (by kernel_rfl) <;> rfl)); simp only [Act.put, List.setIfInBounds_toArray, List.set_cons_zero, List.set_cons_succ])
    (refine lat_now 2 (by rfl) ?_ (by kernel_rfl) (fun _ _ _ h => h) ?_ ?_; rotate_left; (focus (intro wq hSw; refine exec_load_blk (x := .tmp 3) ?_ ?_ (h3.below hSw h3.lt) _ Tryz.underlying29 rfl (by kernel_rfl) <;> rfl)); simp only [Act.put, List.setIfInBounds_toArray, List.set_cons_zero, List.set_cons_succ])
    (refine lat_late 1 (by rfl) (.agg #[.int .i64 a.as_, .int .i64 a.rise, .int .i64 a.fall, .int .i64 a.every, .int .i64 a.pat, .int .i64 a.room, .int .i64 a.idle, .int .i64 a.queue, .int .i64 a.ttl]) (by kernel_rfl) (fun _ _ _ h => h) (fun wq hSw => ⟨_, _, ?_, nums_any wq a⟩) ?_; focus (go_simp; try with_reducible rfl; done); try simp only [Act.put, List.setIfInBounds_toArray, List.set_cons_zero, List.set_cons_succ])
    (refine lat_late 3 (by rfl) (.agg #[.int .i64 b.as_, .int .i64 b.rise, .int .i64 b.fall, .int .i64 b.every, .int .i64 b.pat, .int .i64 b.room, .int .i64 b.idle, .int .i64 b.queue, .int .i64 b.ttl]) (by kernel_rfl) (fun _ _ _ h => h) (fun wq hSw => ⟨_, _, ?_, nums_any wq b⟩) ?_; focus (go_simp; try with_reducible rfl; done); try simp only [Act.put, List.setIfInBounds_toArray, List.set_cons_zero, List.set_cons_succ])
    (refine lat_now 4 (by rfl) ?_ (by kernel_rfl) (fun _ _ _ h => h) ?_ ?_; rotate_left; (focus (intro wq hSw; have hrd : ∀ b o, b < w1.heap.size → wq.cell? ⟨b, o, none⟩ = w1.cell? ⟨b, o, none⟩ := (fun b o h => Below.cell hSw (p := ⟨b, o, none⟩) h); go_simp; try with_reducible rfl; done)); try simp only [Act.put, List.setIfInBounds_toArray, List.set_cons_zero, List.set_cons_succ])
    (refine lat_now 5 (by rfl) ?_ (by kernel_rfl) (fun _ _ _ h => h) ?_ ?_; rotate_left; (focus (intro wq hSw; have hrd : ∀ b o, b < w1.heap.size → wq.cell? ⟨b, o, none⟩ = w1.cell? ⟨b, o, none⟩ := (fun b o h => Below.cell hSw (p := ⟨b, o, none⟩) h); go_simp; try with_reducible rfl; done)); try simp only [Act.put, List.setIfInBounds_toArray, List.set_cons_zero, List.set_cons_succ])
    (refine lat_now 6 (by rfl) ?_ (by kernel_rfl) (fun _ _ _ h => h) ?_ ?_; rotate_left; (focus (intro wq hSw; have hrd : ∀ b o, b < w1.heap.size → wq.cell? ⟨b, o, none⟩ = w1.cell? ⟨b, o, none⟩ := (fun b o h => Below.cell hSw (p := ⟨b, o, none⟩) h); go_simp; try with_reducible rfl; done)); try simp only [Act.put, List.setIfInBounds_toArray, List.set_cons_zero, List.set_cons_succ])
    (refine lat_now 7 (by rfl) ?_ (by kernel_rfl) (fun _ _ _ h => h) ?_ ?_; rotate_left; (focus (intro wq hSw; have hrd : ∀ b o, b < w1.heap.size → wq.cell? ⟨b, o, none⟩ = w1.cell? ⟨b, o, none⟩ := (fun b o h => Below.cell hSw (p := ⟨b, o, none⟩) h); go_simp; try with_reducible rfl; done)); try simp only [Act.put, List.setIfInBounds_toArray, List.set_cons_zero, List.set_cons_succ])
    (refine lat_now 8 (by rfl) ?_ (by kernel_rfl) (fun _ _ _ h => h) ?_ ?_; rotate_left; (focus (intro wq hSw; have hrd : ∀ b o, b < w1.heap.size → wq.cell? ⟨b, o, none⟩ = w1.cell? ⟨b, o, none⟩ := (fun b o h => Below.cell hSw (p := ⟨b, o, none⟩) h); go_simp; try with_reducible rfl; done)); try simp only [Act.put, List.setIfInBounds_toArray, List.set_cons_zero, List.set_cons_succ])
    (refine lat_now 9 (by rfl) ?_ (by kernel_rfl) (fun _ _ _ h => h) ?_ ?_; rotate_left; (focus (intro wq hSw; have hrd : ∀ b o, b < w1.heap.size → wq.cell? ⟨b, o, none⟩ = w1.cell? ⟨b, o, none⟩ := (fun b o h => Below.cell hSw (p := ⟨b, o, none⟩) h); go_simp; try with_reducible rfl; done)); try simp only [Act.put, List.setIfInBounds_toArray, List.set_cons_zero, List.set_cons_succ])
    (refine lat_now 10 (by rfl) ?_ (by kernel_rfl) (fun _ _ _ h => h) ?_ ?_; rotate_left; (focus (intro wq hSw; have hrd : ∀ b o, b < w1.heap.size → wq.cell? ⟨b, o, none⟩ = w1.cell? ⟨b, o, none⟩ := (fun b o h => Below.cell hSw (p := ⟨b, o, none⟩) h); go_simp; try with_reducible rfl; done)); try simp only [Act.put, List.setIfInBounds_toArray, List.set_cons_zero, List.set_cons_succ])
    (refine lat_now 11 (by rfl) ?_ (by kernel_rfl) (fun _ _ _ h => h) ?_ ?_; rotate_left; (focus (intro wq hSw; have hrd : ∀ b o, b < w1.heap.size → wq.cell? ⟨b, o, none⟩ = w1.cell? ⟨b, o, none⟩ := (fun b o h => Below.cell hSw (p := ⟨b, o, none⟩) h); go_simp; try with_reducible rfl; done)); try simp only [Act.put, List.setIfInBounds_toArray, List.set_cons_zero, List.set_cons_succ])
    (refine lat_now 12 (by rfl) ?_ (by kernel_rfl) (fun _ _ _ h => h) ?_ ?_; rotate_left; (focus (intro wq hSw; have hrd : ∀ b o, b < w1.heap.size → wq.cell? ⟨b, o, none⟩ = w1.cell? ⟨b, o, none⟩ := (fun b o h => Below.cell hSw (p := ⟨b, o, none⟩) h); go_simp; try with_reducible rfl; done)); try simp only [Act.put, List.setIfInBounds_toArray, List.set_cons_zero, List.set_cons_succ])
    (refine lat_now 13 (by rfl) ?_ (by kernel_rfl) (fun _ _ _ h => h) ?_ ?_; rotate_left; (focus (intro wq hSw; have hrd : ∀ b o, b < w1.heap.size → wq.cell? ⟨b, o, none⟩ = w1.cell? ⟨b, o, none⟩ := (fun b o h => Below.cell hSw (p := ⟨b, o, none⟩) h); go_simp; try with_reducible rfl; done)); try simp only [Act.put, List.setIfInBounds_toArray, List.set_cons_zero, List.set_cons_succ])
    (refine lat_now 14 (by rfl) ?_ (by kernel_rfl) (fun _ _ _ h => h) ?_ ?_; rotate_left; (focus (intro wq hSw; have hrd : ∀ b o, b < w1.heap.size → wq.cell? ⟨b, o, none⟩ = w1.cell? ⟨b, o, none⟩ := (fun b o h => Below.cell hSw (p := ⟨b, o, none⟩) h); go_simp; try with_reducible rfl; done)); try simp only [Act.put, List.setIfInBounds_toArray, List.set_cons_zero, List.set_cons_succ])
    (refine lat_now 15 (by rfl) ?_ (by kernel_rfl) (fun _ _ _ h => h) ?_ ?_; rotate_left; (focus (intro wq hSw; have hrd : ∀ b o, b < w1.heap.size → wq.cell? ⟨b, o, none⟩ = w1.cell? ⟨b, o, none⟩ := (fun b o h => Below.cell hSw (p := ⟨b, o, none⟩) h); go_simp; try with_reducible rfl; done)); try simp only [Act.put, List.setIfInBounds_toArray, List.set_cons_zero, List.set_cons_succ])
    (refine lat_now 16 (by rfl) ?_ (by kernel_rfl) (fun _ _ _ h => h) ?_ ?_; rotate_left; (focus (intro wq hSw; have hrd : ∀ b o, b < w1.heap.size → wq.cell? ⟨b, o, none⟩ = w1.cell? ⟨b, o, none⟩ := (fun b o h => Below.cell hSw (p := ⟨b, o, none⟩) h); go_simp; try with_reducible rfl; done)); try simp only [Act.put, List.setIfInBounds_toArray, List.set_cons_zero, List.set_cons_succ])
    (refine lat_now 17 (by rfl) ?_ (by kernel_rfl) (fun _ _ _ h => h) ?_ ?_; rotate_left; (focus (intro wq hSw; have hrd : ∀ b o, b < w1.heap.size → wq.cell? ⟨b, o, none⟩ = w1.cell? ⟨b, o, none⟩ := (fun b o h => Below.cell hSw (p := ⟨b, o, none⟩) h); go_simp; try with_reducible rfl; done)); try simp only [Act.put, List.setIfInBounds_toArray, List.set_cons_zero, List.set_cons_succ])
    (refine lat_now 18 (by rfl) ?_ (by kernel_rfl) (fun _ _ _ h => h) ?_ ?_; rotate_left; (focus (intro wq hSw; have hrd : ∀ b o, b < w1.heap.size → wq.cell? ⟨b, o, none⟩ = w1.cell? ⟨b, o, none⟩ := (fun b o h => Below.cell hSw (p := ⟨b, o, none⟩) h); go_simp; try with_reducible rfl; done)); try simp only [Act.put, List.setIfInBounds_toArray, List.set_cons_zero, List.set_cons_succ])
    (refine lat_now 19 (by rfl) ?_ (by kernel_rfl) (fun _ _ _ h => h) ?_ ?_; rotate_left; (focus (intro wq hSw; have hrd : ∀ b o, b < w1.heap.size → wq.cell? ⟨b, o, none⟩ = w1.cell? ⟨b, o, none⟩ := (fun b o h => Below.cell hSw (p := ⟨b, o, none⟩) h); go_simp; try with_reducible rfl; done)); try simp only [Act.put, List.setIfInBounds_toArray, List.set_cons_zero, List.set_cons_succ])
    (refine lat_skip 20 (by rfl) (by kernel_rfl) (fun _ _ _ h => h) ?_; try simp only [Act.put, List.setIfInBounds_toArray, List.set_cons_zero, List.set_cons_succ])
    (refine lat_skip 21 (by rfl) (by kernel_rfl) (fun _ _ _ h => h) ?_; try simp only [Act.put, List.setIfInBounds_toArray, List.set_cons_zero, List.set_cons_succ])
    (refine lat_skip 22 (by rfl) (by kernel_rfl) (fun _ _ _ h => h) ?_; try simp only [Act.put, List.setIfInBounds_toArray, List.set_cons_zero, List.set_cons_succ])
    (refine lat_skip 23 (by rfl) (by kernel_rfl) (fun _ _ _ h => h) ?_; try simp only [Act.put, List.setIfInBounds_toArray, List.set_cons_zero, List.set_cons_succ])
    (refine lat_skip 24 (by rfl) (by kernel_rfl) (fun _ _ _ h => h) ?_; try simp only [Act.put, List.setIfInBounds_toArray, List.set_cons_zero, List.set_cons_succ])
    (refine lat_now 25 (by rfl) ?_ (by kernel_rfl) (fun _ _ _ h => h) ?_ ?_; rotate_left; (focus (intro wq hSw; have hrd : ∀ b o, b < w1.heap.size → wq.cell? ⟨b, o, none⟩ = w1.cell? ⟨b, o, none⟩ := (fun b o h => Below.cell hSw (p := ⟨b, o, none⟩) h); go_simp; try with_reducible rfl; done)); try simp only [Act.put, List.setIfInBounds_toArray, List.set_cons_zero, List.set_cons_succ])
    (refine lat_now 26 (by rfl) ?_ (by kernel_rfl) (fun _ _ _ h => h) ?_ ?_; rotate_left; (focus (intro wq hSw; have hrd : ∀ b o, b < w1.heap.size → wq.cell? ⟨b, o, none⟩ = w1.cell? ⟨b, o, none⟩ := (fun b o h => Below.cell hSw (p := ⟨b, o, none⟩) h); go_simp; try with_reducible rfl; done)); try simp only [Act.put, List.setIfInBounds_toArray, List.set_cons_zero, List.set_cons_succ])
    refine lat_done (by kernel_rfl) (fun wz hz => ?_) _
    try refine NoPanic.normal ?_
    go_wp2_with fail
    go_ret
    exact ⟨ret_bool ev.out.symm, hB.trans (hz.mono hz1)⟩
  cases x3
  · skip
    have ev := Lib.hid (show (decide (numsL a = numsL b) && decide (a.id = b.id) && decide (a.own = b.own) && decide (dampL a = dampL b) && decide (a.P = b.P) && decide (a.S = b.S) && decide (a.V.map VipV.w = b.V.map VipV.w)) = false by rw [ea.out, eb.out, ec.out, eD.out]; rfl)
    -- region 1: 0 1C 2 3C 4 5 6 7 8 9 10 11 12 13 14 15 16 17 18 19 20 21 22 23 24 25 26
    try refine wp_region_noPanic ?_
    refine wp_region_lat (by kernel_rfl) ?_
    (refine lat_now 0 (by rfl) ?_ (by kernel_rfl) (fun _ _ _ h => h) ?_ ?_; rotate_left; (focus (intro wq hSw; refine exec_load_blk (x := .tmp 2) ?_ ?_ (h2.below hSw h2.lt) _ Tryz.underlying29 rfl (by kernel_rfl) <;> rfl)); simp only [Act.put, List.setIfInBounds_toArray, List.set_cons_zero, List.set_cons_succ])
    (refine lat_now 2 (by rfl) ?_ (by kernel_rfl) (fun _ _ _ h => h) ?_ ?_; rotate_left; (focus (intro wq hSw; refine exec_load_blk (x := .tmp 3) ?_ ?_ (h3.below hSw h3.lt) _ Tryz.underlying29 rfl (by kernel_rfl) <;> rfl)); simp only [Act.put, List.setIfInBounds_toArray, List.set_cons_zero, List.set_cons_succ])
    (refine lat_late 1 (by rfl) (.agg #[.int .i64 a.as_, .int .i64 a.rise, .int .i64 a.fall, .int .i64 a.every, .int .i64 a.pat, .int .i64 a.room, .int .i64 a.idle, .int .i64 a.queue, .int .i64 a.ttl]) (by kernel_rfl) (fun _ _ _ h => h) (fun wq hSw => ⟨_, _, ?_, nums_any wq a⟩) ?_; focus (go_simp; try with_reducible rfl; done); try simp only [Act.put, List.setIfInBounds_toArray, List.set_cons_zero, List.set_cons_succ])
    (refine lat_late 3 (by rfl) (.agg #[.int .i64 b.as_, .int .i64 b.rise, .int .i64 b.fall, .int .i64 b.every, .int .i64 b.pat, .int .i64 b.room, .int .i64 b.idle, .int .i64 b.queue, .int .i64 b.ttl]) (by kernel_rfl) (fun _ _ _ h => h) (fun wq hSw => ⟨_, _, ?_, nums_any wq b⟩) ?_; focus (go_simp; try with_reducible rfl; done); try simp only [Act.put, List.setIfInBounds_toArray, List.set_cons_zero, List.set_cons_succ])
    (refine lat_now 4 (by rfl) ?_ (by kernel_rfl) (fun _ _ _ h => h) ?_ ?_; rotate_left; (focus (intro wq hSw; have hrd : ∀ b o, b < w1.heap.size → wq.cell? ⟨b, o, none⟩ = w1.cell? ⟨b, o, none⟩ := (fun b o h => Below.cell hSw (p := ⟨b, o, none⟩) h); go_simp; try with_reducible rfl; done)); try simp only [Act.put, List.setIfInBounds_toArray, List.set_cons_zero, List.set_cons_succ])
    (refine lat_now 5 (by rfl) ?_ (by kernel_rfl) (fun _ _ _ h => h) ?_ ?_; rotate_left; (focus (intro wq hSw; have hrd : ∀ b o, b < w1.heap.size → wq.cell? ⟨b, o, none⟩ = w1.cell? ⟨b, o, none⟩ := (fun b o h => Below.cell hSw (p := ⟨b, o, none⟩) h); go_simp; try with_reducible rfl; done)); try simp only [Act.put, List.setIfInBounds_toArray, List.set_cons_zero, List.set_cons_succ])
    (refine lat_now 6 (by rfl) ?_ (by kernel_rfl) (fun _ _ _ h => h) ?_ ?_; rotate_left; (focus (intro wq hSw; have hrd : ∀ b o, b < w1.heap.size → wq.cell? ⟨b, o, none⟩ = w1.cell? ⟨b, o, none⟩ := (fun b o h => Below.cell hSw (p := ⟨b, o, none⟩) h); go_simp; try with_reducible rfl; done)); try simp only [Act.put, List.setIfInBounds_toArray, List.set_cons_zero, List.set_cons_succ])
    (refine lat_now 7 (by rfl) ?_ (by kernel_rfl) (fun _ _ _ h => h) ?_ ?_; rotate_left; (focus (intro wq hSw; have hrd : ∀ b o, b < w1.heap.size → wq.cell? ⟨b, o, none⟩ = w1.cell? ⟨b, o, none⟩ := (fun b o h => Below.cell hSw (p := ⟨b, o, none⟩) h); go_simp; try with_reducible rfl; done)); try simp only [Act.put, List.setIfInBounds_toArray, List.set_cons_zero, List.set_cons_succ])
    (refine lat_now 8 (by rfl) ?_ (by kernel_rfl) (fun _ _ _ h => h) ?_ ?_; rotate_left; (focus (intro wq hSw; have hrd : ∀ b o, b < w1.heap.size → wq.cell? ⟨b, o, none⟩ = w1.cell? ⟨b, o, none⟩ := (fun b o h => Below.cell hSw (p := ⟨b, o, none⟩) h); go_simp; try with_reducible rfl; done)); try simp only [Act.put, List.setIfInBounds_toArray, List.set_cons_zero, List.set_cons_succ])
    (refine lat_now 9 (by rfl) ?_ (by kernel_rfl) (fun _ _ _ h => h) ?_ ?_; rotate_left; (focus (intro wq hSw; have hrd : ∀ b o, b < w1.heap.size → wq.cell? ⟨b, o, none⟩ = w1.cell? ⟨b, o, none⟩ := (fun b o h => Below.cell hSw (p := ⟨b, o, none⟩) h); go_simp; try with_reducible rfl; done)); try simp only [Act.put, List.setIfInBounds_toArray, List.set_cons_zero, List.set_cons_succ])
    (refine lat_now 10 (by rfl) ?_ (by kernel_rfl) (fun _ _ _ h => h) ?_ ?_; rotate_left; (focus (intro wq hSw; have hrd : ∀ b o, b < w1.heap.size → wq.cell? ⟨b, o, none⟩ = w1.cell? ⟨b, o, none⟩ := (fun b o h => Below.cell hSw (p := ⟨b, o, none⟩) h); go_simp; try with_reducible rfl; done)); try simp only [Act.put, List.setIfInBounds_toArray, List.set_cons_zero, List.set_cons_succ])
    (refine lat_now 11 (by rfl) ?_ (by kernel_rfl) (fun _ _ _ h => h) ?_ ?_; rotate_left; (focus (intro wq hSw; have hrd : ∀ b o, b < w1.heap.size → wq.cell? ⟨b, o, none⟩ = w1.cell? ⟨b, o, none⟩ := (fun b o h => Below.cell hSw (p := ⟨b, o, none⟩) h); go_simp; try with_reducible rfl; done)); try simp only [Act.put, List.setIfInBounds_toArray, List.set_cons_zero, List.set_cons_succ])
    (refine lat_now 12 (by rfl) ?_ (by kernel_rfl) (fun _ _ _ h => h) ?_ ?_; rotate_left; (focus (intro wq hSw; have hrd : ∀ b o, b < w1.heap.size → wq.cell? ⟨b, o, none⟩ = w1.cell? ⟨b, o, none⟩ := (fun b o h => Below.cell hSw (p := ⟨b, o, none⟩) h); go_simp; try with_reducible rfl; done)); try simp only [Act.put, List.setIfInBounds_toArray, List.set_cons_zero, List.set_cons_succ])
    (refine lat_now 13 (by rfl) ?_ (by kernel_rfl) (fun _ _ _ h => h) ?_ ?_; rotate_left; (focus (intro wq hSw; have hrd : ∀ b o, b < w1.heap.size → wq.cell? ⟨b, o, none⟩ = w1.cell? ⟨b, o, none⟩ := (fun b o h => Below.cell hSw (p := ⟨b, o, none⟩) h); go_simp; try with_reducible rfl; done)); try simp only [Act.put, List.setIfInBounds_toArray, List.set_cons_zero, List.set_cons_succ])
    (refine lat_now 14 (by rfl) ?_ (by kernel_rfl) (fun _ _ _ h => h) ?_ ?_; rotate_left; (focus (intro wq hSw; have hrd : ∀ b o, b < w1.heap.size → wq.cell? ⟨b, o, none⟩ = w1.cell? ⟨b, o, none⟩ := (fun b o h => Below.cell hSw (p := ⟨b, o, none⟩) h); go_simp; try with_reducible rfl; done)); try simp only [Act.put, List.setIfInBounds_toArray, List.set_cons_zero, List.set_cons_succ])
    (refine lat_now 15 (by rfl) ?_ (by kernel_rfl) (fun _ _ _ h => h) ?_ ?_; rotate_left; (focus (intro wq hSw; have hrd : ∀ b o, b < w1.heap.size → wq.cell? ⟨b, o, none⟩ = w1.cell? ⟨b, o, none⟩ := (fun b o h => Below.cell hSw (p := ⟨b, o, none⟩) h); go_simp; try with_reducible rfl; done)); try simp only [Act.put, List.setIfInBounds_toArray, List.set_cons_zero, List.set_cons_succ])
    (refine lat_now 16 (by rfl) ?_ (by kernel_rfl) (fun _ _ _ h => h) ?_ ?_; rotate_left; (focus (intro wq hSw; have hrd : ∀ b o, b < w1.heap.size → wq.cell? ⟨b, o, none⟩ = w1.cell? ⟨b, o, none⟩ := (fun b o h => Below.cell hSw (p := ⟨b, o, none⟩) h); go_simp; try with_reducible rfl; done)); try simp only [Act.put, List.setIfInBounds_toArray, List.set_cons_zero, List.set_cons_succ])
    (refine lat_now 17 (by rfl) ?_ (by kernel_rfl) (fun _ _ _ h => h) ?_ ?_; rotate_left; (focus (intro wq hSw; have hrd : ∀ b o, b < w1.heap.size → wq.cell? ⟨b, o, none⟩ = w1.cell? ⟨b, o, none⟩ := (fun b o h => Below.cell hSw (p := ⟨b, o, none⟩) h); go_simp; try with_reducible rfl; done)); try simp only [Act.put, List.setIfInBounds_toArray, List.set_cons_zero, List.set_cons_succ])
    (refine lat_now 18 (by rfl) ?_ (by kernel_rfl) (fun _ _ _ h => h) ?_ ?_; rotate_left; (focus (intro wq hSw; have hrd : ∀ b o, b < w1.heap.size → wq.cell? ⟨b, o, none⟩ = w1.cell? ⟨b, o, none⟩ := (fun b o h => Below.cell hSw (p := ⟨b, o, none⟩) h); go_simp; try with_reducible rfl; done)); try simp only [Act.put, List.setIfInBounds_toArray, List.set_cons_zero, List.set_cons_succ])
    (refine lat_now 19 (by rfl) ?_ (by kernel_rfl) (fun _ _ _ h => h) ?_ ?_; rotate_left; (focus (intro wq hSw; have hrd : ∀ b o, b < w1.heap.size → wq.cell? ⟨b, o, none⟩ = w1.cell? ⟨b, o, none⟩ := (fun b o h => Below.cell hSw (p := ⟨b, o, none⟩) h); go_simp; try with_reducible rfl; done)); try simp only [Act.put, List.setIfInBounds_toArray, List.set_cons_zero, List.set_cons_succ])
    (refine lat_now 20 (by rfl) ?_ (by kernel_rfl) (fun _ _ _ h => h) ?_ ?_; rotate_left; (focus (intro wq hSw; have hrd : ∀ b o, b < w1.heap.size → wq.cell? ⟨b, o, none⟩ = w1.cell? ⟨b, o, none⟩ := (fun b o h => Below.cell hSw (p := ⟨b, o, none⟩) h); go_simp; try with_reducible rfl; done)); try simp only [Act.put, List.setIfInBounds_toArray, List.set_cons_zero, List.set_cons_succ])
    (refine lat_now 21 (by rfl) ?_ (by kernel_rfl) (fun _ _ _ h => h) ?_ ?_; rotate_left; (focus (intro wq hSw; have hrd : ∀ b o, b < w1.heap.size → wq.cell? ⟨b, o, none⟩ = w1.cell? ⟨b, o, none⟩ := (fun b o h => Below.cell hSw (p := ⟨b, o, none⟩) h); go_simp; try with_reducible rfl; done)); try simp only [Act.put, List.setIfInBounds_toArray, List.set_cons_zero, List.set_cons_succ])
    (refine lat_now 22 (by rfl) ?_ (by kernel_rfl) (fun _ _ _ h => h) ?_ ?_; rotate_left; (focus (intro wq hSw; have hrd : ∀ b o, b < w1.heap.size → wq.cell? ⟨b, o, none⟩ = w1.cell? ⟨b, o, none⟩ := (fun b o h => Below.cell hSw (p := ⟨b, o, none⟩) h); go_simp; try with_reducible rfl; done)); try simp only [Act.put, List.setIfInBounds_toArray, List.set_cons_zero, List.set_cons_succ])
    (refine lat_now 23 (by rfl) ?_ (by kernel_rfl) (fun _ _ _ h => h) ?_ ?_; rotate_left; (focus (intro wq hSw; have hrd : ∀ b o, b < w1.heap.size → wq.cell? ⟨b, o, none⟩ = w1.cell? ⟨b, o, none⟩ := (fun b o h => Below.cell hSw (p := ⟨b, o, none⟩) h); go_simp; try with_reducible rfl; done)); try simp only [Act.put, List.setIfInBounds_toArray, List.set_cons_zero, List.set_cons_succ])
    (refine lat_now 24 (by rfl) ?_ (by kernel_rfl) (fun _ _ _ h => h) ?_ ?_; rotate_left; (focus (intro wq hSw; have hrd : ∀ b o, b < w1.heap.size → wq.cell? ⟨b, o, none⟩ = w1.cell? ⟨b, o, none⟩ := (fun b o h => Below.cell hSw (p := ⟨b, o, none⟩) h); go_simp; try with_reducible rfl; done)); try simp only [Act.put, List.setIfInBounds_toArray, List.set_cons_zero, List.set_cons_succ])
    (refine lat_now 25 (by rfl) ?_ (by kernel_rfl) (fun _ _ _ h => h) ?_ ?_; rotate_left; (focus (intro wq hSw; have hrd : ∀ b o, b < w1.heap.size → wq.cell? ⟨b, o, none⟩ = w1.cell? ⟨b, o, none⟩ := (fun b o h => Below.cell hSw (p := ⟨b, o, none⟩) h); go_simp; try with_reducible rfl; done)); try simp only [Act.put, List.setIfInBounds_toArray, List.set_cons_zero, List.set_cons_succ])
    (refine lat_now 26 (by rfl) ?_ (by kernel_rfl) (fun _ _ _ h => h) ?_ ?_; rotate_left; (focus (intro wq hSw; have hrd : ∀ b o, b < w1.heap.size → wq.cell? ⟨b, o, none⟩ = w1.cell? ⟨b, o, none⟩ := (fun b o h => Below.cell hSw (p := ⟨b, o, none⟩) h); go_simp; try with_reducible rfl; done)); try simp only [Act.put, List.setIfInBounds_toArray, List.set_cons_zero, List.set_cons_succ])
    refine lat_done (by kernel_rfl) (fun wz hz => ?_) _
    try refine NoPanic.normal ?_
    go_wp2_with fail
    go_ret
    exact ⟨ret_bool ev.out.symm, hB.trans (hz.mono hz1)⟩
  have ev := Lib.hid (show (decide (numsL a = numsL b) && decide (a.id = b.id) && decide (a.own = b.own) && decide (dampL a = dampL b) && decide (a.P = b.P) && decide (a.S = b.S) && decide (a.V.map VipV.w = b.V.map VipV.w)) = (decide (a.P = b.P) && decide (a.S = b.S) && decide (a.V.map VipV.w = b.V.map VipV.w)) by rw [ea.out, eb.out, ec.out, eD.out]; rfl)
  -- region 1: 0 1C 2 3C 4 5 6 7 8 9 10 11 12 13 14 15 16 17 18 19 20 21 22 23 24 25 26
  try refine wp_region_noPanic ?_
  refine wp_region_lat (by kernel_rfl) ?_
  (refine lat_now 0 (by rfl) ?_ (by kernel_rfl) (fun _ _ _ h => h) ?_ ?_; rotate_left; (focus (intro wq hSw; refine exec_load_blk (x := .tmp 2) ?_ ?_ (h2.below hSw h2.lt) _ Tryz.underlying29 rfl (by kernel_rfl) <;> rfl)); simp only [Act.put, List.setIfInBounds_toArray, List.set_cons_zero, List.set_cons_succ])
  (refine lat_now 2 (by rfl) ?_ (by kernel_rfl) (fun _ _ _ h => h) ?_ ?_; rotate_left; (focus (intro wq hSw; refine exec_load_blk (x := .tmp 3) ?_ ?_ (h3.below hSw h3.lt) _ Tryz.underlying29 rfl (by kernel_rfl) <;> rfl)); simp only [Act.put, List.setIfInBounds_toArray, List.set_cons_zero, List.set_cons_succ])
  (refine lat_late 1 (by rfl) (.agg #[.int .i64 a.as_, .int .i64 a.rise, .int .i64 a.fall, .int .i64 a.every, .int .i64 a.pat, .int .i64 a.room, .int .i64 a.idle, .int .i64 a.queue, .int .i64 a.ttl]) (by kernel_rfl) (fun _ _ _ h => h) (fun wq hSw => ⟨_, _, ?_, nums_any wq a⟩) ?_; focus (go_simp; try with_reducible rfl; done); try simp only [Act.put, List.setIfInBounds_toArray, List.set_cons_zero, List.set_cons_succ])
  (refine lat_late 3 (by rfl) (.agg #[.int .i64 b.as_, .int .i64 b.rise, .int .i64 b.fall, .int .i64 b.every, .int .i64 b.pat, .int .i64 b.room, .int .i64 b.idle, .int .i64 b.queue, .int .i64 b.ttl]) (by kernel_rfl) (fun _ _ _ h => h) (fun wq hSw => ⟨_, _, ?_, nums_any wq b⟩) ?_; focus (go_simp; try with_reducible rfl; done); try simp only [Act.put, List.setIfInBounds_toArray, List.set_cons_zero, List.set_cons_succ])
  (refine lat_now 4 (by rfl) ?_ (by kernel_rfl) (fun _ _ _ h => h) ?_ ?_; rotate_left; (focus (intro wq hSw; have hrd : ∀ b o, b < w1.heap.size → wq.cell? ⟨b, o, none⟩ = w1.cell? ⟨b, o, none⟩ := (fun b o h => Below.cell hSw (p := ⟨b, o, none⟩) h); go_simp; try with_reducible rfl; done)); try simp only [Act.put, List.setIfInBounds_toArray, List.set_cons_zero, List.set_cons_succ])
  (refine lat_now 5 (by rfl) ?_ (by kernel_rfl) (fun _ _ _ h => h) ?_ ?_; rotate_left; (focus (intro wq hSw; have hrd : ∀ b o, b < w1.heap.size → wq.cell? ⟨b, o, none⟩ = w1.cell? ⟨b, o, none⟩ := (fun b o h => Below.cell hSw (p := ⟨b, o, none⟩) h); go_simp; try with_reducible rfl; done)); try simp only [Act.put, List.setIfInBounds_toArray, List.set_cons_zero, List.set_cons_succ])
  (refine lat_now 6 (by rfl) ?_ (by kernel_rfl) (fun _ _ _ h => h) ?_ ?_; rotate_left; (focus (intro wq hSw; have hrd : ∀ b o, b < w1.heap.size → wq.cell? ⟨b, o, none⟩ = w1.cell? ⟨b, o, none⟩ := (fun b o h => Below.cell hSw (p := ⟨b, o, none⟩) h); go_simp; try with_reducible rfl; done)); try simp only [Act.put, List.setIfInBounds_toArray, List.set_cons_zero, List.set_cons_succ])
  (refine lat_now 7 (by rfl) ?_ (by kernel_rfl) (fun _ _ _ h => h) ?_ ?_; rotate_left; (focus (intro wq hSw; have hrd : ∀ b o, b < w1.heap.size → wq.cell? ⟨b, o, none⟩ = w1.cell? ⟨b, o, none⟩ := (fun b o h => Below.cell hSw (p := ⟨b, o, none⟩) h); go_simp; try with_reducible rfl; done)); try simp only [Act.put, List.setIfInBounds_toArray, List.set_cons_zero, List.set_cons_succ])
  (refine lat_now 8 (by rfl) ?_ (by kernel_rfl) (fun _ _ _ h => h) ?_ ?_; rotate_left; (focus (intro wq hSw; have hrd : ∀ b o, b < w1.heap.size → wq.cell? ⟨b, o, none⟩ = w1.cell? ⟨b, o, none⟩ := (fun b o h => Below.cell hSw (p := ⟨b, o, none⟩) h); go_simp; try with_reducible rfl; done)); try simp only [Act.put, List.setIfInBounds_toArray, List.set_cons_zero, List.set_cons_succ])
  (refine lat_now 9 (by rfl) ?_ (by kernel_rfl) (fun _ _ _ h => h) ?_ ?_; rotate_left; (focus (intro wq hSw; have hrd : ∀ b o, b < w1.heap.size → wq.cell? ⟨b, o, none⟩ = w1.cell? ⟨b, o, none⟩ := (fun b o h => Below.cell hSw (p := ⟨b, o, none⟩) h); go_simp; try with_reducible rfl; done)); try simp only [Act.put, List.setIfInBounds_toArray, List.set_cons_zero, List.set_cons_succ])
  (refine lat_now 10 (by rfl) ?_ (by kernel_rfl) (fun _ _ _ h => h) ?_ ?_; rotate_left; (focus (intro wq hSw; have hrd : ∀ b o, b < w1.heap.size → wq.cell? ⟨b, o, none⟩ = w1.cell? ⟨b, o, none⟩ := (fun b o h => Below.cell hSw (p := ⟨b, o, none⟩) h); go_simp; try with_reducible rfl; done)); try simp only [Act.put, List.setIfInBounds_toArray, List.set_cons_zero, List.set_cons_succ])
  (refine lat_now 11 (by rfl) ?_ (by kernel_rfl) (fun _ _ _ h => h) ?_ ?_; rotate_left; (focus (intro wq hSw; have hrd : ∀ b o, b < w1.heap.size → wq.cell? ⟨b, o, none⟩ = w1.cell? ⟨b, o, none⟩ := (fun b o h => Below.cell hSw (p := ⟨b, o, none⟩) h); go_simp; try with_reducible rfl; done)); try simp only [Act.put, List.setIfInBounds_toArray, List.set_cons_zero, List.set_cons_succ])
  (refine lat_now 12 (by rfl) ?_ (by kernel_rfl) (fun _ _ _ h => h) ?_ ?_; rotate_left; (focus (intro wq hSw; have hrd : ∀ b o, b < w1.heap.size → wq.cell? ⟨b, o, none⟩ = w1.cell? ⟨b, o, none⟩ := (fun b o h => Below.cell hSw (p := ⟨b, o, none⟩) h); go_simp; try with_reducible rfl; done)); try simp only [Act.put, List.setIfInBounds_toArray, List.set_cons_zero, List.set_cons_succ])
  (refine lat_now 13 (by rfl) ?_ (by kernel_rfl) (fun _ _ _ h => h) ?_ ?_; rotate_left; (focus (intro wq hSw; have hrd : ∀ b o, b < w1.heap.size → wq.cell? ⟨b, o, none⟩ = w1.cell? ⟨b, o, none⟩ := (fun b o h => Below.cell hSw (p := ⟨b, o, none⟩) h); go_simp; try with_reducible rfl; done)); try simp only [Act.put, List.setIfInBounds_toArray, List.set_cons_zero, List.set_cons_succ])
  (refine lat_now 14 (by rfl) ?_ (by kernel_rfl) (fun _ _ _ h => h) ?_ ?_; rotate_left; (focus (intro wq hSw; have hrd : ∀ b o, b < w1.heap.size → wq.cell? ⟨b, o, none⟩ = w1.cell? ⟨b, o, none⟩ := (fun b o h => Below.cell hSw (p := ⟨b, o, none⟩) h); go_simp; try with_reducible rfl; done)); try simp only [Act.put, List.setIfInBounds_toArray, List.set_cons_zero, List.set_cons_succ])
  (refine lat_now 15 (by rfl) ?_ (by kernel_rfl) (fun _ _ _ h => h) ?_ ?_; rotate_left; (focus (intro wq hSw; have hrd : ∀ b o, b < w1.heap.size → wq.cell? ⟨b, o, none⟩ = w1.cell? ⟨b, o, none⟩ := (fun b o h => Below.cell hSw (p := ⟨b, o, none⟩) h); go_simp; try with_reducible rfl; done)); try simp only [Act.put, List.setIfInBounds_toArray, List.set_cons_zero, List.set_cons_succ])
  (refine lat_now 16 (by rfl) ?_ (by kernel_rfl) (fun _ _ _ h => h) ?_ ?_; rotate_left; (focus (intro wq hSw; have hrd : ∀ b o, b < w1.heap.size → wq.cell? ⟨b, o, none⟩ = w1.cell? ⟨b, o, none⟩ := (fun b o h => Below.cell hSw (p := ⟨b, o, none⟩) h); go_simp; try with_reducible rfl; done)); try simp only [Act.put, List.setIfInBounds_toArray, List.set_cons_zero, List.set_cons_succ])
  (refine lat_now 17 (by rfl) ?_ (by kernel_rfl) (fun _ _ _ h => h) ?_ ?_; rotate_left; (focus (intro wq hSw; have hrd : ∀ b o, b < w1.heap.size → wq.cell? ⟨b, o, none⟩ = w1.cell? ⟨b, o, none⟩ := (fun b o h => Below.cell hSw (p := ⟨b, o, none⟩) h); go_simp; try with_reducible rfl; done)); try simp only [Act.put, List.setIfInBounds_toArray, List.set_cons_zero, List.set_cons_succ])
  (refine lat_now 18 (by rfl) ?_ (by kernel_rfl) (fun _ _ _ h => h) ?_ ?_; rotate_left; (focus (intro wq hSw; have hrd : ∀ b o, b < w1.heap.size → wq.cell? ⟨b, o, none⟩ = w1.cell? ⟨b, o, none⟩ := (fun b o h => Below.cell hSw (p := ⟨b, o, none⟩) h); go_simp; try with_reducible rfl; done)); try simp only [Act.put, List.setIfInBounds_toArray, List.set_cons_zero, List.set_cons_succ])
  (refine lat_now 19 (by rfl) ?_ (by kernel_rfl) (fun _ _ _ h => h) ?_ ?_; rotate_left; (focus (intro wq hSw; have hrd : ∀ b o, b < w1.heap.size → wq.cell? ⟨b, o, none⟩ = w1.cell? ⟨b, o, none⟩ := (fun b o h => Below.cell hSw (p := ⟨b, o, none⟩) h); go_simp; try with_reducible rfl; done)); try simp only [Act.put, List.setIfInBounds_toArray, List.set_cons_zero, List.set_cons_succ])
  (refine lat_now 20 (by rfl) ?_ (by kernel_rfl) (fun _ _ _ h => h) ?_ ?_; rotate_left; (focus (intro wq hSw; have hrd : ∀ b o, b < w1.heap.size → wq.cell? ⟨b, o, none⟩ = w1.cell? ⟨b, o, none⟩ := (fun b o h => Below.cell hSw (p := ⟨b, o, none⟩) h); go_simp; try with_reducible rfl; done)); try simp only [Act.put, List.setIfInBounds_toArray, List.set_cons_zero, List.set_cons_succ])
  (refine lat_now 21 (by rfl) ?_ (by kernel_rfl) (fun _ _ _ h => h) ?_ ?_; rotate_left; (focus (intro wq hSw; have hrd : ∀ b o, b < w1.heap.size → wq.cell? ⟨b, o, none⟩ = w1.cell? ⟨b, o, none⟩ := (fun b o h => Below.cell hSw (p := ⟨b, o, none⟩) h); go_simp; try with_reducible rfl; done)); try simp only [Act.put, List.setIfInBounds_toArray, List.set_cons_zero, List.set_cons_succ])
  (refine lat_now 22 (by rfl) ?_ (by kernel_rfl) (fun _ _ _ h => h) ?_ ?_; rotate_left; (focus (intro wq hSw; have hrd : ∀ b o, b < w1.heap.size → wq.cell? ⟨b, o, none⟩ = w1.cell? ⟨b, o, none⟩ := (fun b o h => Below.cell hSw (p := ⟨b, o, none⟩) h); go_simp; try with_reducible rfl; done)); try simp only [Act.put, List.setIfInBounds_toArray, List.set_cons_zero, List.set_cons_succ])
  (refine lat_now 23 (by rfl) ?_ (by kernel_rfl) (fun _ _ _ h => h) ?_ ?_; rotate_left; (focus (intro wq hSw; have hrd : ∀ b o, b < w1.heap.size → wq.cell? ⟨b, o, none⟩ = w1.cell? ⟨b, o, none⟩ := (fun b o h => Below.cell hSw (p := ⟨b, o, none⟩) h); go_simp; try with_reducible rfl; done)); try simp only [Act.put, List.setIfInBounds_toArray, List.set_cons_zero, List.set_cons_succ])
  (refine lat_now 24 (by rfl) ?_ (by kernel_rfl) (fun _ _ _ h => h) ?_ ?_; rotate_left; (focus (intro wq hSw; have hrd : ∀ b o, b < w1.heap.size → wq.cell? ⟨b, o, none⟩ = w1.cell? ⟨b, o, none⟩ := (fun b o h => Below.cell hSw (p := ⟨b, o, none⟩) h); go_simp; try with_reducible rfl; done)); try simp only [Act.put, List.setIfInBounds_toArray, List.set_cons_zero, List.set_cons_succ])
  (refine lat_now 25 (by rfl) ?_ (by kernel_rfl) (fun _ _ _ h => h) ?_ ?_; rotate_left; (focus (intro wq hSw; have hrd : ∀ b o, b < w1.heap.size → wq.cell? ⟨b, o, none⟩ = w1.cell? ⟨b, o, none⟩ := (fun b o h => Below.cell hSw (p := ⟨b, o, none⟩) h); go_simp; try with_reducible rfl; done)); try simp only [Act.put, List.setIfInBounds_toArray, List.set_cons_zero, List.set_cons_succ])
  (refine lat_now 26 (by rfl) ?_ (by kernel_rfl) (fun _ _ _ h => h) ?_ ?_; rotate_left; (focus (intro wq hSw; have hrd : ∀ b o, b < w1.heap.size → wq.cell? ⟨b, o, none⟩ = w1.cell? ⟨b, o, none⟩ := (fun b o h => Below.cell hSw (p := ⟨b, o, none⟩) h); go_simp; try with_reducible rfl; done)); try simp only [Act.put, List.setIfInBounds_toArray, List.set_cons_zero, List.set_cons_succ])
  refine lat_done (by kernel_rfl) (fun wz hz => ?_) _
  try refine NoPanic.normal ?_
  clear a1 b1 a2 b2 l2 l3 en ed ei eo a13 b13 a14 b14 a15 b15 a16 b16 a17 b17
  replace hA := hA.nx hz
  replace hBb := hBb.nx hz
  replace hB := hB.trans (hz.mono hz1)
  replace h2 := h2.below hz h2.lt
  replace h3 := h3.below hz h3.lt
  clear hz
  have q3 : wz.cell? ⟨w.heap.size, 3, none⟩ = some (.slice a.pA a.pn a.pc) := h2.cellv 3 rfl
  have p3 : wz.cell? ⟨g3, 3, none⟩ = some (.slice b.pA b.pn b.pc) := h3.cellv 3 rfl
  have q4 : wz.cell? ⟨w.heap.size, 4, none⟩ = some (.slice a.vA a.vn a.vc) := h2.cellv 4 rfl
  have p4 : wz.cell? ⟨g3, 4, none⟩ = some (.slice b.vA b.vn b.vc) := h3.cellv 4 rfl
  have q5 : wz.cell? ⟨w.heap.size, 5, none⟩ = some (.slice a.sA a.sn a.sc) := h2.cellv 5 rfl
  have p5 : wz.cell? ⟨g3, 5, none⟩ = some (.slice b.sA b.sn b.sc) := h3.cellv 5 rfl
  have l2 := h2.lt
  have l3 := h3.lt
  go_wp2_with fail
  refine (eqPC_any wz _ _ a.pA a.pn a.pc a.P b.pA b.pn b.pc b.P hA.peers hBb.peers (fun _ q => q) (fun _ q => q) (by omega)).mono ?_
  rintro e m0 ⟨rfl, hb0⟩
  clear q3 p3 q4 p4 q5 p5 l2 l3
  replace h2 := h2.below hb0 h2.lt
  replace h3 := h3.below hb0 h3.lt
  replace hA := hA.nx hb0
  replace hBb := hBb.nx hb0
  replace hB := hB.trans (hb0.mono hB.size)
  clear hb0
  generalize ey0 : decide (a.P = b.P) = y0
  replace ey0 := Lib.hid ey0
  cases y0
  · have ez := Lib.hid (show (decide (a.P = b.P) && decide (a.S = b.S) && decide (a.V.map VipV.w = b.V.map VipV.w)) = false by rw [ey0.out]; rfl)
    go_wp2_with fail
    go_ret
    exact ⟨ret_bool (ez.out.symm.trans ev.out.symm), hB⟩
  have q3 : m0.cell? ⟨w.heap.size, 3, none⟩ = some (.slice a.pA a.pn a.pc) := h2.cellv 3 rfl
  have p3 : m0.cell? ⟨g3, 3, none⟩ = some (.slice b.pA b.pn b.pc) := h3.cellv 3 rfl
  have q4 : m0.cell? ⟨w.heap.size, 4, none⟩ = some (.slice a.vA a.vn a.vc) := h2.cellv 4 rfl
  have p4 : m0.cell? ⟨g3, 4, none⟩ = some (.slice b.vA b.vn b.vc) := h3.cellv 4 rfl
  have q5 : m0.cell? ⟨w.heap.size, 5, none⟩ = some (.slice a.sA a.sn a.sc) := h2.cellv 5 rfl
  have p5 : m0.cell? ⟨g3, 5, none⟩ = some (.slice b.sA b.sn b.sc) := h3.cellv 5 rfl
  have l2 := h2.lt
  have l3 := h3.lt
  go_wp2_with fail
  refine (eqSC_any m0 _ _ a.sA a.sn a.sc a.S b.sA b.sn b.sc b.S hA.sites hBb.sites (fun _ q => q) (fun _ q => q) (by omega)).mono ?_
  rintro e m1 ⟨rfl, hb1⟩
  clear q3 p3 q4 p4 q5 p5 l2 l3
  replace h2 := h2.below hb1 h2.lt
  replace h3 := h3.below hb1 h3.lt
  replace hA := hA.nx hb1
  replace hBb := hBb.nx hb1
  replace hB := hB.trans (hb1.mono hB.size)
  clear hb1
  generalize ey1 : decide (a.S = b.S) = y1
  replace ey1 := Lib.hid ey1
  cases y1
  · have ez := Lib.hid (show (decide (a.P = b.P) && decide (a.S = b.S) && decide (a.V.map VipV.w = b.V.map VipV.w)) = false by rw [ey0.out, ey1.out]; rfl)
    go_wp2_with fail
    go_ret
    exact ⟨ret_bool (ez.out.symm.trans ev.out.symm), hB⟩
  have q3 : m1.cell? ⟨w.heap.size, 3, none⟩ = some (.slice a.pA a.pn a.pc) := h2.cellv 3 rfl
  have p3 : m1.cell? ⟨g3, 3, none⟩ = some (.slice b.pA b.pn b.pc) := h3.cellv 3 rfl
  have q4 : m1.cell? ⟨w.heap.size, 4, none⟩ = some (.slice a.vA a.vn a.vc) := h2.cellv 4 rfl
  have p4 : m1.cell? ⟨g3, 4, none⟩ = some (.slice b.vA b.vn b.vc) := h3.cellv 4 rfl
  have q5 : m1.cell? ⟨w.heap.size, 5, none⟩ = some (.slice a.sA a.sn a.sc) := h2.cellv 5 rfl
  have p5 : m1.cell? ⟨g3, 5, none⟩ = some (.slice b.sA b.sn b.sc) := h3.cellv 5 rfl
  have l2 := h2.lt
  have l3 := h3.lt
  go_wp2_with fail
  refine (equalV_any m1 a.vA b.vA a.vn a.vc b.vn b.vc a.V b.V hA.vips hBb.vips (by omega) (fun x hx => Nat.le_trans (hbn x hx) (by omega))).mono ?_
  rintro e m2 ⟨rfl, hb2⟩
  clear q3 p3 q4 p4 q5 p5 l2 l3
  have ez := Lib.hid (show (decide (a.P = b.P) && decide (a.S = b.S) && decide (a.V.map VipV.w = b.V.map VipV.w)) = decide (a.V.map VipV.w = b.V.map VipV.w) by rw [ey0.out, ey1.out]; rfl)
  go_wp2_with fail
  go_ret
  exact ⟨ret_bool (ez.out.symm.trans ev.out.symm), hB.trans (hb2.mono hB.size)⟩
end Go.Proofs.YtecmhakapomepaaGreat
