import Derived.Test.YtecmhakapomepaaGreatMConfigForms20
/- config: plain: a configuration in the document's form. -/
namespace Go.Proofs.YtecmhakapomepaaGreat
set_option linter.unusedVariables false
open Go Go.RowKit Go.Maps

/-- vips as cells alone. -/
def vipT : RK VipV where
  size := 3
  cel := vipC
  ok _ _ _ := True
  pos := by omega
  len _ := rfl
  one _ u hu := by simp [vipC] at hu; rcases hu with rfl | rfl | rfl <;> rfl
  keep _ _ := trivial
  more _ _ := trivial
theorem vip_ofT {w : World} {S : Nat → Prop} {A : Option Addr} {n : Nat} {L : List VipV} (h : Seen vipT w S A n L) (hok : ∀ a ∈ L, vipK.ok w S a) : Seen vipK w S A n L := ⟨h.1, hok, h.2.2⟩
theorem peerE_ok : ElemOk Tryz.prog 36 80 peerK.size 56 (.agg #[.int .i64 0, .int .i64 0, .int .i64 0, .int .i64 0, .int .i64 0, .int .i64 0, .int .i64 0]) := ⟨Tryz.underlying36, by kernel_rfl, rfl, peerK.pos⟩
theorem vipE_ok : ElemOk Tryz.prog 37 81 vipT.size 40 (.agg #[.int .u32 0, .int .i64 0, .slice none 0 0]) := ⟨Tryz.underlying37, by kernel_rfl, rfl, vipT.pos⟩
theorem siteE_ok : ElemOk Tryz.prog 38 82 siteK.size 24 (.agg #[.int .i64 0, .int .u32 0, .int .i64 0]) := ⟨Tryz.underlying38, by kernel_rfl, rfl, siteK.pos⟩
/-- the configuration with other rows. -/
def outC (c : CfgV) (v3 v4 v5 : Value) : Array Value := #[.int .i64 c.as_, .int .u32 c.id, .int .u32 c.own, v3, v4, v5, .int .i64 c.rise, .int .i64 c.fall, .int .i64 c.every, .int .i64 c.pat, .int .i64 c.room, .int .i64 c.idle, .int .i64 c.queue, .int .i64 c.dF, .int .i64 c.dS, .int .i64 c.dR, .int .i64 c.dC, .int .i64 c.dH, .int .i64 c.ttl]
/-- c' is c in other memory. -/
def Again (c c' : CfgV) : Prop := ∃ A3 c3 A4 c4 A5 c5, c' = { c with pA := A3, pc := c3, vA := A4, vc := c4, sA := A5, sc := c5 }
set_option maxRecDepth 100000 in
set_option maxHeartbeats 16000000 in
theorem plain_any (w : World) (c : CfgV) (h : CfgIn w c) (hs : CfgSm c) : Calls Tryz.prog 10 #[.agg (cfgC c)] w fun e w' => ∃ c', e = .returned (.agg (cfgC c')) ∧ Again c c' ∧ CfgIn w' c' ∧ Below w.heap.size w w' := by
  have hB := ((Below.refl w.heap.size w).alloc (Nat.le_refl _) (.cells (cfgC c) 29)).alloc (by simp) (.cells #[.int .i64 0, .int .u32 0, .int .u32 0, .slice none 0 0, .slice none 0 0, .slice none 0 0, .int .i64 0, .int .i64 0, .int .i64 0, .int .i64 0, .int .i64 0, .int .i64 0, .int .i64 0, .int .i64 0, .int .i64 0, .int .i64 0, .int .i64 0, .int .i64 0, .int .i64 0] 41)
  have hq := (Blk.new w 29 (cfgC c)).alloc (.cells #[.int .i64 0, .int .u32 0, .int .u32 0, .slice none 0 0, .slice none 0 0, .slice none 0 0, .int .i64 0, .int .i64 0, .int .i64 0, .int .i64 0, .int .i64 0, .int .i64 0, .int .i64 0, .int .i64 0, .int .i64 0, .int .i64 0, .int .i64 0, .int .i64 0, .int .i64 0] 41)
  have hz := Blk.new (w.alloc (.cells (cfgC c) 29)) 41 #[.int .i64 0, .int .u32 0, .int .u32 0, .slice none 0 0, .slice none 0 0, .slice none 0 0, .int .i64 0, .int .i64 0, .int .i64 0, .int .i64 0, .int .i64 0, .int .i64 0, .int .i64 0, .int .i64 0, .int .i64 0, .int .i64 0, .int .i64 0, .int .i64 0, .int .i64 0]
  rw [World.size_alloc] at hz
  have hi : (Tryz.prog.info? 41).map (·.size) = some (#[.int .i64 0, .int .u32 0, .int .u32 0, .slice none 0 0, .slice none 0 0, .slice none 0 0, .int .i64 0, .int .i64 0, .int .i64 0, .int .i64 0, .int .i64 0, .int .i64 0, .int .i64 0, .int .i64 0, .int .i64 0, .int .i64 0, .int .i64 0, .int .i64 0, .int .i64 0] : Array Value).size := by kernel_rfl
  obtain ⟨A3, hA3⟩ : ∃ A, A = c.pA := ⟨_, rfl⟩
  obtain ⟨A4, hA4⟩ : ∃ A, A = c.vA := ⟨_, rfl⟩
  obtain ⟨A5, hA5⟩ : ∃ A, A = c.sA := ⟨_, rfl⟩
  have hS3 := h.peers
  have hS4 := h.vips
  have hS5 := h.sites
  rw [← hA3] at hS3
  rw [← hA4] at hS4
  rw [← hA5] at hS5
  go_enter Tryz.func10, Tryz.ntmps10
  go_upto_region 1 with (fail)
  generalize (w.alloc (.cells (cfgC c) 29)).alloc (.cells #[.int .i64 0, .int .u32 0, .int .u32 0, .slice none 0 0, .slice none 0 0, .slice none 0 0, .int .i64 0, .int .i64 0, .int .i64 0, .int .i64 0, .int .i64 0, .int .i64 0, .int .i64 0, .int .i64 0, .int .i64 0, .int .i64 0, .int .i64 0, .int .i64 0, .int .i64 0] 41) = w1 at *
  have q0 : w1.cell? ⟨w.heap.size, 0, none⟩ = some (.int .i64 c.as_) := hq.cellv 0 rfl
  have q1 : w1.cell? ⟨w.heap.size, 1, none⟩ = some (.int .u32 c.id) := hq.cellv 1 rfl
  have q2 : w1.cell? ⟨w.heap.size, 2, none⟩ = some (.int .u32 c.own) := hq.cellv 2 rfl
  have q6 : w1.cell? ⟨w.heap.size, 6, none⟩ = some (.int .i64 c.rise) := hq.cellv 6 rfl
  have q7 : w1.cell? ⟨w.heap.size, 7, none⟩ = some (.int .i64 c.fall) := hq.cellv 7 rfl
  have q8 : w1.cell? ⟨w.heap.size, 8, none⟩ = some (.int .i64 c.every) := hq.cellv 8 rfl
  have q9 : w1.cell? ⟨w.heap.size, 9, none⟩ = some (.int .i64 c.pat) := hq.cellv 9 rfl
  have q10 : w1.cell? ⟨w.heap.size, 10, none⟩ = some (.int .i64 c.room) := hq.cellv 10 rfl
  have q11 : w1.cell? ⟨w.heap.size, 11, none⟩ = some (.int .i64 c.idle) := hq.cellv 11 rfl
  have q12 : w1.cell? ⟨w.heap.size, 12, none⟩ = some (.int .i64 c.queue) := hq.cellv 12 rfl
  have q13 : w1.cell? ⟨w.heap.size, 13, none⟩ = some (.int .i64 c.dF) := hq.cellv 13 rfl
  have q14 : w1.cell? ⟨w.heap.size, 14, none⟩ = some (.int .i64 c.dS) := hq.cellv 14 rfl
  have q15 : w1.cell? ⟨w.heap.size, 15, none⟩ = some (.int .i64 c.dR) := hq.cellv 15 rfl
  have q16 : w1.cell? ⟨w.heap.size, 16, none⟩ = some (.int .i64 c.dC) := hq.cellv 16 rfl
  have q17 : w1.cell? ⟨w.heap.size, 17, none⟩ = some (.int .i64 c.dH) := hq.cellv 17 rfl
  have q18 : w1.cell? ⟨w.heap.size, 18, none⟩ = some (.int .i64 c.ttl) := hq.cellv 18 rfl
  have ql := hq.lt
  have zl := hz.lt
  have hbx := (Below.refl w1.heap.size w1).alloc (Nat.le_refl _) (.cells #[.int .i64 0, .int .u32 0, .int .u32 0, .slice none 0 0, .slice none 0 0, .slice none 0 0, .int .i64 0, .int .i64 0, .int .i64 0, .int .i64 0, .int .i64 0, .int .i64 0, .int .i64 0, .int .i64 0, .int .i64 0, .int .i64 0, .int .i64 0, .int .i64 0, .int .i64 0] 41)
  have hfr := Blk.new w1 41 #[.int .i64 0, .int .u32 0, .int .u32 0, .slice none 0 0, .slice none 0 0, .slice none 0 0, .int .i64 0, .int .i64 0, .int .i64 0, .int .i64 0, .int .i64 0, .int .i64 0, .int .i64 0, .int .i64 0, .int .i64 0, .int .i64 0, .int .i64 0, .int .i64 0, .int .i64 0]
  go_upto_region 2 with (refine wpList_store_blk rfl hfr 41 (.tmp 3) (.tmp 34) rfl rfl rfl rfl hi (by simp [Value.oneCell']) ?_; intro w2 ho hg2)
  have hbx2 := hbx.trans (Below.of_grown (B := w1.heap.size) hg2 (by simp) (Nat.le_refl _))
  replace hq := hq.below hbx2 ql
  replace hz := hz.below hbx2 zl
  have hz1 := hB.size
  have hgo1 := zl
  have hog : w1.heap.size < w2.heap.size := ho.lt
  replace hB := hB.trans (hbx2.mono hB.size)
  clear hbx hbx2 hg2 hfr q0 q1 q2 q6 q7 q8 q9 q10 q11 q12 q13 q14 q15 q16 q17 q18 ql zl
  generalize hgo : w1.heap.size = go at *
  clear hgo
  have hzB := hB.size
  replace hA3 := Lib.hid hA3
  replace hA4 := Lib.hid hA4
  replace hA5 := Lib.hid hA5
  have hP1 := Lib.hid h.peers.1
  have hV1 := Lib.hid h.vips.1
  have hT1 := Lib.hid h.sites.1
  have hsp := hs.p
  have hsv := hs.v
  have hss := hs.s
  obtain ⟨B3, hB3⟩ : ∃ B, B = w2.heap.size := ⟨_, rfl⟩
  have hzb3 : go < B3 := by rw [hB3]; exact ho.lt
  have q3 : w2.cell? ⟨w.heap.size, 3, none⟩ = some (.slice A3 c.pn c.pc) := by rw [hA3.out]; exact hq.cellv 3 rfl
  have ql := hq.lt
  go_upto_region 3 with (fail)
  clear q3 ql
  go_loopw [38] (fun i wr => ∃ (k : Nat) (v : Value), k ≤ c.pn ∧ i = .int .i64 (k : Int) ∧ Rows peerK wr B3 B3 80 v (c.P.take k) ∧ Blk wr go 41 (outC c (v) (.slice none 0 0) (.slice none 0 0)) ∧ Blk wr w.heap.size 29 (cfgC c) ∧ Blk wr (w.heap.size + 1) 41 #[.int .i64 0, .int .u32 0, .int .u32 0, .slice none 0 0, .slice none 0 0, .slice none 0 0, .int .i64 0, .int .i64 0, .int .i64 0, .int .i64 0, .int .i64 0, .int .i64 0, .int .i64 0, .int .i64 0, .int .i64 0, .int .i64 0, .int .i64 0, .int .i64 0, .int .i64 0] ∧ B3 ≤ wr.heap.size ∧ Below w.heap.size w wr) (fun i _ => c.pn - (intOf i).toNat)
  case atStart => exact ⟨0, _, Nat.zero_le _, rfl, Rows.nil _ _ _ _, ho, hq, hz, by omega, hB⟩
  case round =>
  clear ho hq hz hB
  obtain ⟨k, v, hk, rfl, hr, ho, hq, hz, hzw, hB⟩ := hrel
  by_cases hlt : k < c.pn
  · have hki : (k : Int) < c.pn := by omega
    have hk0 : (0 : Int) ≤ k := by omega
    have hk40 : (k : Int) ≤ 300 := by omega
    obtain ⟨b, off, p, e1, hb, hp, hok, r0, r1, r2, r3, r4, r5, r6⟩ := peer_cells (seen_nx hS3 hB) hlt
    subst e1
    have htk : c.P.take (k + 1) = c.P.take k ++ [p] := by rw [List.take_add_one, hp]; rfl
    have hlk : (c.P.take k).length = k := by rw [List.length_take]; have := hP1.out; omega
    have hbx := (Below.refl wr.heap.size wr).alloc (Nat.le_refl _) (.cells #[.int .i64 p.as_, .int .i64 p.hold, .int .i64 p.retry, .int .i64 p.gap, .int .i64 p.med, .int .i64 p.prep, .int .i64 p.back] 62)
    have h5 := Blk.new wr 62 #[.int .i64 p.as_, .int .i64 p.hold, .int .i64 p.retry, .int .i64 p.gap, .int .i64 p.med, .int .i64 p.prep, .int .i64 p.back]
    go_upto_region 5 with (fail)
    generalize wr.alloc (.cells #[.int .i64 p.as_, .int .i64 p.hold, .int .i64 p.retry, .int .i64 p.gap, .int .i64 p.med, .int .i64 p.prep, .int .i64 p.back] 62) = w3 at *
    replace hr := hr.below hbx
    replace ho := ho.below hbx ho.lt
    replace hq := hq.below hbx hq.lt
    replace hz := hz.below hbx hz.lt
    replace hB := hB.trans (hbx.mono hB.size)
    replace hzw := Nat.le_trans hzw hbx.size
    clear hb r0 r1 r2 r3 r4 r5 r6 hbx
    obtain ⟨Av, cv, ev, -, -, -⟩ := hr.seen (Nat.le_refl _)
    rw [hlk] at ev
    subst ev
    have hl4 : (c.P.take k ++ [p]).length = k + 1 := by rw [List.length_append, hlk]; rfl
    have hby := (Below.refl w3.heap.size w3).alloc (Nat.le_refl _) (.cells #[.int .i64 p.as_, .int .i64 p.hold, .int .i64 p.retry, .int .i64 p.gap, .int .i64 p.med, .int .i64 p.prep, .int .i64 p.back] 80)
    have hlit : Seen peerK (w3.alloc (.cells #[.int .i64 p.as_, .int .i64 p.hold, .int .i64 p.retry, .int .i64 p.gap, .int .i64 p.med, .int .i64 p.prep, .int .i64 p.back] 80)) (fun _ => True) (some ⟨w3.heap.size, 0, none⟩) 1 [p] := seen_one w3 80 p #[.int .i64 p.as_, .int .i64 p.hold, .int .i64 p.retry, .int .i64 p.gap, .int .i64 p.med, .int .i64 p.prep, .int .i64 p.back] rfl (S := fun _ => False) hok (fun _ h => h.elim) trivial (fun _ h => h.elim)
    have hokE : ∀ (S' : Nat → Prop) (w' : World), peerK.ok w' S' p := fun _ _ => hok
    have hr3 := hr.below hby
    have ho3 := ho.below hby ho.lt
    have hq3 := hq.below hby hq.lt
    have hz3 := hz.below hby hz.lt
    have hB3 := hB.trans (hby.mono hB.size)
    have hw3 := Nat.le_trans hzw hby.size
    have hapart : ∀ g', g' < B3 → some g' ≠ (Value.slice Av k cv).ownBlock := fun g' hg' e => by have := (hr.own g' e.symm).1; omega
    have o3 : w3.cell? ⟨go, 3, none⟩ = some (.slice Av k cv) := ho.cellv 3 rfl
    have ol := ho.lt
    have hlitn : (c.P.take k).length + 1 ≤ maxLen := by rw [hlk]; unfold maxLen; omega
    have hlitb : ((c.P.take k).length + 1) * 56 ≤ 140737488355328 := by rw [hlk]; omega
    go_upto_region 6 with (first
      | (refine wpList_load_blk rfl h5 62 (.tmp 5) rfl rfl Tryz.underlying62 rfl (by kernel_rfl) ?_)
      | (at_builtin; refine wpList_rows peerE_ok rfl (.tmp 43) (.tmp 45) rfl hr3 rfl rfl hlit (fun e he => by rw [List.mem_singleton.1 he]; exact hokE _ _) hlitn hlitb hw3 ?_; intro v4 w4 hr4 hg4; obtain ⟨A4, c4, ev4, -, -, -⟩ := hr4.seen (Nat.le_refl _); rw [hl4] at ev4; subst ev4; have ho4 := ho3.grown hg4 (hapart _ (by omega)); have o4 : w4.cell? ⟨go, 3, none⟩ = some (.slice Av k cv) := ho4.cellv 3 rfl; have f4 := ho4.frozen 3; have ol4 := ho4.lt))
    obtain ⟨so1, so2⟩ := blk_store ho4 3 (.slice A4 (k + 1) c4)
    replace so1 : Blk (w4.setCell ⟨go, 3, none⟩ (.slice A4 (k + 1) c4)) go 41 (outC c (.slice A4 (k + 1) c4) (.slice none 0 0) (.slice none 0 0)) := so1
    have hr5 := hr4.kept so2 (fun k' e => by injection e with e; omega) (Nat.le_refl _)
    rw [← htk] at hr5
    have hq5 := (hq3.grown hg4 (hapart _ (by omega))).far (p := ⟨go, 3, none⟩) (by simp; omega) (.slice A4 (k + 1) c4)
    have hz5 := (hz3.grown hg4 (hapart _ (by omega))).far (p := ⟨go, 3, none⟩) (by simp; omega) (.slice A4 (k + 1) c4)
    have hB5 := (hB3.trans ((hr3.below_app hg4 hw3).mono (by omega))).setCell (p := ⟨go, 3, none⟩) (by simp; omega) (.slice A4 (k + 1) c4)
    have hw5 := Nat.le_trans (Nat.le_trans hw3 hg4.size) so2.size
    generalize w4.setCell ⟨go, 3, none⟩ (.slice A4 (k + 1) c4) = w5 at *
    clear o4 f4 ol4 so2 hr4 ho4
    go_wp2_with fail
    exact ⟨⟨k + 1, _, by omega, by go_num, hr5, so1, hq5, hz5, hw5, hB5⟩, by simp [intOf]; omega⟩
  have hkn : k = c.pn := by omega
  subst hkn
  rw [List.take_of_length_le (by rw [hP1.out]; exact Nat.le_refl _)] at hr
  obtain ⟨Y3, C3, ev, hY3, hZ3, so3⟩ := hr.seen (Nat.le_refl _)
  rw [hP1.out] at ev hY3 so3
  subst ev
  generalize wr = x3 at *
  obtain ⟨B4, hB4⟩ : ∃ B, B = x3.heap.size := ⟨_, rfl⟩
  have hzb4 : go < B4 := by rw [hB4]; exact ho.lt
  have q4 : x3.cell? ⟨w.heap.size, 4, none⟩ = some (.slice A4 c.vn c.vc) := by rw [hA4.out]; exact hq.cellv 4 rfl
  have ql := hq.lt
  go_upto_region 8 with (fail)
  clear q4 ql
  rw [← hB4] at so3
  go_loopw [52] (fun i wr => ∃ (k : Nat) (v : Value), k ≤ c.vn ∧ i = .int .i64 (k : Int) ∧ Rows vipT wr B4 B4 81 v (c.V.take k) ∧ Blk wr go 41 (outC c (.slice Y3 c.pn C3) (v) (.slice none 0 0)) ∧ Blk wr w.heap.size 29 (cfgC c) ∧ Blk wr (w.heap.size + 1) 41 #[.int .i64 0, .int .u32 0, .int .u32 0, .slice none 0 0, .slice none 0 0, .slice none 0 0, .int .i64 0, .int .i64 0, .int .i64 0, .int .i64 0, .int .i64 0, .int .i64 0, .int .i64 0, .int .i64 0, .int .i64 0, .int .i64 0, .int .i64 0, .int .i64 0, .int .i64 0] ∧ B4 ≤ wr.heap.size ∧ Below w.heap.size w wr ∧ Seen peerK wr (fun b => B3 ≤ b ∧ b < B4) Y3 c.pn c.P) (fun i _ => c.vn - (intOf i).toNat)
  case atStart => exact ⟨0, _, Nat.zero_le _, rfl, Rows.nil _ _ _ _, ho, hq, hz, by omega, hB, so3⟩
  case round =>
  clear ho hq hz hB so3
  obtain ⟨k, v, hk, rfl, hr, ho, hq, hz, hzw, hB, so3⟩ := hrel
  by_cases hlt : k < c.vn
  · have hki : (k : Int) < c.vn := by omega
    have hk0 : (0 : Int) ≤ k := by omega
    have hk40 : (k : Int) ≤ 300 := by omega
    obtain ⟨b, off, p, e1, hb, hp, hok, r0, r1, r2⟩ := vip_cells (seen_nx hS4 hB) hlt
    subst e1
    have htk : c.V.take (k + 1) = c.V.take k ++ [p] := by rw [List.take_add_one, hp]; rfl
    have hlk : (c.V.take k).length = k := by rw [List.length_take]; have := hV1.out; omega
    have hbx := (Below.refl wr.heap.size wr).alloc (Nat.le_refl _) (.cells #[.int .u32 p.ad, .int .i64 p.pct, .slice p.A p.n p.c] 53)
    have h5 := Blk.new wr 53 #[.int .u32 p.ad, .int .i64 p.pct, .slice p.A p.n p.c]
    go_upto_region 10 with (fail)
    generalize wr.alloc (.cells #[.int .u32 p.ad, .int .i64 p.pct, .slice p.A p.n p.c] 53) = w3 at *
    replace hr := hr.below hbx
    replace ho := ho.below hbx ho.lt
    replace hq := hq.below hbx hq.lt
    replace hz := hz.below hbx hz.lt
    replace hB := hB.trans (hbx.mono hB.size)
    replace so3 := so3.below hbx fun b hb => Nat.lt_of_lt_of_le hb.2 hzw
    replace hzw := Nat.le_trans hzw hbx.size
    clear hb r0 r1 r2 hbx
    obtain ⟨Av, cv, ev, -, -, -⟩ := hr.seen (Nat.le_refl _)
    rw [hlk] at ev
    subst ev
    have hl4 : (c.V.take k ++ [p]).length = k + 1 := by rw [List.length_append, hlk]; rfl
    have hby := (Below.refl w3.heap.size w3).alloc (Nat.le_refl _) (.cells #[.int .u32 p.ad, .int .i64 p.pct, .slice p.A p.n p.c] 81)
    have hlit : Seen vipT (w3.alloc (.cells #[.int .u32 p.ad, .int .i64 p.pct, .slice p.A p.n p.c] 81)) (fun _ => True) (some ⟨w3.heap.size, 0, none⟩) 1 [p] := seen_one w3 81 p #[.int .u32 p.ad, .int .i64 p.pct, .slice p.A p.n p.c] rfl (S := fun _ => False) trivial (fun _ h => h.elim) trivial (fun _ h => h.elim)
    have hokE : ∀ (S' : Nat → Prop) (w' : World), vipT.ok w' S' p := fun _ _ => trivial
    have hr3 := hr.below hby
    have ho3 := ho.below hby ho.lt
    have hq3 := hq.below hby hq.lt
    have hz3 := hz.below hby hz.lt
    have hB3 := hB.trans (hby.mono hB.size)
    have hw3 := Nat.le_trans hzw hby.size
    have so33 := so3.below hby fun b hb => Nat.lt_of_lt_of_le hb.2 hzw
    have hapart : ∀ g', g' < B4 → some g' ≠ (Value.slice Av k cv).ownBlock := fun g' hg' e => by have := (hr.own g' e.symm).1; omega
    have o3 : w3.cell? ⟨go, 4, none⟩ = some (.slice Av k cv) := ho.cellv 4 rfl
    have ol := ho.lt
    have hlitn : (c.V.take k).length + 1 ≤ maxLen := by rw [hlk]; unfold maxLen; omega
    have hlitb : ((c.V.take k).length + 1) * 40 ≤ 140737488355328 := by rw [hlk]; omega
    go_upto_region 11 with (first
      | (refine wpList_load_blk rfl h5 53 (.tmp 7) rfl rfl Tryz.underlying53 rfl (by kernel_rfl) ?_)
      | (at_builtin; refine wpList_rows vipE_ok rfl (.tmp 57) (.tmp 59) rfl hr3 rfl rfl hlit (fun e he => by rw [List.mem_singleton.1 he]; exact hokE _ _) hlitn hlitb hw3 ?_; intro v4 w4 hr4 hg4; obtain ⟨A4, c4, ev4, -, -, -⟩ := hr4.seen (Nat.le_refl _); rw [hl4] at ev4; subst ev4; have ho4 := ho3.grown hg4 (hapart _ (by omega)); have o4 : w4.cell? ⟨go, 4, none⟩ = some (.slice Av k cv) := ho4.cellv 4 rfl; have f4 := ho4.frozen 4; have ol4 := ho4.lt))
    obtain ⟨so1, so2⟩ := blk_store ho4 4 (.slice A4 (k + 1) c4)
    replace so1 : Blk (w4.setCell ⟨go, 4, none⟩ (.slice A4 (k + 1) c4)) go 41 (outC c (.slice Y3 c.pn C3) (.slice A4 (k + 1) c4) (.slice none 0 0)) := so1
    have hr5 := hr4.kept so2 (fun k' e => by injection e with e; omega) (Nat.le_refl _)
    rw [← htk] at hr5
    have hq5 := (hq3.grown hg4 (hapart _ (by omega))).far (p := ⟨go, 4, none⟩) (by simp; omega) (.slice A4 (k + 1) c4)
    have hz5 := (hz3.grown hg4 (hapart _ (by omega))).far (p := ⟨go, 4, none⟩) (by simp; omega) (.slice A4 (k + 1) c4)
    have hB5 := (hB3.trans ((hr3.below_app hg4 hw3).mono (by omega))).setCell (p := ⟨go, 4, none⟩) (by simp; omega) (.slice A4 (k + 1) c4)
    have hw5 := Nat.le_trans (Nat.le_trans hw3 hg4.size) so2.size
    have so34 := so33.grown hg4 fun b hb => ⟨Nat.lt_of_lt_of_le hb.2 hw3, fun e => hapart b hb.2 e.symm⟩
    have so35 := so34.grown so2 fun b hb => ⟨Nat.lt_of_lt_of_le hb.2 (Nat.le_trans hw3 hg4.size), fun e => by injection e with e; have := hb.1; omega⟩
    generalize w4.setCell ⟨go, 4, none⟩ (.slice A4 (k + 1) c4) = w5 at *
    clear o4 f4 ol4 so2 hr4 ho4
    go_wp2_with fail
    exact ⟨⟨k + 1, _, by omega, by go_num, hr5, so1, hq5, hz5, hw5, hB5, so35⟩, by simp [intOf]; omega⟩
  have hkn : k = c.vn := by omega
  subst hkn
  rw [List.take_of_length_le (by rw [hV1.out]; exact Nat.le_refl _)] at hr
  obtain ⟨Y4, C4, ev, hY4, hZ4, so4⟩ := hr.seen (Nat.le_refl _)
  rw [hV1.out] at ev hY4 so4
  subst ev
  generalize wr = x4 at *
  replace so3 := so3.more (S' := fun b => B3 ≤ b ∧ b < x4.heap.size) fun b hb => ⟨hb.1, Nat.lt_of_lt_of_le hb.2 hzw⟩
  obtain ⟨B5, hB5⟩ : ∃ B, B = x4.heap.size := ⟨_, rfl⟩
  have hzb5 : go < B5 := by rw [hB5]; exact ho.lt
  have q5 : x4.cell? ⟨w.heap.size, 5, none⟩ = some (.slice A5 c.sn c.sc) := by rw [hA5.out]; exact hq.cellv 5 rfl
  have ql := hq.lt
  go_upto_region 13 with (fail)
  clear q5 ql
  rw [← hB5] at so3
  rw [← hB5] at so4
  go_loopw [66] (fun i wr => ∃ (k : Nat) (v : Value), k ≤ c.sn ∧ i = .int .i64 (k : Int) ∧ Rows siteK wr B5 B5 82 v (c.S.take k) ∧ Blk wr go 41 (outC c (.slice Y3 c.pn C3) (.slice Y4 c.vn C4) (v)) ∧ Blk wr w.heap.size 29 (cfgC c) ∧ Blk wr (w.heap.size + 1) 41 #[.int .i64 0, .int .u32 0, .int .u32 0, .slice none 0 0, .slice none 0 0, .slice none 0 0, .int .i64 0, .int .i64 0, .int .i64 0, .int .i64 0, .int .i64 0, .int .i64 0, .int .i64 0, .int .i64 0, .int .i64 0, .int .i64 0, .int .i64 0, .int .i64 0, .int .i64 0] ∧ B5 ≤ wr.heap.size ∧ Below w.heap.size w wr ∧ Seen peerK wr (fun b => B3 ≤ b ∧ b < B5) Y3 c.pn c.P ∧ Seen vipT wr (fun b => B4 ≤ b ∧ b < B5) Y4 c.vn c.V) (fun i _ => c.sn - (intOf i).toNat)
  case atStart => exact ⟨0, _, Nat.zero_le _, rfl, Rows.nil _ _ _ _, ho, hq, hz, by omega, hB, so3, so4⟩
  case round =>
  clear ho hq hz hB so3 so4
  obtain ⟨k, v, hk, rfl, hr, ho, hq, hz, hzw, hB, so3, so4⟩ := hrel
  by_cases hlt : k < c.sn
  · have hki : (k : Int) < c.sn := by omega
    have hk0 : (0 : Int) ≤ k := by omega
    have hk40 : (k : Int) ≤ 300 := by omega
    obtain ⟨b, off, p, e1, hb, hp, hok, r0, r1, r2⟩ := site_cells (seen_nx hS5 hB) hlt
    subst e1
    have htk : c.S.take (k + 1) = c.S.take k ++ [p] := by rw [List.take_add_one, hp]; rfl
    have hlk : (c.S.take k).length = k := by rw [List.length_take]; have := hT1.out; omega
    have hbx := (Below.refl wr.heap.size wr).alloc (Nat.le_refl _) (.cells #[.int .i64 p.id, .int .u32 p.ad, .int .i64 p.cost] 72)
    have h5 := Blk.new wr 72 #[.int .i64 p.id, .int .u32 p.ad, .int .i64 p.cost]
    go_upto_region 15 with (fail)
    generalize wr.alloc (.cells #[.int .i64 p.id, .int .u32 p.ad, .int .i64 p.cost] 72) = w3 at *
    replace hr := hr.below hbx
    replace ho := ho.below hbx ho.lt
    replace hq := hq.below hbx hq.lt
    replace hz := hz.below hbx hz.lt
    replace hB := hB.trans (hbx.mono hB.size)
    replace so3 := so3.below hbx fun b hb => Nat.lt_of_lt_of_le hb.2 hzw
    replace so4 := so4.below hbx fun b hb => Nat.lt_of_lt_of_le hb.2 hzw
    replace hzw := Nat.le_trans hzw hbx.size
    clear hb r0 r1 r2 hbx
    obtain ⟨Av, cv, ev, -, -, -⟩ := hr.seen (Nat.le_refl _)
    rw [hlk] at ev
    subst ev
    have hl4 : (c.S.take k ++ [p]).length = k + 1 := by rw [List.length_append, hlk]; rfl
    have hby := (Below.refl w3.heap.size w3).alloc (Nat.le_refl _) (.cells #[.int .i64 p.id, .int .u32 p.ad, .int .i64 p.cost] 82)
    have hlit : Seen siteK (w3.alloc (.cells #[.int .i64 p.id, .int .u32 p.ad, .int .i64 p.cost] 82)) (fun _ => True) (some ⟨w3.heap.size, 0, none⟩) 1 [p] := seen_one w3 82 p #[.int .i64 p.id, .int .u32 p.ad, .int .i64 p.cost] rfl (S := fun _ => False) hok (fun _ h => h.elim) trivial (fun _ h => h.elim)
    have hokE : ∀ (S' : Nat → Prop) (w' : World), siteK.ok w' S' p := fun _ _ => hok
    have hr3 := hr.below hby
    have ho3 := ho.below hby ho.lt
    have hq3 := hq.below hby hq.lt
    have hz3 := hz.below hby hz.lt
    have hB3 := hB.trans (hby.mono hB.size)
    have hw3 := Nat.le_trans hzw hby.size
    have so33 := so3.below hby fun b hb => Nat.lt_of_lt_of_le hb.2 hzw
    have so43 := so4.below hby fun b hb => Nat.lt_of_lt_of_le hb.2 hzw
    have hapart : ∀ g', g' < B5 → some g' ≠ (Value.slice Av k cv).ownBlock := fun g' hg' e => by have := (hr.own g' e.symm).1; omega
    have o3 : w3.cell? ⟨go, 5, none⟩ = some (.slice Av k cv) := ho.cellv 5 rfl
    have ol := ho.lt
    have hlitn : (c.S.take k).length + 1 ≤ maxLen := by rw [hlk]; unfold maxLen; omega
    have hlitb : ((c.S.take k).length + 1) * 24 ≤ 140737488355328 := by rw [hlk]; omega
    go_upto_region 16 with (first
      | (refine wpList_load_blk rfl h5 72 (.tmp 9) rfl rfl Tryz.underlying72 rfl (by kernel_rfl) ?_)
      | (at_builtin; refine wpList_rows siteE_ok rfl (.tmp 71) (.tmp 73) rfl hr3 rfl rfl hlit (fun e he => by rw [List.mem_singleton.1 he]; exact hokE _ _) hlitn hlitb hw3 ?_; intro v4 w4 hr4 hg4; obtain ⟨A4, c4, ev4, -, -, -⟩ := hr4.seen (Nat.le_refl _); rw [hl4] at ev4; subst ev4; have ho4 := ho3.grown hg4 (hapart _ (by omega)); have o4 : w4.cell? ⟨go, 5, none⟩ = some (.slice Av k cv) := ho4.cellv 5 rfl; have f4 := ho4.frozen 5; have ol4 := ho4.lt))
    obtain ⟨so1, so2⟩ := blk_store ho4 5 (.slice A4 (k + 1) c4)
    replace so1 : Blk (w4.setCell ⟨go, 5, none⟩ (.slice A4 (k + 1) c4)) go 41 (outC c (.slice Y3 c.pn C3) (.slice Y4 c.vn C4) (.slice A4 (k + 1) c4)) := so1
    have hr5 := hr4.kept so2 (fun k' e => by injection e with e; omega) (Nat.le_refl _)
    rw [← htk] at hr5
    have hq5 := (hq3.grown hg4 (hapart _ (by omega))).far (p := ⟨go, 5, none⟩) (by simp; omega) (.slice A4 (k + 1) c4)
    have hz5 := (hz3.grown hg4 (hapart _ (by omega))).far (p := ⟨go, 5, none⟩) (by simp; omega) (.slice A4 (k + 1) c4)
    have hB5 := (hB3.trans ((hr3.below_app hg4 hw3).mono (by omega))).setCell (p := ⟨go, 5, none⟩) (by simp; omega) (.slice A4 (k + 1) c4)
    have hw5 := Nat.le_trans (Nat.le_trans hw3 hg4.size) so2.size
    have so34 := so33.grown hg4 fun b hb => ⟨Nat.lt_of_lt_of_le hb.2 hw3, fun e => hapart b hb.2 e.symm⟩
    have so35 := so34.grown so2 fun b hb => ⟨Nat.lt_of_lt_of_le hb.2 (Nat.le_trans hw3 hg4.size), fun e => by injection e with e; have := hb.1; omega⟩
    have so44 := so43.grown hg4 fun b hb => ⟨Nat.lt_of_lt_of_le hb.2 hw3, fun e => hapart b hb.2 e.symm⟩
    have so45 := so44.grown so2 fun b hb => ⟨Nat.lt_of_lt_of_le hb.2 (Nat.le_trans hw3 hg4.size), fun e => by injection e with e; have := hb.1; omega⟩
    generalize w4.setCell ⟨go, 5, none⟩ (.slice A4 (k + 1) c4) = w5 at *
    clear o4 f4 ol4 so2 hr4 ho4
    go_wp2_with fail
    exact ⟨⟨k + 1, _, by omega, by go_num, hr5, so1, hq5, hz5, hw5, hB5, so35, so45⟩, by simp [intOf]; omega⟩
  have hkn : k = c.sn := by omega
  subst hkn
  rw [List.take_of_length_le (by rw [hT1.out]; exact Nat.le_refl _)] at hr
  obtain ⟨Y5, C5, ev, hY5, hZ5, so5⟩ := hr.seen (Nat.le_refl _)
  rw [hT1.out] at ev hY5 so5
  subst ev
  generalize wr = x5 at *
  replace so3 := so3.more (S' := fun b => B3 ≤ b ∧ b < x5.heap.size) fun b hb => ⟨hb.1, Nat.lt_of_lt_of_le hb.2 hzw⟩
  replace so4 := so4.more (S' := fun b => B4 ≤ b ∧ b < x5.heap.size) fun b hb => ⟨hb.1, Nat.lt_of_lt_of_le hb.2 hzw⟩
  have hi2 : (Tryz.prog.info? 41).map (·.size) = some (outC c (.slice Y3 c.pn C3) (.slice Y4 c.vn C4) (.slice Y5 c.sn C5)).size := by kernel_rfl
  go_wp2_with (first
    | (refine wpList_load_blk rfl ho 41 (.tmp 3) rfl rfl Tryz.underlying41 rfl hi2 ?_)
    | (refine wpList_store_blk rfl hz 41 (.tmp 2) (.tmp 77) rfl rfl rfl rfl hi2 (by simp [outC, Value.oneCell']) ?_; intro w9 hz9 hg9))
  have hb9 := below_own hB hg9 hB.size (by omega)
  refine bodyPost_ret (results_c rfl _ rfl (load_blk hz9 Tryz.underlying41 rfl hi2)) rfl ?_
  refine ⟨{ c with pA := Y3, pc := C3, vA := Y4, vc := C4, sA := Y5, sc := C5 }, rfl, ⟨_, _, _, _, _, _, rfl⟩, ?_, hb9⟩
  have hS9 : ∀ (lo b : Nat), go < lo → lo ≤ b ∧ b < x5.heap.size → b < x5.heap.size ∧ some (w.heap.size + 1) ≠ some b := fun lo b h1 h2 => ⟨h2.2, fun e => by injection e with e; omega⟩
  have hM9 : ∀ (lo b : Nat), lo ≤ b ∧ b < x5.heap.size → b < w9.heap.size := fun lo b h => Nat.lt_of_lt_of_le h.2 hg9.size
  exact ⟨h.id_, h.own_, h.nums, h.damp, ⟨⟨hY3, hZ3⟩, ⟨hY4, hZ4⟩, ⟨hY5, hZ5⟩⟩, (so3.grown hg9 fun b hb => hS9 _ b hzb3 hb).more fun b hb => hM9 _ b hb, vip_ofT ((so4.grown hg9 fun b hb => hS9 _ b hzb4 hb).more fun b hb => hM9 _ b hb) fun a ha => (h.nx hb9).vips.2.1 a ha, (so5.grown hg9 fun b hb => hS9 _ b hzb5 hb).more fun b hb => hM9 _ b hb⟩
end Go.Proofs.YtecmhakapomepaaGreat
