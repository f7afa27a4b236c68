import Derived.Test.YtgdeecmhhbdjgaaGreatMVipNone26
import Derived.Test.YtgdeecmhhbdjgaaGreatMVipReturns4
import Derived.Test.YtgdeecmhhbdjgaaGreatMVipNone25
import Derived.Test.YtgdeecmhhbdjgaaGreatMVipNone30
/- vip: a configuration in the document's form, as this law makes it. -/
namespace Go.Proofs.YtgdeecmhhbdjgaaGreat
set_option linter.unusedVariables false
open Go Go.RowKit Go.Maps

set_option maxRecDepth 100000 in
set_option maxHeartbeats 16000000 in
theorem plain33_any (w : World) (c : CfgV) (h : CfgIn w c) (hs : CfgSm c) : Calls Tryz.prog 38 #[.agg (cfgC c)] w fun e w' => ∃ c', e = .returned (.agg (cfgC c')) ∧ Again c c' ∧ CfgIn w' c' ∧ Below w.heap.size w w' := by
  have hB := ((Below.refl w.heap.size w).alloc (Nat.le_refl _) (.cells (cfgC c) 29)).alloc (by simp) (.cells #[.int .i64 0, .int .u32 0, .int .u32 0, .slice none 0 0, .slice none 0 0, .slice none 0 0, .int .i64 0, .int .i64 0, .int .i64 0, .int .i64 0, .int .i64 0, .int .i64 0, .int .i64 0, .int .i64 0, .int .i64 0, .int .i64 0, .int .i64 0, .int .i64 0, .int .i64 0] 41)
  have hq := (Blk.new w 29 (cfgC c)).alloc (.cells #[.int .i64 0, .int .u32 0, .int .u32 0, .slice none 0 0, .slice none 0 0, .slice none 0 0, .int .i64 0, .int .i64 0, .int .i64 0, .int .i64 0, .int .i64 0, .int .i64 0, .int .i64 0, .int .i64 0, .int .i64 0, .int .i64 0, .int .i64 0, .int .i64 0, .int .i64 0] 41)
  have hz := Blk.new (w.alloc (.cells (cfgC c) 29)) 41 #[.int .i64 0, .int .u32 0, .int .u32 0, .slice none 0 0, .slice none 0 0, .slice none 0 0, .int .i64 0, .int .i64 0, .int .i64 0, .int .i64 0, .int .i64 0, .int .i64 0, .int .i64 0, .int .i64 0, .int .i64 0, .int .i64 0, .int .i64 0, .int .i64 0, .int .i64 0]
  rw [World.size_alloc] at hz
  have hi : (Tryz.prog.info? 41).map (·.size) = some (#[.int .i64 0, .int .u32 0, .int .u32 0, .slice none 0 0, .slice none 0 0, .slice none 0 0, .int .i64 0, .int .i64 0, .int .i64 0, .int .i64 0, .int .i64 0, .int .i64 0, .int .i64 0, .int .i64 0, .int .i64 0, .int .i64 0, .int .i64 0, .int .i64 0, .int .i64 0] : Array Value).size := by kernel_rfl
  obtain ⟨A3, hA3⟩ : ∃ A, A = c.pA := ⟨_, rfl⟩
  obtain ⟨A4, hA4⟩ : ∃ A, A = c.vA := ⟨_, rfl⟩
  obtain ⟨A5, hA5⟩ : ∃ A, A = c.sA := ⟨_, rfl⟩
  have hS3 := h.peers
  have hS4 := h.vips
  have hS5 := h.sites
  rw [← hA3] at hS3
  rw [← hA4] at hS4
  rw [← hA5] at hS5
  go_enter Tryz.func38, Tryz.ntmps38
  go_upto_region 1 with (fail)
  generalize (w.alloc (.cells (cfgC c) 29)).alloc (.cells #[.int .i64 0, .int .u32 0, .int .u32 0, .slice none 0 0, .slice none 0 0, .slice none 0 0, .int .i64 0, .int .i64 0, .int .i64 0, .int .i64 0, .int .i64 0, .int .i64 0, .int .i64 0, .int .i64 0, .int .i64 0, .int .i64 0, .int .i64 0, .int .i64 0, .int .i64 0] 41) = w1 at *
  have q0 : w1.cell? ⟨w.heap.size, 0, none⟩ = some (.int .i64 c.as_) := hq.cellv 0 rfl
  have q1 : w1.cell? ⟨w.heap.size, 1, none⟩ = some (.int .u32 c.id) := hq.cellv 1 rfl
  have q2 : w1.cell? ⟨w.heap.size, 2, none⟩ = some (.int .u32 c.own) := hq.cellv 2 rfl
  have q6 : w1.cell? ⟨w.heap.size, 6, none⟩ = some (.int .i64 c.rise) := hq.cellv 6 rfl
  have q7 : w1.cell? ⟨w.heap.size, 7, none⟩ = some (.int .i64 c.fall) := hq.cellv 7 rfl
  have q8 : w1.cell? ⟨w.heap.size, 8, none⟩ = some (.int .i64 c.every) := hq.cellv 8 rfl
  have q9 : w1.cell? ⟨w.heap.size, 9, none⟩ = some (.int .i64 c.pat) := hq.cellv 9 rfl
  have q10 : w1.cell? ⟨w.heap.size, 10, none⟩ = some (.int .i64 c.room) := hq.cellv 10 rfl
  have q11 : w1.cell? ⟨w.heap.size, 11, none⟩ = some (.int .i64 c.idle) := hq.cellv 11 rfl
  have q12 : w1.cell? ⟨w.heap.size, 12, none⟩ = some (.int .i64 c.queue) := hq.cellv 12 rfl
  have q13 : w1.cell? ⟨w.heap.size, 13, none⟩ = some (.int .i64 c.dF) := hq.cellv 13 rfl
  have q14 : w1.cell? ⟨w.heap.size, 14, none⟩ = some (.int .i64 c.dS) := hq.cellv 14 rfl
  have q15 : w1.cell? ⟨w.heap.size, 15, none⟩ = some (.int .i64 c.dR) := hq.cellv 15 rfl
  have q16 : w1.cell? ⟨w.heap.size, 16, none⟩ = some (.int .i64 c.dC) := hq.cellv 16 rfl
  have q17 : w1.cell? ⟨w.heap.size, 17, none⟩ = some (.int .i64 c.dH) := hq.cellv 17 rfl
  have q18 : w1.cell? ⟨w.heap.size, 18, none⟩ = some (.int .i64 c.ttl) := hq.cellv 18 rfl
  have ql := hq.lt
  have zl := hz.lt
  have hbx := (Below.refl w1.heap.size w1).alloc (Nat.le_refl _) (.cells #[.int .i64 0, .int .u32 0, .int .u32 0, .slice none 0 0, .slice none 0 0, .slice none 0 0, .int .i64 0, .int .i64 0, .int .i64 0, .int .i64 0, .int .i64 0, .int .i64 0, .int .i64 0, .int .i64 0, .int .i64 0, .int .i64 0, .int .i64 0, .int .i64 0, .int .i64 0] 41)
  have hfr := Blk.new w1 41 #[.int .i64 0, .int .u32 0, .int .u32 0, .slice none 0 0, .slice none 0 0, .slice none 0 0, .int .i64 0, .int .i64 0, .int .i64 0, .int .i64 0, .int .i64 0, .int .i64 0, .int .i64 0, .int .i64 0, .int .i64 0, .int .i64 0, .int .i64 0, .int .i64 0, .int .i64 0]
  go_upto_region 2 with (refine wpList_store_blk rfl hfr 41 (.tmp 3) (.tmp 34) rfl rfl rfl rfl hi (by simp [Value.oneCell']) ?_; intro w2 ho hg2)
  have hbx2 := hbx.trans (Below.of_grown (B := w1.heap.size) hg2 (by simp) (Nat.le_refl _))
  replace hq := hq.below hbx2 ql
  replace hz := hz.below hbx2 zl
  have hz1 := hB.size
  have hgo1 := zl
  have hog : w1.heap.size < w2.heap.size := ho.lt
  replace hB := hB.trans (hbx2.mono hB.size)
  clear hbx hbx2 hg2 hfr q0 q1 q2 q6 q7 q8 q9 q10 q11 q12 q13 q14 q15 q16 q17 q18 ql zl
  generalize hgo : w1.heap.size = go at *
  clear hgo
  have hzB := hB.size
  replace hA3 := Lib.hid hA3
  replace hA4 := Lib.hid hA4
  replace hA5 := Lib.hid hA5
  have hP1 := Lib.hid h.peers.1
  have hV1 := Lib.hid h.vips.1
  have hT1 := Lib.hid h.sites.1
  have hsp := hs.p
  have hsv := hs.v
  have hss := hs.s
  obtain ⟨B3, hB3⟩ : ∃ B, B = w2.heap.size := ⟨_, rfl⟩
  have hzb3 : go < B3 := by rw [hB3]; exact ho.lt
  have q3 : w2.cell? ⟨w.heap.size, 3, none⟩ = some (.slice A3 c.pn c.pc) := by rw [hA3.out]; exact hq.cellv 3 rfl
  have ql := hq.lt
  go_upto_region 3 with (fail)
  clear q3 ql
  go_loopw [38] (fun i wr => ∃ (k : Nat) (v : Value), k ≤ c.pn ∧ i = .int .i64 (k : Int) ∧ Rows peerK wr B3 B3 133 v (c.P.take k) ∧ Blk wr go 41 (outC c (v) (.slice none 0 0) (.slice none 0 0)) ∧ Blk wr w.heap.size 29 (cfgC c) ∧ Blk wr (w.heap.size + 1) 41 #[.int .i64 0, .int .u32 0, .int .u32 0, .slice none 0 0, .slice none 0 0, .slice none 0 0, .int .i64 0, .int .i64 0, .int .i64 0, .int .i64 0, .int .i64 0, .int .i64 0, .int .i64 0, .int .i64 0, .int .i64 0, .int .i64 0, .int .i64 0, .int .i64 0, .int .i64 0] ∧ B3 ≤ wr.heap.size ∧ Below w.heap.size w wr) (fun i _ => c.pn - (intOf i).toNat)
  case atStart => exact ⟨0, _, Nat.zero_le _, rfl, Rows.nil _ _ _ _, ho, hq, hz, by omega, hB⟩
  case round =>
  clear ho hq hz hB
  obtain ⟨k, v, hk, rfl, hr, ho, hq, hz, hzw, hB⟩ := hrel
  by_cases hlt : k < c.pn
  · have hki : (k : Int) < c.pn := by omega
    have hk0 : (0 : Int) ≤ k := by omega
    have hk40 : (k : Int) ≤ 300 := by omega
    obtain ⟨b, off, p, e1, hb, hp, hok, r0, r1, r2, r3, r4, r5, r6⟩ := peer_cells (seen_nx hS3 hB) hlt
    subst e1
    have htk : c.P.take (k + 1) = c.P.take k ++ [p] := by rw [List.take_add_one, hp]; rfl
    have hlk : (c.P.take k).length = k := by rw [List.length_take]; have := hP1.out; omega
    have hbx := (Below.refl wr.heap.size wr).alloc (Nat.le_refl _) (.cells #[.int .i64 p.as_, .int .i64 p.hold, .int .i64 p.retry, .int .i64 p.gap, .int .i64 p.med, .int .i64 p.prep, .int .i64 p.back] 115)
    have h5 := Blk.new wr 115 #[.int .i64 p.as_, .int .i64 p.hold, .int .i64 p.retry, .int .i64 p.gap, .int .i64 p.med, .int .i64 p.prep, .int .i64 p.back]
    go_upto_region 5 with (fail)
    generalize wr.alloc (.cells #[.int .i64 p.as_, .int .i64 p.hold, .int .i64 p.retry, .int .i64 p.gap, .int .i64 p.med, .int .i64 p.prep, .int .i64 p.back] 115) = w3 at *
    replace hr := hr.below hbx
    replace ho := ho.below hbx ho.lt
    replace hq := hq.below hbx hq.lt
    replace hz := hz.below hbx hz.lt
    replace hB := hB.trans (hbx.mono hB.size)
    replace hzw := Nat.le_trans hzw hbx.size
    clear hb r0 r1 r2 r3 r4 r5 r6 hbx
    obtain ⟨Av, cv, ev, -, -, -⟩ := hr.seen (Nat.le_refl _)
    rw [hlk] at ev
    subst ev
    have hl4 : (c.P.take k ++ [p]).length = k + 1 := by rw [List.length_append, hlk]; rfl
    have hby := (Below.refl w3.heap.size w3).alloc (Nat.le_refl _) (.cells #[.int .i64 p.as_, .int .i64 p.hold, .int .i64 p.retry, .int .i64 p.gap, .int .i64 p.med, .int .i64 p.prep, .int .i64 p.back] 133)
    have hlit : Seen peerK (w3.alloc (.cells #[.int .i64 p.as_, .int .i64 p.hold, .int .i64 p.retry, .int .i64 p.gap, .int .i64 p.med, .int .i64 p.prep, .int .i64 p.back] 133)) (fun _ => True) (some ⟨w3.heap.size, 0, none⟩) 1 [p] := seen_one w3 133 p #[.int .i64 p.as_, .int .i64 p.hold, .int .i64 p.retry, .int .i64 p.gap, .int .i64 p.med, .int .i64 p.prep, .int .i64 p.back] rfl (S := fun _ => False) hok (fun _ h => h.elim) trivial (fun _ h => h.elim)
    have hokE : ∀ (S' : Nat → Prop) (w' : World), peerK.ok w' S' p := fun _ _ => hok
    have hr3 := hr.below hby
    have ho3 := ho.below hby ho.lt
    have hq3 := hq.below hby hq.lt
    have hz3 := hz.below hby hz.lt
    have hB3 := hB.trans (hby.mono hB.size)
    have hw3 := Nat.le_trans hzw hby.size
    have hapart : ∀ g', g' < B3 → some g' ≠ (Value.slice Av k cv).ownBlock := fun g' hg' e => by have := (hr.own g' e.symm).1; omega
    have o3 : w3.cell? ⟨go, 3, none⟩ = some (.slice Av k cv) := ho.cellv 3 rfl
    have ol := ho.lt
    have hlitn : (c.P.take k).length + 1 ≤ maxLen := by rw [hlk]; unfold maxLen; omega
    have hlitb : ((c.P.take k).length + 1) * 56 ≤ 140737488355328 := by rw [hlk]; omega
    go_upto_region 6 with (first
      | (refine wpList_load_blk rfl h5 115 (.tmp 5) rfl rfl Tryz.underlying115 rfl (by kernel_rfl) ?_)
      | (at_builtin; refine wpList_rows peerE_ok rfl (.tmp 43) (.tmp 45) rfl hr3 rfl rfl hlit (fun e he => by rw [List.mem_singleton.1 he]; exact hokE _ _) hlitn hlitb hw3 ?_; intro v4 w4 hr4 hg4; obtain ⟨A4, c4, ev4, -, -, -⟩ := hr4.seen (Nat.le_refl _); rw [hl4] at ev4; subst ev4; have ho4 := ho3.grown hg4 (hapart _ (by omega)); have o4 : w4.cell? ⟨go, 3, none⟩ = some (.slice Av k cv) := ho4.cellv 3 rfl; have f4 := ho4.frozen 3; have ol4 := ho4.lt))
    obtain ⟨so1, so2⟩ := blk_store ho4 3 (.slice A4 (k + 1) c4)
    replace so1 : Blk (w4.setCell ⟨go, 3, none⟩ (.slice A4 (k + 1) c4)) go 41 (outC c (.slice A4 (k + 1) c4) (.slice none 0 0) (.slice none 0 0)) := so1
    have hr5 := hr4.kept so2 (fun k' e => by injection e with e; omega) (Nat.le_refl _)
    rw [← htk] at hr5
    have hq5 := (hq3.grown hg4 (hapart _ (by omega))).far (p := ⟨go, 3, none⟩) (by simp; omega) (.slice A4 (k + 1) c4)
    have hz5 := (hz3.grown hg4 (hapart _ (by omega))).far (p := ⟨go, 3, none⟩) (by simp; omega) (.slice A4 (k + 1) c4)
    have hB5 := (hB3.trans ((hr3.below_app hg4 hw3).mono (by omega))).setCell (p := ⟨go, 3, none⟩) (by simp; omega) (.slice A4 (k + 1) c4)
    have hw5 := Nat.le_trans (Nat.le_trans hw3 hg4.size) so2.size
    generalize w4.setCell ⟨go, 3, none⟩ (.slice A4 (k + 1) c4) = w5 at *
    clear o4 f4 ol4 so2 hr4 ho4
    go_wp2_with fail
    exact ⟨⟨k + 1, _, by omega, by go_num, hr5, so1, hq5, hz5, hw5, hB5⟩, by simp [intOf]; omega⟩
  have hkn : k = c.pn := by omega
  subst hkn
  rw [List.take_of_length_le (by rw [hP1.out]; exact Nat.le_refl _)] at hr
  obtain ⟨Y3, C3, ev, hY3, hZ3, so3⟩ := hr.seen (Nat.le_refl _)
  rw [hP1.out] at ev hY3 so3
  subst ev
  generalize wr = x3 at *
  obtain ⟨B4, hB4⟩ : ∃ B, B = x3.heap.size := ⟨_, rfl⟩
  have hzb4 : go < B4 := by rw [hB4]; exact ho.lt
  have q4 : x3.cell? ⟨w.heap.size, 4, none⟩ = some (.slice A4 c.vn c.vc) := by rw [hA4.out]; exact hq.cellv 4 rfl
  have ql := hq.lt
  go_upto_region 8 with (fail)
  clear q4 ql
  rw [← hB4] at so3
  go_loopw [52] (fun i wr => ∃ (k : Nat) (v : Value), k ≤ c.vn ∧ i = .int .i64 (k : Int) ∧ Rows vipT wr B4 B4 134 v (c.V.take k) ∧ Blk wr go 41 (outC c (.slice Y3 c.pn C3) (v) (.slice none 0 0)) ∧ Blk wr w.heap.size 29 (cfgC c) ∧ Blk wr (w.heap.size + 1) 41 #[.int .i64 0, .int .u32 0, .int .u32 0, .slice none 0 0, .slice none 0 0, .slice none 0 0, .int .i64 0, .int .i64 0, .int .i64 0, .int .i64 0, .int .i64 0, .int .i64 0, .int .i64 0, .int .i64 0, .int .i64 0, .int .i64 0, .int .i64 0, .int .i64 0, .int .i64 0] ∧ B4 ≤ wr.heap.size ∧ Below w.heap.size w wr ∧ Seen peerK wr (fun b => B3 ≤ b ∧ b < B4) Y3 c.pn c.P) (fun i _ => c.vn - (intOf i).toNat)
  case atStart => exact ⟨0, _, Nat.zero_le _, rfl, Rows.nil _ _ _ _, ho, hq, hz, by omega, hB, so3⟩
  case round =>
  clear ho hq hz hB so3
  obtain ⟨k, v, hk, rfl, hr, ho, hq, hz, hzw, hB, so3⟩ := hrel
  by_cases hlt : k < c.vn
  · have hki : (k : Int) < c.vn := by omega
    have hk0 : (0 : Int) ≤ k := by omega
    have hk40 : (k : Int) ≤ 300 := by omega
    obtain ⟨b, off, p, e1, hb, hp, hok, r0, r1, r2⟩ := vip_cells (seen_nx hS4 hB) hlt
    subst e1
    have htk : c.V.take (k + 1) = c.V.take k ++ [p] := by rw [List.take_add_one, hp]; rfl
    have hlk : (c.V.take k).length = k := by rw [List.length_take]; have := hV1.out; omega
    have hbx := (Below.refl wr.heap.size wr).alloc (Nat.le_refl _) (.cells #[.int .u32 p.ad, .int .i64 p.pct, .slice p.A p.n p.c] 109)
    have h5 := Blk.new wr 109 #[.int .u32 p.ad, .int .i64 p.pct, .slice p.A p.n p.c]
    go_upto_region 10 with (fail)
    generalize wr.alloc (.cells #[.int .u32 p.ad, .int .i64 p.pct, .slice p.A p.n p.c] 109) = w3 at *
    replace hr := hr.below hbx
    replace ho := ho.below hbx ho.lt
    replace hq := hq.below hbx hq.lt
    replace hz := hz.below hbx hz.lt
    replace hB := hB.trans (hbx.mono hB.size)
    replace so3 := so3.below hbx fun b hb => Nat.lt_of_lt_of_le hb.2 hzw
    replace hzw := Nat.le_trans hzw hbx.size
    clear hb r0 r1 r2 hbx
    obtain ⟨Av, cv, ev, -, -, -⟩ := hr.seen (Nat.le_refl _)
    rw [hlk] at ev
    subst ev
    have hl4 : (c.V.take k ++ [p]).length = k + 1 := by rw [List.length_append, hlk]; rfl
    have hby := (Below.refl w3.heap.size w3).alloc (Nat.le_refl _) (.cells #[.int .u32 p.ad, .int .i64 p.pct, .slice p.A p.n p.c] 134)
    have hlit : Seen vipT (w3.alloc (.cells #[.int .u32 p.ad, .int .i64 p.pct, .slice p.A p.n p.c] 134)) (fun _ => True) (some ⟨w3.heap.size, 0, none⟩) 1 [p] := seen_one w3 134 p #[.int .u32 p.ad, .int .i64 p.pct, .slice p.A p.n p.c] rfl (S := fun _ => False) trivial (fun _ h => h.elim) trivial (fun _ h => h.elim)
    have hokE : ∀ (S' : Nat → Prop) (w' : World), vipT.ok w' S' p := fun _ _ => trivial
    have hr3 := hr.below hby
    have ho3 := ho.below hby ho.lt
    have hq3 := hq.below hby hq.lt
    have hz3 := hz.below hby hz.lt
    have hB3 := hB.trans (hby.mono hB.size)
    have hw3 := Nat.le_trans hzw hby.size
    have so33 := so3.below hby fun b hb => Nat.lt_of_lt_of_le hb.2 hzw
    have hapart : ∀ g', g' < B4 → some g' ≠ (Value.slice Av k cv).ownBlock := fun g' hg' e => by have := (hr.own g' e.symm).1; omega
    have o3 : w3.cell? ⟨go, 4, none⟩ = some (.slice Av k cv) := ho.cellv 4 rfl
    have ol := ho.lt
    have hlitn : (c.V.take k).length + 1 ≤ maxLen := by rw [hlk]; unfold maxLen; omega
    have hlitb : ((c.V.take k).length + 1) * 40 ≤ 140737488355328 := by rw [hlk]; omega
    go_upto_region 11 with (first
      | (refine wpList_load_blk rfl h5 109 (.tmp 7) rfl rfl Tryz.underlying109 rfl (by kernel_rfl) ?_)
      | (at_builtin; refine wpList_rows vipE_ok rfl (.tmp 57) (.tmp 59) rfl hr3 rfl rfl hlit (fun e he => by rw [List.mem_singleton.1 he]; exact hokE _ _) hlitn hlitb hw3 ?_; intro v4 w4 hr4 hg4; obtain ⟨A4, c4, ev4, -, -, -⟩ := hr4.seen (Nat.le_refl _); rw [hl4] at ev4; subst ev4; have ho4 := ho3.grown hg4 (hapart _ (by omega)); have o4 : w4.cell? ⟨go, 4, none⟩ = some (.slice Av k cv) := ho4.cellv 4 rfl; have f4 := ho4.frozen 4; have ol4 := ho4.lt))
    obtain ⟨so1, so2⟩ := blk_store ho4 4 (.slice A4 (k + 1) c4)
    replace so1 : Blk (w4.setCell ⟨go, 4, none⟩ (.slice A4 (k + 1) c4)) go 41 (outC c (.slice Y3 c.pn C3) (.slice A4 (k + 1) c4) (.slice none 0 0)) := so1
    have hr5 := hr4.kept so2 (fun k' e => by injection e with e; omega) (Nat.le_refl _)
    rw [← htk] at hr5
    have hq5 := (hq3.grown hg4 (hapart _ (by omega))).far (p := ⟨go, 4, none⟩) (by simp; omega) (.slice A4 (k + 1) c4)
    have hz5 := (hz3.grown hg4 (hapart _ (by omega))).far (p := ⟨go, 4, none⟩) (by simp; omega) (.slice A4 (k + 1) c4)
    have hB5 := (hB3.trans ((hr3.below_app hg4 hw3).mono (by omega))).setCell (p := ⟨go, 4, none⟩) (by simp; omega) (.slice A4 (k + 1) c4)
    have hw5 := Nat.le_trans (Nat.le_trans hw3 hg4.size) so2.size
    have so34 := so33.grown hg4 fun b hb => ⟨Nat.lt_of_lt_of_le hb.2 hw3, fun e => hapart b hb.2 e.symm⟩
    have so35 := so34.grown so2 fun b hb => ⟨Nat.lt_of_lt_of_le hb.2 (Nat.le_trans hw3 hg4.size), fun e => by injection e with e; have := hb.1; omega⟩
    generalize w4.setCell ⟨go, 4, none⟩ (.slice A4 (k + 1) c4) = w5 at *
    clear o4 f4 ol4 so2 hr4 ho4
    go_wp2_with fail
    exact ⟨⟨k + 1, _, by omega, by go_num, hr5, so1, hq5, hz5, hw5, hB5, so35⟩, by simp [intOf]; omega⟩
  have hkn : k = c.vn := by omega
  subst hkn
  rw [List.take_of_length_le (by rw [hV1.out]; exact Nat.le_refl _)] at hr
  obtain ⟨Y4, C4, ev, hY4, hZ4, so4⟩ := hr.seen (Nat.le_refl _)
  rw [hV1.out] at ev hY4 so4
  subst ev
  generalize wr = x4 at *
  replace so3 := so3.more (S' := fun b => B3 ≤ b ∧ b < x4.heap.size) fun b hb => ⟨hb.1, Nat.lt_of_lt_of_le hb.2 hzw⟩
  obtain ⟨B5, hB5⟩ : ∃ B, B = x4.heap.size := ⟨_, rfl⟩
  have hzb5 : go < B5 := by rw [hB5]; exact ho.lt
  have q5 : x4.cell? ⟨w.heap.size, 5, none⟩ = some (.slice A5 c.sn c.sc) := by rw [hA5.out]; exact hq.cellv 5 rfl
  have ql := hq.lt
  go_upto_region 13 with (fail)
  clear q5 ql
  rw [← hB5] at so3
  rw [← hB5] at so4
  go_loopw [66] (fun i wr => ∃ (k : Nat) (v : Value), k ≤ c.sn ∧ i = .int .i64 (k : Int) ∧ Rows siteK wr B5 B5 135 v (c.S.take k) ∧ Blk wr go 41 (outC c (.slice Y3 c.pn C3) (.slice Y4 c.vn C4) (v)) ∧ Blk wr w.heap.size 29 (cfgC c) ∧ Blk wr (w.heap.size + 1) 41 #[.int .i64 0, .int .u32 0, .int .u32 0, .slice none 0 0, .slice none 0 0, .slice none 0 0, .int .i64 0, .int .i64 0, .int .i64 0, .int .i64 0, .int .i64 0, .int .i64 0, .int .i64 0, .int .i64 0, .int .i64 0, .int .i64 0, .int .i64 0, .int .i64 0, .int .i64 0] ∧ B5 ≤ wr.heap.size ∧ Below w.heap.size w wr ∧ Seen peerK wr (fun b => B3 ≤ b ∧ b < B5) Y3 c.pn c.P ∧ Seen vipT wr (fun b => B4 ≤ b ∧ b < B5) Y4 c.vn c.V) (fun i _ => c.sn - (intOf i).toNat)
  case atStart => exact ⟨0, _, Nat.zero_le _, rfl, Rows.nil _ _ _ _, ho, hq, hz, by omega, hB, so3, so4⟩
  case round =>
  clear ho hq hz hB so3 so4
  obtain ⟨k, v, hk, rfl, hr, ho, hq, hz, hzw, hB, so3, so4⟩ := hrel
  by_cases hlt : k < c.sn
  · have hki : (k : Int) < c.sn := by omega
    have hk0 : (0 : Int) ≤ k := by omega
    have hk40 : (k : Int) ≤ 300 := by omega
    obtain ⟨b, off, p, e1, hb, hp, hok, r0, r1, r2⟩ := site_cells (seen_nx hS5 hB) hlt
    subst e1
    have htk : c.S.take (k + 1) = c.S.take k ++ [p] := by rw [List.take_add_one, hp]; rfl
    have hlk : (c.S.take k).length = k := by rw [List.length_take]; have := hT1.out; omega
    have hbx := (Below.refl wr.heap.size wr).alloc (Nat.le_refl _) (.cells #[.int .i64 p.id, .int .u32 p.ad, .int .i64 p.cost] 125)
    have h5 := Blk.new wr 125 #[.int .i64 p.id, .int .u32 p.ad, .int .i64 p.cost]
    go_upto_region 15 with (fail)
    generalize wr.alloc (.cells #[.int .i64 p.id, .int .u32 p.ad, .int .i64 p.cost] 125) = w3 at *
    replace hr := hr.below hbx
    replace ho := ho.below hbx ho.lt
    replace hq := hq.below hbx hq.lt
    replace hz := hz.below hbx hz.lt
    replace hB := hB.trans (hbx.mono hB.size)
    replace so3 := so3.below hbx fun b hb => Nat.lt_of_lt_of_le hb.2 hzw
    replace so4 := so4.below hbx fun b hb => Nat.lt_of_lt_of_le hb.2 hzw
    replace hzw := Nat.le_trans hzw hbx.size
    clear hb r0 r1 r2 hbx
    obtain ⟨Av, cv, ev, -, -, -⟩ := hr.seen (Nat.le_refl _)
    rw [hlk] at ev
    subst ev
    have hl4 : (c.S.take k ++ [p]).length = k + 1 := by rw [List.length_append, hlk]; rfl
    have hby := (Below.refl w3.heap.size w3).alloc (Nat.le_refl _) (.cells #[.int .i64 p.id, .int .u32 p.ad, .int .i64 p.cost] 135)
    have hlit : Seen siteK (w3.alloc (.cells #[.int .i64 p.id, .int .u32 p.ad, .int .i64 p.cost] 135)) (fun _ => True) (some ⟨w3.heap.size, 0, none⟩) 1 [p] := seen_one w3 135 p #[.int .i64 p.id, .int .u32 p.ad, .int .i64 p.cost] rfl (S := fun _ => False) hok (fun _ h => h.elim) trivial (fun _ h => h.elim)
    have hokE : ∀ (S' : Nat → Prop) (w' : World), siteK.ok w' S' p := fun _ _ => hok
    have hr3 := hr.below hby
    have ho3 := ho.below hby ho.lt
    have hq3 := hq.below hby hq.lt
    have hz3 := hz.below hby hz.lt
    have hB3 := hB.trans (hby.mono hB.size)
    have hw3 := Nat.le_trans hzw hby.size
    have so33 := so3.below hby fun b hb => Nat.lt_of_lt_of_le hb.2 hzw
    have so43 := so4.below hby fun b hb => Nat.lt_of_lt_of_le hb.2 hzw
    have hapart : ∀ g', g' < B5 → some g' ≠ (Value.slice Av k cv).ownBlock := fun g' hg' e => by have := (hr.own g' e.symm).1; omega
    have o3 : w3.cell? ⟨go, 5, none⟩ = some (.slice Av k cv) := ho.cellv 5 rfl
    have ol := ho.lt
    have hlitn : (c.S.take k).length + 1 ≤ maxLen := by rw [hlk]; unfold maxLen; omega
    have hlitb : ((c.S.take k).length + 1) * 24 ≤ 140737488355328 := by rw [hlk]; omega
    go_upto_region 16 with (first
      | (refine wpList_load_blk rfl h5 125 (.tmp 9) rfl rfl Tryz.underlying125 rfl (by kernel_rfl) ?_)
      | (at_builtin; refine wpList_rows siteE_ok rfl (.tmp 71) (.tmp 73) rfl hr3 rfl rfl hlit (fun e he => by rw [List.mem_singleton.1 he]; exact hokE _ _) hlitn hlitb hw3 ?_; intro v4 w4 hr4 hg4; obtain ⟨A4, c4, ev4, -, -, -⟩ := hr4.seen (Nat.le_refl _); rw [hl4] at ev4; subst ev4; have ho4 := ho3.grown hg4 (hapart _ (by omega)); have o4 : w4.cell? ⟨go, 5, none⟩ = some (.slice Av k cv) := ho4.cellv 5 rfl; have f4 := ho4.frozen 5; have ol4 := ho4.lt))
    obtain ⟨so1, so2⟩ := blk_store ho4 5 (.slice A4 (k + 1) c4)
    replace so1 : Blk (w4.setCell ⟨go, 5, none⟩ (.slice A4 (k + 1) c4)) go 41 (outC c (.slice Y3 c.pn C3) (.slice Y4 c.vn C4) (.slice A4 (k + 1) c4)) := so1
    have hr5 := hr4.kept so2 (fun k' e => by injection e with e; omega) (Nat.le_refl _)
    rw [← htk] at hr5
    have hq5 := (hq3.grown hg4 (hapart _ (by omega))).far (p := ⟨go, 5, none⟩) (by simp; omega) (.slice A4 (k + 1) c4)
    have hz5 := (hz3.grown hg4 (hapart _ (by omega))).far (p := ⟨go, 5, none⟩) (by simp; omega) (.slice A4 (k + 1) c4)
    have hB5 := (hB3.trans ((hr3.below_app hg4 hw3).mono (by omega))).setCell (p := ⟨go, 5, none⟩) (by simp; omega) (.slice A4 (k + 1) c4)
    have hw5 := Nat.le_trans (Nat.le_trans hw3 hg4.size) so2.size
    have so34 := so33.grown hg4 fun b hb => ⟨Nat.lt_of_lt_of_le hb.2 hw3, fun e => hapart b hb.2 e.symm⟩
    have so35 := so34.grown so2 fun b hb => ⟨Nat.lt_of_lt_of_le hb.2 (Nat.le_trans hw3 hg4.size), fun e => by injection e with e; have := hb.1; omega⟩
    have so44 := so43.grown hg4 fun b hb => ⟨Nat.lt_of_lt_of_le hb.2 hw3, fun e => hapart b hb.2 e.symm⟩
    have so45 := so44.grown so2 fun b hb => ⟨Nat.lt_of_lt_of_le hb.2 (Nat.le_trans hw3 hg4.size), fun e => by injection e with e; have := hb.1; omega⟩
    generalize w4.setCell ⟨go, 5, none⟩ (.slice A4 (k + 1) c4) = w5 at *
    clear o4 f4 ol4 so2 hr4 ho4
    go_wp2_with fail
    exact ⟨⟨k + 1, _, by omega, by go_num, hr5, so1, hq5, hz5, hw5, hB5, so35, so45⟩, by simp [intOf]; omega⟩
  have hkn : k = c.sn := by omega
  subst hkn
  rw [List.take_of_length_le (by rw [hT1.out]; exact Nat.le_refl _)] at hr
  obtain ⟨Y5, C5, ev, hY5, hZ5, so5⟩ := hr.seen (Nat.le_refl _)
  rw [hT1.out] at ev hY5 so5
  subst ev
  generalize wr = x5 at *
  replace so3 := so3.more (S' := fun b => B3 ≤ b ∧ b < x5.heap.size) fun b hb => ⟨hb.1, Nat.lt_of_lt_of_le hb.2 hzw⟩
  replace so4 := so4.more (S' := fun b => B4 ≤ b ∧ b < x5.heap.size) fun b hb => ⟨hb.1, Nat.lt_of_lt_of_le hb.2 hzw⟩
  have hi2 : (Tryz.prog.info? 41).map (·.size) = some (outC c (.slice Y3 c.pn C3) (.slice Y4 c.vn C4) (.slice Y5 c.sn C5)).size := by kernel_rfl
  go_wp2_with (first
    | (refine wpList_load_blk rfl ho 41 (.tmp 3) rfl rfl Tryz.underlying41 rfl hi2 ?_)
    | (refine wpList_store_blk rfl hz 41 (.tmp 2) (.tmp 77) rfl rfl rfl rfl hi2 (by simp [outC, Value.oneCell']) ?_; intro w9 hz9 hg9))
  have hb9 := below_own hB hg9 hB.size (by omega)
  refine bodyPost_ret (results_c rfl _ rfl (load_blk hz9 Tryz.underlying41 rfl hi2)) rfl ?_
  refine ⟨{ c with pA := Y3, pc := C3, vA := Y4, vc := C4, sA := Y5, sc := C5 }, rfl, ⟨_, _, _, _, _, _, rfl⟩, ?_, hb9⟩
  have hS9 : ∀ (lo b : Nat), go < lo → lo ≤ b ∧ b < x5.heap.size → b < x5.heap.size ∧ some (w.heap.size + 1) ≠ some b := fun lo b h1 h2 => ⟨h2.2, fun e => by injection e with e; omega⟩
  have hM9 : ∀ (lo b : Nat), lo ≤ b ∧ b < x5.heap.size → b < w9.heap.size := fun lo b h => Nat.lt_of_lt_of_le h.2 hg9.size
  exact ⟨h.id_, h.own_, h.nums, h.damp, ⟨⟨hY3, hZ3⟩, ⟨hY4, hZ4⟩, ⟨hY5, hZ5⟩⟩, (so3.grown hg9 fun b hb => hS9 _ b hzb3 hb).more fun b hb => hM9 _ b hb, vip_ofT ((so4.grown hg9 fun b hb => hS9 _ b hzb4 hb).more fun b hb => hM9 _ b hb) fun a ha => (h.nx hb9).vips.2.1 a ha, (so5.grown hg9 fun b hb => hS9 _ b hzb5 hb).more fun b hb => hM9 _ b hb⟩
end Go.Proofs.YtgdeecmhhbdjgaaGreat

/- vip: whether a configuration is small; acts as an argument. -/
namespace Go.Proofs.YtgdeecmhhbdjgaaGreat
set_option linter.unusedVariables false
open Go Go.RowKit Go.Maps

structure ActWOk (a : ActW) : Prop where
  i0 : -9223372036854775808 ≤ a.id
  i1 : a.id ≤ 9223372036854775807
  n0 : (Lit.int .i64 a.n).wf = true
def actWK : RK ActW where
  size := 5
  cel a := [.int .i64 a.k, .int .i64 a.id, .int .i64 a.n, .bool a.on, .bool a.sm]
  ok _ _ a := ActWOk a
  pos := by omega
  len _ := rfl
  one _ u hu := by simp at hu; rcases hu with rfl | rfl | rfl | rfl | rfl <;> rfl
  keep h _ := h
  more h _ := h
theorem actW_cells {w : World} {S : Nat → Prop} {A : Option Addr} {n : Nat} {L : List ActW} {k : Nat} (h : Seen actWK w S A n L) (hk : k < n) :
    ∃ b off a, A = some ⟨b, off, none⟩ ∧ S b ∧ L[k]? = some a ∧ ActWOk a ∧ w.cell? ⟨b, off + k * 5, none⟩ = some (.int .i64 a.k) ∧ w.cell? ⟨b, off + k * 5 + 1, none⟩ = some (.int .i64 a.id) ∧ w.cell? ⟨b, off + k * 5 + 2, none⟩ = some (.int .i64 a.n) ∧
      w.cell? ⟨b, off + k * 5 + 3, none⟩ = some (.bool a.on) ∧ w.cell? ⟨b, off + k * 5 + 4, none⟩ = some (.bool a.sm) := by
  have hlt : k < L.length := by rw [h.1]; exact hk
  have hr := List.getElem?_eq_getElem hlt
  obtain ⟨b, off, e, hb, hc⟩ := h.cell hr
  exact ⟨b, off, _, e, hb, hr, h.2.1 _ (List.getElem_mem hlt), hc 0 (by decide), hc 1 (by decide), hc 2 (by decide), hc 3 (by decide), hc 4 (by decide)⟩
set_option maxRecDepth 100000 in
theorem open_actsW {H : Type} {enc : TypeId × Value → H} {W : World} {base b0 : Nat} {spare : Nat → Bool} {held : Bool} {r : Reach} {v : Value} {d : DataW H} {p : List MemPlace}
    (hv : Value.okWide Tryz.prog W r b0 79 v) (h : DataW.Trod enc Tryz.prog W base spare held 79 v d p) :
    ∃ A len cap rs, v = .slice A len cap ∧ len ≤ cap ∧ cap ≤ maxLen ∧ Seen actWK W (fun b => b < W.heap.size) A len rs := by
  obtain ⟨A, len, cap, vs, rfl, h1, h2, h3, h4⟩ := open_flat Tryz.underlying79 (show Tryz.prog.cellsOf 52 = 5 by kernel_rfl) (by omega) hv h
  obtain ⟨rs, hrs⟩ := seen_of_flat (R := actWK) h3 fun i hi => by
    obtain ⟨n0, y0, hy⟩ := h4 i hi
    replace hy : DataW.trod enc Tryz.prog W base spare held n0 52 [vs (i * 5 + 0), vs (i * 5 + 1), vs (i * 5 + 2), vs (i * 5 + 3), vs (i * 5 + 4)] = some y0 := hy
    obtain ⟨m0, z0, t0⟩ := trod_field (off := 0) (k := 1) (T := 3) Tryz.underlying52 hy 0 rfl rfl rfl (by kernel_rfl)
    replace t0 : DataW.trod enc Tryz.prog W base spare held m0 3 [vs (i * 5 + 0)] = some z0 := t0
    obtain ⟨m1, z1, t1⟩ := trod_field (off := 1) (k := 1) (T := 3) Tryz.underlying52 hy 1 rfl rfl rfl (by kernel_rfl)
    replace t1 : DataW.trod enc Tryz.prog W base spare held m1 3 [vs (i * 5 + 1)] = some z1 := t1
    obtain ⟨m2, z2, t2⟩ := trod_field (off := 2) (k := 1) (T := 3) Tryz.underlying52 hy 2 rfl rfl rfl (by kernel_rfl)
    replace t2 : DataW.trod enc Tryz.prog W base spare held m2 3 [vs (i * 5 + 2)] = some z2 := t2
    obtain ⟨m3, z3, t3⟩ := trod_field (off := 3) (k := 1) (T := 4) Tryz.underlying52 hy 3 rfl rfl rfl (by kernel_rfl)
    replace t3 : DataW.trod enc Tryz.prog W base spare held m3 4 [vs (i * 5 + 3)] = some z3 := t3
    obtain ⟨m4, z4, t4⟩ := trod_field (off := 4) (k := 1) (T := 4) Tryz.underlying52 hy 4 rfl rfl rfl (by kernel_rfl)
    replace t4 : DataW.trod enc Tryz.prog W base spare held m4 4 [vs (i * 5 + 4)] = some z4 := t4
    obtain ⟨x0, e0, w0⟩ := field_int Tryz.underlying3 t0
    obtain ⟨x1, e1, w1⟩ := field_int Tryz.underlying3 t1
    obtain ⟨x2, e2, w2⟩ := field_int Tryz.underlying3 t2
    obtain ⟨x3, e3⟩ := field_bool Tryz.underlying4 t3
    obtain ⟨x4, e4⟩ := field_bool Tryz.underlying4 t4
    refine ⟨⟨x0, x1, x2, x3, x4⟩, fun j hj => ?_, ?_⟩
    · show [.int .i64 x0, .int .i64 x1, .int .i64 x2, Value.bool x3, Value.bool x4][j]? = some (vs (i * 5 + j))
      match j, hj with
      | 0, _ => rw [e0]; rfl
      | 1, _ => rw [e1]; rfl
      | 2, _ => rw [e2]; rfl
      | 3, _ => rw [e3]; rfl
      | 4, _ => rw [e4]; rfl
    · exact ⟨(isI_wf w1).1, (isI_wf w1).2, w2⟩
  exact ⟨A, len, cap, rs, rfl, h1, h2, hrs⟩
set_option maxRecDepth 100000 in
set_option maxHeartbeats 8000000 in
theorem small33_any (w : World) (c : CfgV) (h : CfgIn w c) : Calls Tryz.prog 35 #[.agg (cfgC c)] w fun e w' => e = .returned (.bool (smallB c)) ∧ Below w.heap.size w w' := by
  have hB := (Below.refl w.heap.size w).alloc (Nat.le_refl _) (.cells (cfgC c) 29)
  have hq := Blk.new w 29 (cfgC c)
  have hVl := Lib.hid h.vips.1
  obtain ⟨A, hA⟩ : ∃ A, A = c.vA := ⟨_, rfl⟩
  have hSv := h.vips
  rw [← hA] at hSv
  go_enter Tryz.func35, Tryz.ntmps35
  go_upto_region 1 with (fail)
  generalize w.alloc (.cells (cfgC c) 29) = w1 at *
  have q3 : w1.cell? ⟨w.heap.size, 3, none⟩ = some (.slice c.pA c.pn c.pc) := hq.cellv 3 rfl
  have q4 : w1.cell? ⟨w.heap.size, 4, none⟩ = some (.slice A c.vn c.vc) := by rw [hA]; exact hq.cellv 4 rfl
  have q5 : w1.cell? ⟨w.heap.size, 5, none⟩ = some (.slice c.sA c.sn c.sc) := hq.cellv 5 rfl
  have ql := hq.lt
  replace hA := Lib.hid hA
  by_cases h0 : c.pn ≤ 20 ∧ c.vn ≤ 40 ∧ c.sn ≤ 40
  rotate_left
  · have ev := Lib.hid (show smallB c = false by unfold smallB; rw [Bool.eq_false_iff]; simp only [ne_eq, Bool.and_eq_true, decide_eq_true_eq]; exact fun q => h0 ⟨q.1, q.2.1, q.2.2.1⟩)
    by_cases k1 : c.pn ≤ 20
    · have d1 : decide ((20 : Int) < c.pn) = false := by simp; omega
      by_cases k2 : c.vn ≤ 40
      · have d2 : decide ((40 : Int) < c.vn) = false := by simp; omega
        have d3 : decide ((40 : Int) < c.sn) = true := by simp; omega
        clear h0
        go_wp2_with fail
        go_ret
        exact ⟨ret_bool ev.out.symm, hB⟩
      · have d2 : decide ((40 : Int) < c.vn) = true := by simp; omega
        clear h0
        go_wp2_with fail
        go_ret
        exact ⟨ret_bool ev.out.symm, hB⟩
    · have d1 : decide ((20 : Int) < c.pn) = true := by simp; omega
      clear h0
      go_wp2_with fail
      go_ret
      exact ⟨ret_bool ev.out.symm, hB⟩
  obtain ⟨k1, k2, k3⟩ := h0
  have d1 : decide ((20 : Int) < c.pn) = false := by simp; omega
  have d2 : decide ((40 : Int) < c.vn) = false := by simp; omega
  have d3 : decide ((40 : Int) < c.sn) = false := by simp; omega
  go_upto_region 4 with (fail)
  clear q3 q4 q5 ql d1 d2 d3
  go_loopw [24] (fun i wr => ∃ k : Nat, k ≤ c.vn ∧ i = .int .i64 (k : Int) ∧ (∀ j a, j < k → c.V[j]? = some a → a.n ≤ 40) ∧ Below w.heap.size w wr) (fun i _ => c.vn - (intOf i).toNat)
  case atStart => exact ⟨0, Nat.zero_le _, rfl, fun j a hj => absurd hj (by omega), hB⟩
  case round =>
  clear hq hB
  obtain ⟨k, hk, rfl, hall, hB⟩ := hrel
  replace hall := Lib.hid hall
  by_cases hlt : k < c.vn
  · have hki : (k : Int) < c.vn := by omega
    have hk0 : (0 : Int) ≤ k := by omega
    have hk40 : (k : Int) ≤ 40 := by omega
    obtain ⟨b, off, v, e1, hb, hv, hok, r0, r1, r2⟩ := vip_cells (seen_nx hSv hB) hlt
    subst e1
    have hv9 := Lib.hid hv
    have hbx := (Below.refl wr.heap.size wr).alloc (Nat.le_refl _) (.cells #[.int .u32 v.ad, .int .i64 v.pct, .slice v.A v.n v.c] 109)
    have h5 := Blk.new wr 109 #[.int .u32 v.ad, .int .i64 v.pct, .slice v.A v.n v.c]
    replace hB := hB.trans (hbx.mono hB.size)
    clear hv
    go_upto_region 6 with (fail)
    generalize wr.alloc (.cells #[.int .u32 v.ad, .int .i64 v.pct, .slice v.A v.n v.c] 109) = w3 at *
    generalize wr.heap.size = g5 at *
    have s2 : w3.cell? ⟨g5, 2, none⟩ = some (.slice v.A v.n v.c) := h5.cellv 2 rfl
    have sl := h5.lt
    clear r0 r1 r2 hbx hb
    by_cases hn : v.n ≤ 40
    · have d1 : decide ((40 : Int) < v.n) = false := by simp; omega
      have hall2 := Lib.hid (show ∀ j a, j < k + 1 → c.V[j]? = some a → a.n ≤ 40 from fun j a hj ha => by
        by_cases hjk : j < k
        · exact hall.out j a hjk ha
        · obtain rfl : j = k := by omega
          rw [hv9.out] at ha; injection ha with ha; subst ha
          exact hn)
      go_wp2_with fail
      exact ⟨⟨k + 1, by omega, by go_num, hall2.out, hB⟩, by simp [intOf]; omega⟩
    · have d1 : decide ((40 : Int) < v.n) = true := by simp; omega
      have ev := Lib.hid (show smallB c = false by unfold smallB; rw [all_no hv9.out (by simp; omega)]; simp)
      go_wp2_with fail
      go_ret
      exact ⟨ret_bool ev.out.symm, hB⟩
  · obtain rfl : k = c.vn := by omega
    have ev := Lib.hid (show smallB c = true by
      unfold smallB
      rw [all_yes fun j a ha => by simpa using hall.out j a (by have := (List.getElem?_eq_some_iff.1 ha).1; have := hVl.out; omega) ha]
      simp [k1, k2, k3])
    go_wp2_with fail
    go_ret
    exact ⟨ret_bool ev.out.symm, hB⟩
end Go.Proofs.YtgdeecmhhbdjgaaGreat

/- vip: VipReturns. -/
namespace Go.Proofs.YtgdeecmhhbdjgaaGreat
set_option linter.unusedVariables false
open Go Go.RowKit Go.Maps

/-- who is held is down; the penalty is not above the ceiling; the rule stays. -/
structure InvV (c : CfgV) (s : VpS) : Prop where
  good : GoodV s
  hl : s.hd = true → s.lv = 0
  pe : s.pe ≤ c.dC
  rule : s.dF = c.dF ∧ s.dS = c.dS ∧ s.dR = c.dR ∧ s.dC = c.dC ∧ s.dH = c.dH
theorem want_hd {s : VpS} {b : Bool} (h : s.hd = true) : wantS s b = 0 := by
  unfold wantS
  simp [h]
theorem look_hl (s : VpS) (b : Bool) : (lookS s b).hd = true → (lookS s b).lv = 0 := by
  unfold lookS
  split
  · rename_i q
    exact fun _ => q.2
  · exact fun h => want_hd h
theorem InvV.look {c : CfgV} {s : VpS} (h : InvV c s) (b : Bool) : InvV c (lookS s b) := by
  refine ⟨h.good.look b, look_hl s b, ?_, ?_⟩
  · unfold lookS
    split
    · show dm.lowest (s.pe + s.dF) s.dC ≤ c.dC
      unfold dm.lowest
      have := h.rule.2.2.2.1
      split <;> omega
    · exact h.pe
  · unfold lookS
    split <;> exact h.rule
theorem InvV.tick {c : CfgV} {s : VpS} (h : InvV c s) : (tickD s).pe ≤ c.dC ∧ GoodV (tickD s) :=
  ⟨Int.le_trans (dm.decay_le _ _ h.good.pe0) h.pe, h.good.tick⟩
theorem InvV.tickS {c : CfgV} {s : VpS} (h : InvV c s) (b : Bool) : InvV c (tickS s b) := by
  have h1 : InvV c (tickD s) := ⟨h.good.tick, fun q => h.hl (by
    have : (s.hd && _) = true := q
    simp only [Bool.and_eq_true] at this
    exact this.1), (h.tick).1, h.rule⟩
  exact h1.look b
theorem InvV.res {c : CfgV} {s : VpS} (h : InvV c s) (i : Int) (ok : Bool) : InvV c (resS s i ok).2 := by
  refine ⟨resS_good h.good, ?_, ?_, ?_⟩ <;> unfold resS <;> split
  · split
    · exact h.hl
    · exact h.hl
  · exact h.hl
  · split
    · exact h.pe
    · exact h.pe
  · exact h.pe
  · split
    · exact h.rule
    · exact h.rule
  · exact h.rule
theorem InvV.act {c : CfgV} {s : VpS} (h : InvV c s) (a : ActW) : InvV c (actS s a) := by
  have hg := actS_good h.good a
  unfold actS at hg ⊢
  split
  · exact h.res _ _
  · rename_i n0
    rw [if_neg n0] at hg
    split
    · exact h.res _ _
    · rename_i n1
      rw [if_neg n1] at hg
      split
      · exact h.tickS _
      · rename_i n2
        rw [if_neg n2] at hg
        split
        · exact h.look _
        · rename_i n3
          rw [if_neg n3] at hg
          split
          · rename_i n4
            rw [if_pos n4] at hg
            exact ⟨hg, h.hl, h.pe, h.rule⟩
          · rename_i n4
            rw [if_neg n4] at hg
            split
            · rename_i n5
              rw [if_pos n5] at hg
              exact ⟨hg, h.hl, h.pe, h.rule⟩
            · split
              · exact ⟨⟨h.good.dg, h.good.pe0, h.good.pe1, h.good.mem, h.good.ri, h.good.fa, h.good.run⟩, h.hl, h.pe, h.rule⟩
              · exact h
theorem InvV.on {c : CfgV} {s : VpS} (h : InvV c s) (b : Bool) : InvV c { s with on := b } := ⟨⟨h.good.dg, h.good.pe0, h.good.pe1, h.good.mem, h.good.ri, h.good.fa, h.good.run⟩, h.hl, h.pe, h.rule⟩
theorem want_on {s : VpS} (h : s.on = true) : (wantS s true = 0 ↔ s.hd = true) := by
  unfold wantS
  have : srvS s true = true := by unfold srvS; simp [h]
  rw [if_neg (by rw [this]; decide)]
  split
  · rename_i q; exact ⟨fun _ => q, fun _ => rfl⟩
  · rename_i q
    split
    · exact ⟨fun e => by omega, fun e => absurd e q⟩
    · exact ⟨fun e => by omega, fun e => absurd e q⟩
/-- held behind a tick: the penalty fell, and is above what it must fall to. -/
theorem tick_down {c : CfgV} {s : VpS} (h : InvV c s) (hon : s.on = true) (hd : wantS (tickD s) true = 0) : (tickS s true).on = true ∧ s.dR < (tickS s true).pe ∧ (tickS s true).pe = dm.decay s.pe s.dH ∧ s.dR < s.pe := by
  have h1 : (tickD s).hd = true := (want_on (s := tickD s) hon).1 hd
  have h2 : s.hd = true ∧ decide (s.dR < dm.decay s.pe s.dH) = true := by
    have : (s.hd && decide (s.dR < dm.decay s.pe s.dH)) = true := h1
    simpa only [Bool.and_eq_true] using this
  have h3 : s.dR < dm.decay s.pe s.dH := by simpa using h2.2
  have e : tickS s true = { tickD s with lv := wantS (tickD s) true } := by
    unfold tickS lookS
    rw [if_neg (fun q => q.1 (h.hl h2.1))]
  rw [e]
  refine ⟨hon, h3, rfl, ?_⟩
  have := dm.decay_le s.pe s.dH h.good.pe0
  omega
/-- not held: told, and so it stays. -/
theorem tick_up {c : CfgV} {s : VpS} (hon : s.on = true) (hd : wantS (tickD s) true ≠ 0) : (tickS s true).on = true ∧ (tickS s true).hd = false := by
  have h1 : (tickD s).hd = false := by
    cases hh : (tickD s).hd with
    | false => rfl
    | true => exact absurd ((want_on (s := tickD s) hon).2 hh) hd
  have e : tickS s true = { tickD s with lv := wantS (tickD s) true } := by
    unfold tickS lookS
    rw [if_neg (fun q => hd q.2)]
  rw [e]
  exact ⟨hon, h1⟩
theorem up_up {s : VpS} (hon : s.on = true) (hh : s.hd = false) : wantS (tickD s) true ≠ 0 := fun e => by
  have h1 : (tickD s).hd = true := (want_on (s := tickD s) hon).1 e
  have : (s.hd && decide (s.dR < dm.decay s.pe s.dH)) = true := h1
  rw [hh] at this
  cases this
theorem new_inv {c : CfgV} {v : VipV} {k : Nat} (hok : partC c = 0) (hv : c.V[k]? = some v) : InvV c (newS c v (mkM v.L)) := by
  obtain ⟨hg, _⟩ := newS_good hok hv
  have := of_decide_eq_true hg.dg
  exact ⟨hg, (fun q => by cases q), (by show (0 : Int) ≤ c.dC; have h1 : 1 ≤ c.dS := this.2.2.1; have h2 : c.dS ≤ c.dC := this.2.2.2.2.2.2.1; omega), rfl, rfl, rfl, rfl, rfl⟩
theorem again9 {c c' : CfgV} (h : Again c c') : partC c' = partC c ∧ c'.V = c.V ∧ (CfgSm c → CfgSm c') ∧ (∀ v N L n, newR c' v N L n = newR c v N L n) := by
  obtain ⟨A3, c3, A4, c4, A5, c5, rfl⟩ := h
  exact ⟨rfl, rfl, fun q => ⟨q.p, q.v, q.s, q.b⟩, fun _ _ _ _ => rfl⟩
theorem newR_good {c : CfgV} {v : VipV} {k N : Nat} {L : List Mem} (hok : partC c = 0) (hv : c.V[k]? = some v) (hR : Rel (mkM v.L) L) (hn : v.L.length = v.n) : GoodR (newR c v N L v.n) := by
  obtain ⟨hg, _⟩ := newS_good hok hv
  refine ⟨hg.dg, Int.le_refl 0, (by decide : (0 : Int) ≤ 1000000), rel_ok hR, ?_, fun x hx => ?_⟩
  · show (List.replicate v.n _).length = L.length
    rw [List.length_replicate, hR.1.length_eq, ← hn]
    simp [mkM]
  · rw [(List.mem_replicate.1 hx).2]
    exact ⟨Int.le_refl 0, (by decide : (0 : Int) ≤ 1000)⟩
end Go.Proofs.YtgdeecmhhbdjgaaGreat

/- vip: VipReturns: the law is true of every input. -/
namespace Go.Proofs.YtgdeecmhhbdjgaaGreat
set_option linter.unusedVariables false
open Go Go.RowKit Go.Maps

set_option maxRecDepth 100000 in
set_option maxHeartbeats 16000000 in
theorem returns_core (w : World) (c : CfgV) (A : Option Addr) (n cp : Nat) (ls : List ActW) (mo : Int) (h : CfgIn w c) (hS : Seen actWK w (fun b => b < w.heap.size) A n ls) (hm0 : 0 ≤ mo) (hm1 : mo ≤ 255) :
    Calls Tryz.prog 6 #[.agg (cfgC c), .slice A n cp, .int .u8 mo] w fun e w' => e = .returned (.bool true) ∧ Below w.heap.size w w' := by
  have hB := (Below.refl w.heap.size w).alloc (Nat.le_refl _) (.cells (cfgC c) 29)
  have hq := Blk.new w 29 (cfgC c)
  have hC := h.nx hB
  have hiC : (Tryz.prog.info? 29).map (·.size) = some (cfgC c).size := by kernel_rfl
  go_enter Tryz.func6, Tryz.ntmps6
  go_upto_region 1 with (fail)
  generalize w.alloc (.cells (cfgC c) 29) = w1 at *
  have hsm := small33_any w1 c hC
  cases esm : smallB c
  · rw [esm] at hsm
    go_wp2_with (first
      | (refine wpList_load_blk rfl hq 29 (.tmp 3) rfl rfl Tryz.underlying29 rfl hiC ?_)
      | (go_at_call 35; refine hsm.mono ?_; rintro e w2 ⟨rfl, hb⟩)
      | (go_at_call 34; refine (lives33_any w2).mono ?_; rintro e w9 ⟨rfl, hb9⟩))
    go_ret
    exact ⟨rfl, (hB.trans (hb.mono hB.size)).trans (hb9.mono (Nat.le_trans hB.size hb.size))⟩
  rw [esm] at hsm
  have hs := small_sm esm
  clear esm
  by_cases hbig : 150 < n ∨ 500 < c.dH ∨ 50000 < c.dC
  · by_cases x1 : 150 < n
    · have d1 : decide ((150 : Int) < n) = true := by simp; omega
      go_wp2_with (first
        | (refine wpList_load_blk rfl hq 29 (.tmp 3) rfl rfl Tryz.underlying29 rfl hiC ?_)
        | (go_at_call 35; refine hsm.mono ?_; rintro e w2 ⟨rfl, hb⟩)
        | (go_at_call 34; refine (lives33_any w2).mono ?_; rintro e w9 ⟨rfl, hb9⟩))
      go_ret
      exact ⟨rfl, (hB.trans (hb.mono hB.size)).trans (hb9.mono (Nat.le_trans hB.size hb.size))⟩
    have d1 : decide ((150 : Int) < n) = false := by simp; omega
    have hbig2 : 500 < c.dH ∨ 50000 < c.dC := hbig.resolve_left x1
    clear hbig
    by_cases x2 : 500 < c.dH
    · have d2 : decide (500 < c.dH) = true := by simpa using x2
      clear hbig2
      go_wp2_with (first
        | (refine wpList_load_blk rfl hq 29 (.tmp 3) rfl rfl Tryz.underlying29 rfl hiC ?_)
        | (go_at_call 35; refine hsm.mono ?_; rintro e w2 ⟨rfl, hb⟩; have q17 : w2.cell? ⟨w.heap.size, 17, none⟩ = some (.int .i64 c.dH) := (hq.below hb hq.lt).cellv 17 rfl; have ql := (hq.below hb hq.lt).lt)
        | (go_at_call 34; refine (lives33_any w2).mono ?_; rintro e w9 ⟨rfl, hb9⟩))
      go_ret
      exact ⟨rfl, (hB.trans (hb.mono hB.size)).trans (hb9.mono (Nat.le_trans hB.size hb.size))⟩
    have d2 : decide (500 < c.dH) = false := by simpa using x2
    have x3 : 50000 < c.dC := hbig2.resolve_left x2
    have d3 : decide (50000 < c.dC) = true := by simpa using x3
    clear hbig2
    go_wp2_with (first
      | (refine wpList_load_blk rfl hq 29 (.tmp 3) rfl rfl Tryz.underlying29 rfl hiC ?_)
      | (go_at_call 35; refine hsm.mono ?_; rintro e w2 ⟨rfl, hb⟩; have q17 : w2.cell? ⟨w.heap.size, 17, none⟩ = some (.int .i64 c.dH) := (hq.below hb hq.lt).cellv 17 rfl; have q16 : w2.cell? ⟨w.heap.size, 16, none⟩ = some (.int .i64 c.dC) := (hq.below hb hq.lt).cellv 16 rfl; have ql := (hq.below hb hq.lt).lt)
      | (go_at_call 34; refine (lives33_any w2).mono ?_; rintro e w9 ⟨rfl, hb9⟩))
    go_ret
    exact ⟨rfl, (hB.trans (hb.mono hB.size)).trans (hb9.mono (Nat.le_trans hB.size hb.size))⟩
  have hn : n ≤ 150 := by omega
  have hdC : c.dC ≤ 50000 := by omega
  have d1 : decide ((150 : Int) < n) = false := by simp; omega
  have d2 : decide (500 < c.dH) = false := by simp; omega
  have d3 : decide (50000 < c.dC) = false := by simp; omega
  clear hbig
  go_upto_region 3 with (first
    | (refine wpList_load_blk rfl hq 29 (.tmp 3) rfl rfl Tryz.underlying29 rfl hiC ?_)
    | (go_at_call 35; refine hsm.mono ?_; rintro e w2 ⟨rfl, hb⟩; have q17 : w2.cell? ⟨w.heap.size, 17, none⟩ = some (.int .i64 c.dH) := (hq.below hb hq.lt).cellv 17 rfl; have q16 : w2.cell? ⟨w.heap.size, 16, none⟩ = some (.int .i64 c.dC) := (hq.below hb hq.lt).cellv 16 rfl; have ql := (hq.below hb hq.lt).lt))
  clear q16 q17 ql d1 d2 d3 hsm
  replace hB := hB.trans (hb.mono hB.size)
  replace hC := hC.nx hb
  replace hq := hq.below hb hq.lt
  clear hb
  by_cases hok : partC c = 0
  rotate_left
  · have e12 : errC c = 12 := by unfold errC; rw [if_neg hok]
    have hnew := vpNew_no w2 c hC hs 0 (.inl hok)
    have hch := fun w (h : CfgIn w c) => checkC_any w c h hs
    rw [e12] at hch
    clear e12
    replace hok := Lib.hid hok
    go_wp2_with (first
      | (refine wpList_load_blk rfl hq 29 (.tmp 3) rfl rfl Tryz.underlying29 rfl hiC ?_)
      | (go_at_call 36; refine hnew.mono ?_; rintro e w3 ⟨rfl, hb3⟩; replace hq := hq.below hb3 hq.lt)
      | (go_at_call 46; refine (hch w3 (hC.nx hb3)).mono ?_; rintro e w4 ⟨rfl, hb4⟩)
      | (go_at_call 34; refine (lives33_any w4).mono ?_; rintro e w9 ⟨rfl, hb9⟩))
    go_ret
    have hB3 := hB.trans (hb3.mono hB.size)
    have hB4 := hB3.trans (hb4.mono hB3.size)
    exact ⟨rfl, hB4.trans (hb9.mono hB4.size)⟩
  have hV1 : 1 ≤ c.V.length := by
    have := (part_all hok).2.2.1
    unfold vipsB at this
    simp only [Bool.and_eq_true, decide_eq_true_eq] at this
    exact this.1.1
  obtain ⟨v, hv⟩ : ∃ v, c.V[0]? = some v := ⟨_, List.getElem?_eq_getElem (by omega)⟩
  have hvl : v.L.length = v.n := ((h.vips.2.1 v (List.mem_of_getElem? hv)).2.2.2.2).1
  have hnew := vpNew_yes w2 c hC hs hok 0 v hv
  rw [show ((0 : Nat) : Int) = 0 from rfl] at hnew
  have hI0 := new_inv hok hv
  have hDg : dm.goodR c.dF c.dS c.dR c.dC c.dH = true := (part_all hok).2.2.2.2.2.2.1
  have hlB := hq.lt
  go_upto_region 7 with (first
    | (refine wpList_load_blk rfl hq 29 (.tmp 3) rfl rfl Tryz.underlying29 rfl hiC ?_)
    | (go_at_call 36; refine hnew.mono ?_; rintro e w3 ⟨g, X, rfl, hT, hX2, hb3⟩))
  clear hnew
  replace hB := hB.trans (hb3.mono hB.size)
  replace hC := hC.nx hb3
  replace hq := hq.below hb3 hq.lt
  have hXb : ∀ k, X k → w.heap.size < k := fun k q => by have := hX2 k q; omega
  clear hb3 hX2
  clear hC
  go_upto_region 8 with (fail)
  go_loopw [51] (fun i wr => ∃ (j : Nat) (s : VpS), j ≤ n ∧ i = .int .i64 (j : Int) ∧ VipT wr X g s ∧ InvV c s ∧ Blk wr w.heap.size 29 (cfgC c) ∧ Below w.heap.size w wr) (fun i _ => n - (intOf i).toNat)
  case atStart => exact ⟨0, _, Nat.zero_le _, rfl, hT, hI0, hq, hB⟩
  case round =>
  clear hT hI0 hq hB
  obtain ⟨j, s, hj, rfl, hT, hI, hq, hB⟩ := hrel
  by_cases hlt : j < n
  · have hji : (j : Int) < n := by omega
    have hj0 : (0 : Int) ≤ j := by omega
    obtain ⟨bb, off, a, eA, hbb, ha, haok, r0, r1, r2, r3, r4⟩ := actW_cells (seen_nx hS hB) hlt
    subst eA
    have hbx := (Below.refl wr.heap.size wr).alloc (Nat.le_refl _) (.cells #[.int .i64 a.k, .int .i64 a.id, .int .i64 a.n, .bool a.on, .bool a.sm] 52)
    have h11 := Blk.new wr 52 #[.int .i64 a.k, .int .i64 a.id, .int .i64 a.n, .bool a.on, .bool a.sm]
    have hXl := hT.lt
    have n11 : ¬ X wr.heap.size := fun q => by have := hXl _ q; omega
    have n0 : ¬ X w.heap.size := fun q => by have := hXb _ q; omega
    go_upto_region 10 with (fail)
    clear r0 r1 r2 r3 r4
    replace hT := hT.nx hbx
    replace hq := hq.below hbx hq.lt
    replace hB := hB.trans (hbx.mono hB.size)
    generalize wr.alloc (.cells #[.int .i64 a.k, .int .i64 a.id, .int .i64 a.n, .bool a.on, .bool a.sm] 52) = w5 at *
    have hC5 := h.nx hB
    have hX5 := hT.lt
    clear hXl hbb ha hbx
    generalize wr.heap.size = a11 at *
    -- region 10: 0 1 2C 3C 4 5C
    try refine wp_region_noPanic ?_
    have hs1r : (fun w' => Chg w5 w' X) w5.drew := Chg.of_below (Below.refl _ _).drew
    refine wp_region_held_drew (S := fun w' => Chg w5 w' X) (by kernel_rfl) hs1r (fun _ => ?_)
    (refine held_takeA 0 (by rfl) ?_ (by kernel_rfl) (fun _ _ _ h => h) hs1r ?_ ?_; rotate_left; (focus (intro wq hSw; have hrd := hSw; go_simp; try with_reducible rfl; done)); try simp only [Act.put, List.setIfInBounds_toArray, List.set_cons_zero, List.set_cons_succ])
    (refine held_takeA 1 (by rfl) ?_ (by kernel_rfl) (fun _ _ _ h => h) hs1r ?_ ?_; rotate_left; (focus (intro wq hSw; refine exec_load_blk (x := .tmp 3) ?_ ?_ (Chg.blk hSw hq n0) _ Tryz.underlying29 rfl (by kernel_rfl) <;> rfl)); simp only [Act.put, List.setIfInBounds_toArray, List.set_cons_zero, List.set_cons_succ])
    (refine held_takeA 4 (by rfl) ?_ (by kernel_rfl) (fun _ _ _ h => h) hs1r ?_ ?_; rotate_left; (focus (intro wq hSw; refine exec_load_blk (x := .tmp 11) ?_ ?_ (Chg.blk hSw h11 n11) _ Tryz.underlying52 rfl (by kernel_rfl) <;> rfl)); simp only [Act.put, List.setIfInBounds_toArray, List.set_cons_zero, List.set_cons_succ])
    refine held_callA 2 (by rfl) (by kernel_rfl) (by rfl) (fun KQ hKQ => ?_)
    go_simp
    refine (plain33_any w5.drew c (hC5.nx (Below.refl _ _).drew) hs).mono ?_
    rintro e w6 ⟨c', rfl, hAg, hC6, hb6⟩
    replace hb6 : Below w5.heap.size w5 w6 := ⟨hb6.os, hb6.tape, hb6.output, hb6.size, hb6.block⟩
    obtain ⟨gP, gV, gS, gN⟩ := again9 hAg
    have hT6 := hT.nx hb6
    have hs2r := (Chg.of_below (X := X) hb6)
    refine hKQ.out _ _ hs2r ?_
    clear hKQ KQ
    try simp only [Act.put, List.setIfInBounds_toArray, List.set_cons_zero, List.set_cons_succ]
    refine held_callA 3 (by rfl) (by kernel_rfl) (by rfl) (fun KQ hKQ => ?_)
    go_simp
    refine (rvNew_yes w6 c' hC6 (gS hs) (gP.trans hok) 0 v (by rw [gV]; exact hv) 0 X hT6.lt).mono ?_
    rintro e w7 ⟨gr, D, L, rfl, hM, hRel, hD, hb7⟩
    rw [gN] at hM
    have hT7 := hT6.nx hb7
    have hb67 := hb6.trans (hb7.mono hb6.size)
    have hz6 := hb6.size
    have hgR := newR_good (N := 0) hok hv hRel hvl
    have hact := act33_any w7 X (fun k => D k ∨ X k) D g gr s (newR c v 0 L v.n) a hT7 hM hI.good hgR (fun k q => ⟨.inr q, fun y => by have := hD k y; have := hX5 k q; omega⟩) (by show ([] : List EnV).length ≤ 1000000; decide) haok.i0 haok.i1
    have hs3r := (Chg.of_below (X := X) hb67)
    refine hKQ.out _ _ hs3r ?_
    clear hKQ KQ
    try simp only [Act.put, List.setIfInBounds_toArray, List.set_cons_zero, List.set_cons_succ]
    refine held_callA 5 (by rfl) (by kernel_rfl) (by rfl) (fun KQ hKQ => ?_)
    go_simp
    refine hact.mono ?_
    rintro e w8 ⟨rfl, hT8, -, hC8⟩
    have hC58 : Chg w5 w8 X := (Chg.of_below (X := X) hb67).trans hC8 fun k hk q => q.elim id fun y => by have := hD k y; omega
    have hs4r := hC58
    refine hKQ.out _ _ hs4r ?_
    clear hKQ KQ
    try simp only [Act.put, List.setIfInBounds_toArray, List.set_cons_zero, List.set_cons_succ]
    refine wpAnyH_done (by kernel_rfl) ?_ _
    try refine NoPanic.normal ?_
    have hq8 := hC58.blk hq n0
    have hB8 := below_chg9 hB hC58 (fun k q => Nat.le_of_lt (hXb k q)) (Nat.le_refl _)
    clear hact hM hgR hT hT6 hT7 hq hb6 hb7 hb67 hC5 hC6 hC8 hAg h11
    go_wp2_with fail
    exact ⟨⟨j + 1, _, by omega, by go_num, hT8, hI.act a, hq8, hB8⟩, by simp [intOf]; omega⟩
  · obtain rfl : j = n := by omega
    obtain ⟨d, p0, pb, f0, m, XF, kb, hR, hXf, hXl⟩ := hT
    go_upto_region 13 with (go_at_call 25; refine (vpEnable hR true).mono ?_; rintro en w4 ⟨rfl, hR4, hC4⟩)
    have hC4' : Chg wr w4 X := hC4.mono fun k _ q => hXf k (.inl q)
    have hT4 := VipT.of (w0 := wr) (X := X) hR4 rfl hXf (fun _ q => q) hXl hC4.size
    have hI4 := hI.on true
    have n0 : ¬ X w.heap.size := fun q => by have := hXb _ q; omega
    have hq4 := hC4'.blk hq n0
    have hB4 := below_chg9 hB hC4' (fun k q => Nat.le_of_lt (hXb k q)) (Nat.le_refl _)
    have hon : ({ s with on := true } : VpS).on = true := rfl
    generalize ({ s with on := true } : VpS) = s4 at *
    clear hR hR4 hC4 hC4' hq hB hI hXf hXl
    have hDR := of_decide_eq_true hDg
    have hR0 : 0 ≤ c.dR := hDR.2.2.2.2.1
    have hTC : dm.ticks c.dR c.dH c.dC ≤ 50000 := Nat.le_trans (dm.ticks_le _ _ _ hR0) (by omega)
    have hstart : 0 + dm.ticks c.dR c.dH s4.pe ≤ dm.ticks c.dR c.dH c.dC := by rw [Nat.zero_add]; exact dm.ticks_mono _ _ _ _ hR0 hI4.pe
    have htk := fun w => dm.refTicks_yes c.dF c.dS c.dR c.dC c.dH w hDg
    generalize hTCe : dm.ticks c.dR c.dH c.dC = TC at *
    clear hTCe
    replace hDR := Lib.hid hDR
    replace hstart := Lib.hid hstart
    go_upto_region 14 with (fail)
    go_loopw [12] (fun i wr => ∃ (k : Nat) (s : VpS), i = .int .i64 (k : Int) ∧ VipT wr X g s ∧ InvV c s ∧ s.on = true ∧ k + dm.ticks c.dR c.dH s.pe ≤ TC ∧ Blk wr w.heap.size 29 (cfgC c) ∧ Below w.heap.size w wr) (fun i _ => TC + 1 - (intOf i).toNat)
    case atStart => exact ⟨0, _, rfl, hT4, hI4, hon, hstart.out, hq4, hB4⟩
    case round =>
    clear hT4 hI4 hon hstart hq4 hB4
    obtain ⟨k, s, rfl, hT, hI, hon, hle, hq, hB⟩ := hrel
    obtain ⟨d, p0, pb, f0, m, XF, kb, hR, hXf, hXl⟩ := hT
    have htick := vpTick hR hI.good true
    have hidt : idsM (tickS s true).M = idsM s.M := congrArg idsM (lookS_M _ _)
    by_cases hdn : wantS (tickD s) true = 0
    · obtain ⟨t1, t2, t3, t4⟩ := tick_down hI hon hdn
      have hst := dm.ticks_step c.dR c.dH s.pe hR0 (by rw [← hI.rule.2.2.1]; exact t4)
      have hle2 : (k + 1) + dm.ticks c.dR c.dH (tickS s true).pe ≤ TC := by rw [t3, hI.rule.2.2.2.2]; omega
      rw [hdn] at htick
      replace hdn := Lib.hid hdn
      replace hst := Lib.hid hst
      replace t3 := Lib.hid t3
      have hk1 : (k : Int) + 1 ≤ TC := by have := hle2; omega
      have dk : decide ((TC : Int) < (k : Int) + 1) = false := by simp; omega
      go_upto_region 16 with (go_at_call 19; refine htick.mono ?_; rintro en w5 ⟨rfl, hR5, hC5⟩)
      have hC5' : Chg wr w5 X := hC5.mono fun k _ q => hXf k (foot_gd q)
      have hT5 := VipT.of (w0 := wr) (X := X) hR5 hidt hXf (fun _ q => q) hXl hC5.size
      have hq5 := hC5'.blk hq n0
      have hB5 := below_chg9 hB hC5' (fun k q => Nat.le_of_lt (hXb k q)) (Nat.le_refl _)
      clear hR hR5 hC5 hC5' hq hB htick hXf hXl
      have q13 : w5.cell? ⟨w.heap.size, 13, none⟩ = some (.int .i64 c.dF) := hq5.cellv 13 rfl
      have q14 : w5.cell? ⟨w.heap.size, 14, none⟩ = some (.int .i64 c.dS) := hq5.cellv 14 rfl
      have q15 : w5.cell? ⟨w.heap.size, 15, none⟩ = some (.int .i64 c.dR) := hq5.cellv 15 rfl
      have q16 : w5.cell? ⟨w.heap.size, 16, none⟩ = some (.int .i64 c.dC) := hq5.cellv 16 rfl
      have q17 : w5.cell? ⟨w.heap.size, 17, none⟩ = some (.int .i64 c.dH) := hq5.cellv 17 rfl
      have ql := hq5.lt
      go_wp2_with (go_at_call 47; refine (htk w5).mono ?_; rintro en w6 ⟨rfl, hb6⟩)
      exact ⟨⟨k + 1, _, by go_num, hT5.nx hb6, hI.tickS true, t1, hle2, hq5.below hb6 hq5.lt, hB5.trans (hb6.mono hB5.size)⟩, by simp [intOf]; omega⟩
    · obtain ⟨t1, t2⟩ := tick_up (c := c) hon hdn
      have dz : (wantS (tickD s) true == 0) = false := by simpa using hdn
      generalize wantS (tickD s) true = wz at *
      go_upto_region 18 with (go_at_call 19; refine htick.mono ?_; rintro en w5 ⟨rfl, hR5, hC5⟩)
      have hC5' : Chg wr w5 X := hC5.mono fun k _ q => hXf k (foot_gd q)
      have hT5 := VipT.of (w0 := wr) (X := X) hR5 hidt hXf (fun _ q => q) hXl hC5.size
      have hq5 := hC5'.blk hq n0
      have hB5 := below_chg9 hB hC5' (fun k q => Nat.le_of_lt (hXb k q)) (Nat.le_refl _)
      have hI5 := hI.tickS true
      clear hR hR5 hC5 hC5' hq hB htick hXf hXl hI hon hle dz hdn htk
      generalize tickS s true = s5 at *
      go_upto_region 19 with (fail)
      go_loopw [13] (fun i wr => ∃ (k : Nat) (s : VpS), (k : Int) ≤ mo ∧ i = .int .u8 (k : Int) ∧ VipT wr X g s ∧ InvV c s ∧ s.on = true ∧ s.hd = false ∧ Below w.heap.size w wr) (fun i _ => 256 - (intOf i).toNat)
      case atStart => exact ⟨0, _, hm0, rfl, hT5, hI5, t1, t2, hB5⟩
      case round =>
      clear hT5 hI5 t1 t2 hB5 hq5
      obtain ⟨k, s, hk, rfl, hT, hI, hon, hhd, hB⟩ := hrel
      by_cases hlt3 : (k : Int) < mo
      · obtain ⟨d, p0, pb, f0, m, XF, kb, hR, hXf, hXl⟩ := hT
        have htick := vpTick hR hI.good true
        have hidt : idsM (tickS s true).M = idsM s.M := congrArg idsM (lookS_M _ _)
        have hdn := up_up hon hhd
        obtain ⟨t1, t2⟩ := tick_up (c := c) hon hdn
        have dz : (wantS (tickD s) true == 0) = false := by simpa using hdn
        generalize wantS (tickD s) true = wz at *
        have kw : IntKind.u8.wrap ((k : Int) + 1) = (k : Int) + 1 := by rw [IntKind.wrap_u8]; omega
        go_wp2_with (go_at_call 19; refine htick.mono ?_; rintro en w6 ⟨rfl, hR5, hC5⟩)
        have hC5' : Chg wr w6 X := hC5.mono fun k _ q => hXf k (foot_gd q)
        exact ⟨⟨k + 1, _, by omega, by go_num, VipT.of (w0 := wr) (X := X) hR5 hidt hXf (fun _ q => q) hXl hC5.size, hI.tickS true, t1, t2, below_chg9 hB hC5' (fun k q => Nat.le_of_lt (hXb k q)) (Nat.le_refl _)⟩, by simp [intOf]; omega⟩
      · have dl : decide ((k : Int) < mo) = false := by simpa using hlt3
        go_wp2_with (go_at_call 34; refine (lives33_any wr).mono ?_; rintro e w9 ⟨rfl, hb9⟩)
        go_ret
        exact ⟨rfl, hB.trans (hb9.mono hB.size)⟩
end Go.Proofs.YtgdeecmhhbdjgaaGreat
