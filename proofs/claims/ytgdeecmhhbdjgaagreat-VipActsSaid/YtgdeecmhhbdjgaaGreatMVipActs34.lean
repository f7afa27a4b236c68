import Derived.Test.YtgdeecmhhbdjgaaGreatMVipActs33
/- vip: New. -/
namespace Go.Proofs.YtgdeecmhhbdjgaaGreat
set_option linter.unusedVariables false
open Go Go.RowKit Go.Maps

@[go_sem] theorem make_cmap (w : World) : (Instr.makeMap 60 none).run Tryz.prog w = .ok (.map (some w.heap.size)) (w.alloc (.map #[] 0)) := rfl
def NewC (w : World) (c : CfgV) (v : VipV) (s8 : Value) (wx : World) : Prop :=
  ∃ g d p pb f m XF, s8 = .pointer (some ⟨g, 0, none⟩) ∧ VipR wx g d p pb f m XF (fun _ => 0) (newS c v []) ∧ (∀ k, Foot g d p pb m XF (fun _ => 0) [] k → w.heap.size ≤ k) ∧ Below w.heap.size w wx
set_option maxRecDepth 100000 in
set_option maxHeartbeats 16000000 in
theorem vpNew_no (w : World) (c : CfgV) (h : CfgIn w c) (hs : CfgSm c) (i : Int) (hno : partC c ≠ 0 ∨ i < 0 ∨ (c.vn : Int) ≤ i) : Calls Tryz.prog 36 #[.agg (cfgC c), .int .i64 i] w fun e w' => e = .returned (.pointer none) ∧ Below w.heap.size w w' := by
  have hB := (Below.refl w.heap.size w).alloc (Nat.le_refl _) (.cells (cfgC c) 29)
  have hq := Blk.new w 29 (cfgC c)
  have hC := h.nx hB
  have hiC : (Tryz.prog.info? 29).map (·.size) = some (cfgC c).size := by kernel_rfl
  go_enter Tryz.func36, Tryz.ntmps36
  go_upto_region 1 with (fail)
  generalize w.alloc (.cells (cfgC c) 29) = w1 at *
  go_upto_region 2 with (first
    | (refine wpList_load_blk rfl hq 29 (.tmp 2) rfl rfl Tryz.underlying29 rfl hiC ?_)
    | (go_at_call 46; refine (checkC_any w1 c hC hs).mono ?_; rintro e w2 ⟨rfl, hb⟩))
  replace hB := hB.trans (hb.mono hB.size)
  replace hq := hq.below hb hq.lt
  clear hb hC
  by_cases h0 : partC c = 0
  · have e0 : errC c = 0 := by unfold errC; rw [if_pos h0]
    rw [e0]
    clear e0
    replace hno : i < 0 ∨ (c.vn : Int) ≤ i := hno.resolve_left (fun q => q h0)
    replace h0 := Lib.hid h0
    have q4 : w2.cell? ⟨w.heap.size, 4, none⟩ = some (.slice c.vA c.vn c.vc) := hq.cellv 4 rfl
    have ql := hq.lt
    by_cases h1 : i < 0
    · have d1 : decide (i < 0) = true := by simpa using h1
      clear hno
      go_wp2_with fail
      go_ret
      exact ⟨rfl, hB⟩
    · have d1 : decide (i < 0) = false := by simpa using h1
      have h2 : (c.vn : Int) ≤ i := hno.resolve_left h1
      have d2 : decide ((c.vn : Int) ≤ i) = true := by simpa using h2
      have d3 : decide (i < (c.vn : Int)) = false := by simpa using h2
      clear hno
      go_wp2_with fail
      go_ret
      exact ⟨rfl, hB⟩
  · have e0 : errC c = 12 := by unfold errC; rw [if_neg h0]
    rw [e0]
    clear e0
    replace hno : True := trivial
    replace h0 := Lib.hid h0
    go_wp2_with fail
    go_ret
    exact ⟨rfl, hB⟩
set_option maxRecDepth 100000 in
set_option maxHeartbeats 16000000 in
theorem vpNew_yes (w : World) (c : CfgV) (h : CfgIn w c) (hs : CfgSm c) (hok : partC c = 0) (k : Nat) (v : VipV) (hv : c.V[k]? = some v) : Calls Tryz.prog 36 #[.agg (cfgC c), .int .i64 (k : Int)] w fun e w' => ∃ g X, e = .returned (.pointer (some ⟨g, 0, none⟩)) ∧ VipT w' X g (newS c v (mkM v.L)) ∧ (∀ k, X k → w.heap.size ≤ k) ∧ Below w.heap.size w w' := by
  obtain ⟨hgood, hpct, hroom, hidle, hadds⟩ := newS_good hok hv
  have hn300 := hs.b v (List.mem_of_getElem? hv)
  have hL0 := (h.vips.2.1 v (List.mem_of_getElem? hv)).2.2.2.2
  have hkl : k < c.vn := by rw [← h.vips.1]; exact (List.getElem?_eq_some_iff.1 hv).1
  have hB := (Below.refl w.heap.size w).alloc (Nat.le_refl _) (.cells (cfgC c) 29)
  have hq := Blk.new w 29 (cfgC c)
  have hC := h.nx hB
  have hiC : (Tryz.prog.info? 29).map (·.size) = some (cfgC c).size := by kernel_rfl
  have e0 : errC c = 0 := by unfold errC; rw [if_pos hok]
  have hch := fun w (h : CfgIn w c) => checkC_any w c h hs
  rw [e0] at hch
  clear e0
  replace hok := Lib.hid hok
  go_enter Tryz.func36, Tryz.ntmps36
  go_upto_region 1 with (fail)
  generalize w.alloc (.cells (cfgC c) 29) = w1 at *
  go_upto_region 2 with (first
    | (refine wpList_load_blk rfl hq 29 (.tmp 2) rfl rfl Tryz.underlying29 rfl hiC ?_)
    | (go_at_call 46; refine (hch w1 hC).mono ?_; rintro e w2 ⟨rfl, hb⟩))
  clear hch
  replace hB := hB.trans (hb.mono hB.size)
  replace hC := hC.nx hb
  replace hq := hq.below hb hq.lt
  clear hb
  have hkv : (k : Int) < c.vn := by omega
  have hk0 : (0 : Int) ≤ k := by omega
  have d1 : decide ((k : Int) < 0) = false := by simp
  have d2 : decide ((c.vn : Int) ≤ k) = false := by simp; omega
  have d3 : decide ((k : Int) < c.vn) = true := by simp; omega
  obtain ⟨A, hA⟩ : ∃ A, A = c.vA := ⟨_, rfl⟩
  have hSv := hC.vips
  rw [← hA] at hSv
  have q4 : w2.cell? ⟨w.heap.size, 4, none⟩ = some (.slice A c.vn c.vc) := by rw [hA]; exact hq.cellv 4 rfl
  have ql := hq.lt
  replace hA := Lib.hid hA
  obtain ⟨b, off, v', e1, hb, hv', hvok, r0, r1, r2⟩ := vip_cells hSv hkl
  obtain rfl : v' = v := by rw [hv] at hv'; injection hv' with e; exact e.symm
  subst e1
  clear hv' hv
  go_upto_region 3 with (fail)
  have hbx := (Below.refl w2.heap.size w2).alloc (Nat.le_refl _) (.cells #[.int .u32 v'.ad, .int .i64 v'.pct, .slice v'.A v'.n v'.c] 109)
  have h7 := Blk.new w2 109 #[.int .u32 v'.ad, .int .i64 v'.pct, .slice v'.A v'.n v'.c]
  go_upto_region 5 with (fail)
  clear d1 d2 d3 q4 ql r0 r1 r2
  have hL := hvok.2.2.2.2
  have hvn := hvok.2.2.1
  clear hvok
  generalize w2.alloc (.cells #[.int .u32 v'.ad, .int .i64 v'.pct, .slice v'.A v'.n v'.c] 109) = w3 at *
  replace hC := hC.nx hbx
  replace hB := hB.trans (hbx.mono hB.size)
  replace hq := hq.below hbx hq.lt
  replace hL := seen_nx hL hbx
  clear hbx hb hSv
  generalize w2.heap.size = a7 at *
  obtain ⟨v, ev⟩ : ∃ v, v = v' := ⟨_, rfl⟩
  subst ev
  have hdg := hgood.dg
  replace hdg : dm.goodR c.dF c.dS c.dR c.dC c.dH = true := hdg
  replace hgood := Lib.hid hgood
  go_cut [8] (fun s8 wx => NewC w3 c v s8 wx)
  case first =>
    have HB := (Below.refl w3.heap.size w3).drew
    have q10 : w3.cell? ⟨w.heap.size, 10, none⟩ = some (.int .i64 c.room) := hq.cellv 10 rfl
    have q11 : w3.cell? ⟨w.heap.size, 11, none⟩ = some (.int .i64 c.idle) := hq.cellv 11 rfl
    have q13 : w3.cell? ⟨w.heap.size, 13, none⟩ = some (.int .i64 c.dF) := hq.cellv 13 rfl
    have q14 : w3.cell? ⟨w.heap.size, 14, none⟩ = some (.int .i64 c.dS) := hq.cellv 14 rfl
    have q15 : w3.cell? ⟨w.heap.size, 15, none⟩ = some (.int .i64 c.dR) := hq.cellv 15 rfl
    have q16 : w3.cell? ⟨w.heap.size, 16, none⟩ = some (.int .i64 c.dC) := hq.cellv 16 rfl
    have q17 : w3.cell? ⟨w.heap.size, 17, none⟩ = some (.int .i64 c.dH) := hq.cellv 17 rfl
    have ql := hq.lt
    have x0 : w3.cell? ⟨a7, 0, none⟩ = some (.int .u32 v.ad) := h7.cellv 0 rfl
    have x1 : w3.cell? ⟨a7, 1, none⟩ = some (.int .i64 v.pct) := h7.cellv 1 rfl
    have x2 : w3.cell? ⟨a7, 2, none⟩ = some (.slice v.A v.n v.c) := h7.cellv 2 rfl
    have xl := h7.lt
    try refine wp_region_noPanic ?_
    have hs1r : Below w3.heap.size w3 w3.drew := (Below.refl _ _).drew
    refine wp_region_held_drew (S := fun w' => Below w3.heap.size w3 w') (by kernel_rfl) hs1r (fun _ => ?_)
    (refine held_takeA 0 (by rfl) ?_ (by kernel_rfl) (fun _ _ _ h => h) hs1r ?_ ?_; rotate_left; (focus (intro wq hSw; have hrd := zR hSw; go_simp; try with_reducible rfl; done)); try simp only [Act.put, zA, zB, zC])
    (refine held_takeA 1 (by rfl) ?_ (by kernel_rfl) (fun _ _ _ h => h) hs1r ?_ ?_; rotate_left; (focus (intro wq hSw; have hrd := zR hSw; go_simp; try with_reducible rfl; done)); try simp only [Act.put, zA, zB, zC])
    (refine held_takeA 4 (by rfl) ?_ (by kernel_rfl) (fun _ _ _ h => h) hs1r ?_ ?_; rotate_left; (focus (intro wq hSw; refine exec_load_blk (x := .tmp 7) ?_ ?_ (h7.below hSw h7.lt) _ Tryz.underlying109 rfl (by kernel_rfl) <;> rfl)); simp only [Act.put, zA, zB, zC])
    (refine held_takeA 6 (by rfl) ?_ (by kernel_rfl) (fun _ _ _ h => h) hs1r ?_ ?_; rotate_left; (focus (intro wq hSw; have hrd := zR hSw; go_simp; try with_reducible rfl; done)); try simp only [Act.put, zA, zB, zC])
    (refine held_takeA 7 (by rfl) ?_ (by kernel_rfl) (fun _ _ _ h => h) hs1r ?_ ?_; rotate_left; (focus (intro wq hSw; have hrd := zR hSw; go_simp; try with_reducible rfl; done)); try simp only [Act.put, zA, zB, zC])
    (refine held_takeA 9 (by rfl) ?_ (by kernel_rfl) (fun _ _ _ h => h) hs1r ?_ ?_; rotate_left; (focus (intro wq hSw; have hrd := zR hSw; go_simp; try with_reducible rfl; done)); try simp only [Act.put, zA, zB, zC])
    (refine held_takeA 10 (by rfl) ?_ (by kernel_rfl) (fun _ _ _ h => h) hs1r ?_ ?_; rotate_left; (focus (intro wq hSw; have hrd := zR hSw; go_simp; try with_reducible rfl; done)); try simp only [Act.put, zA, zB, zC])
    (refine held_takeA 11 (by rfl) ?_ (by kernel_rfl) (fun _ _ _ h => h) hs1r ?_ ?_; rotate_left; (focus (intro wq hSw; have hrd := zR hSw; go_simp; try with_reducible rfl; done)); try simp only [Act.put, zA, zB, zC])
    (refine held_takeA 12 (by rfl) ?_ (by kernel_rfl) (fun _ _ _ h => h) hs1r ?_ ?_; rotate_left; (focus (intro wq hSw; have hrd := zR hSw; go_simp; try with_reducible rfl; done)); try simp only [Act.put, zA, zB, zC])
    refine held_two 2 14 (by rfl) (by rfl) (by kernel_rfl) (by rfl) (by rfl) (fun KQ hKQ => ?_) (fun KQ hKQ => ?_)
    · skip
      go_simp
      refine (dm.new_yes c.dF c.dS c.dR c.dC c.dH w3.drew hdg).mono ?_
      rintro e y1 ⟨d, rfl, bd, hd, hb⟩
      have hzy1 : w3.heap.size ≤ y1.heap.size := hb.size
      have d1 := hd.lt
      replace hb : Below w3.heap.size w3 y1 := (Below.refl _ _).drew.trans hb
      replace HB := hb
      refine hKQ.out _ _ (hs1r.trans (show Below w3.drew.heap.size w3.drew y1 from ⟨hb.os, hb.tape, hb.output, hb.size, hb.block⟩)) (held_mono (S' := fun w' => Below y1.heap.size y1 w') (fun w' h => (hs1r.trans (show Below w3.drew.heap.size w3.drew y1 from ⟨hb.os, hb.tape, hb.output, hb.size, hb.block⟩)).trans (h.mono (hs1r.trans (show Below w3.drew.heap.size w3.drew y1 from ⟨hb.os, hb.tape, hb.output, hb.size, hb.block⟩)).size)) _ _ _ _ ?_)
      clear hKQ KQ
      replace h7 := h7.below (hs1r.trans (show Below w3.drew.heap.size w3.drew y1 from ⟨hb.os, hb.tape, hb.output, hb.size, hb.block⟩)) h7.lt
      have hs2r : Below y1.heap.size y1 y1 := Below.refl _ _
      try simp only [Act.put, zA, zB, zC]
      (refine held_takeA 3 (by rfl) ?_ (by kernel_rfl) (fun _ _ _ h => h) hs2r ?_ ?_; rotate_left; (focus (intro wq hSw; have hrd := zR hSw; go_simp; try with_reducible rfl; done)); try simp only [Act.put, zA, zB, zC])
      clear hb
      refine held_two 5 14 (by rfl) (by rfl) (by kernel_rfl) (by rfl) (by rfl) (fun KQ hKQ => ?_) (fun KQ hKQ => ?_)
      · skip
        go_simp
        refine (prefixC_any y1 v).mono ?_
        rintro e y2 ⟨rfl, hb⟩
        have hzy2 : y1.heap.size ≤ y2.heap.size := hb.size
        replace hd := hd.below hb hd.lt
        replace HB := HB.trans (hb.mono HB.size)
        refine hKQ.out _ _ (hs2r.trans hb) (held_mono (S' := fun w' => Below y2.heap.size y2 w') (fun w' h => (hs2r.trans hb).trans (h.mono (hs2r.trans hb).size)) _ _ _ _ ?_)
        clear hKQ KQ
        replace h7 := h7.below (hs2r.trans hb) h7.lt
        have hs3r : Below y2.heap.size y2 y2 := Below.refl _ _
        try simp only [Act.put, zA, zB, zC]
        clear hb
        refine held_two 8 14 (by rfl) (by rfl) (by kernel_rfl) (by rfl) (by rfl) (fun KQ hKQ => ?_) (fun KQ hKQ => ?_)
        · skip
          go_simp
          refine (new_in y2 v.pct hpct.1 hpct.2).mono ?_
          rintro e y3 ⟨p, pb, rfl, hp, bp, bpb, hb⟩
          have hzy3 : y2.heap.size ≤ y3.heap.size := hb.size
          have p1 := hp.ltg
          have p2 := hp.ltb
          replace hd := hd.below hb hd.lt
          replace HB := HB.trans (hb.mono HB.size)
          refine hKQ.out _ _ (hs3r.trans hb) (held_mono (S' := fun w' => Below y3.heap.size y3 w') (fun w' h => (hs3r.trans hb).trans (h.mono (hs3r.trans hb).size)) _ _ _ _ ?_)
          clear hKQ KQ
          replace h7 := h7.below (hs3r.trans hb) h7.lt
          have hs4r : Below y3.heap.size y3 y3 := Below.refl _ _
          try simp only [Act.put, zA, zB, zC]
          clear hb
          refine held_two 13 14 (by rfl) (by rfl) (by kernel_rfl) (by rfl) (by rfl) (fun KQ hKQ => ?_) (fun KQ hKQ => ?_)
          · skip
            go_simp
            refine (newFX y3 c.room c.idle hroom.1 hroom.2 hidle.1 hidle.2).mono ?_
            rintro e y4 ⟨f, XF, rfl, hf, bX, hb⟩
            have hzy4 : y3.heap.size ≤ y4.heap.size := hb.size
            have X1 := hf.good.2.2.2.2
            replace hd := hd.below hb hd.lt
            replace hp := hp.nx hb
            replace HB := HB.trans (hb.mono HB.size)
            refine hKQ.out _ _ (hs4r.trans hb) (held_mono (S' := fun w' => Below y4.heap.size y4 w') (fun w' h => (hs4r.trans hb).trans (h.mono (hs4r.trans hb).size)) _ _ _ _ ?_)
            clear hKQ KQ
            replace h7 := h7.below (hs4r.trans hb) h7.lt
            have hs5r : Below y4.heap.size y4 y4 := Below.refl _ _
            try simp only [Act.put, zA, zB, zC]
            clear hb
            refine held_callA 14 (by rfl) (by kernel_rfl) (by rfl) (fun KQ hKQ => ?_)
            go_simp
            have hb := (Below.refl y4.heap.size y4).alloc (Nat.le_refl _) (.map #[] 0)
            have hm : Ent Tryz.prog 3 (y4.alloc (.map #[] 0)) y4.heap.size [] := Ent.made y4
            have hd9 : (y4.alloc (.map #[] 0)).drew = y4.drew.alloc (.map #[] 0) := rfl
            try rw [hd9]
            clear hd9
            obtain ⟨m, em⟩ : ∃ m, m = y4.heap.size := ⟨_, rfl⟩
            rw [← em] at hm
            try rw [← em]
            have m0 : y4.heap.size ≤ m := by rw [em]; exact Nat.le_refl _
            have m1 := hm.lt
            replace em := Lib.hid em
            generalize y4.alloc (.map #[] 0) = y5 at *
            have hzy5 : y4.heap.size ≤ y5.heap.size := hb.size
            replace hd := hd.below hb hd.lt
            replace hp := hp.nx hb
            replace hf := hf.fwd hb
            replace HB := HB.trans (hb.mono HB.size)
            refine hKQ.out _ _ (hs5r.trans hb) (held_mono (S' := fun w' => Below y5.heap.size y5 w') (fun w' h => (hs5r.trans hb).trans (h.mono (hs5r.trans hb).size)) _ _ _ _ ?_)
            clear hKQ KQ
            replace h7 := h7.below (hs5r.trans hb) h7.lt
            have hs6r : Below y5.heap.size y5 y5 := Below.refl _ _
            try simp only [Act.put, zA, zB, zC]
            (refine held_takeA 15 (by rfl) ?_ (by kernel_rfl) (fun _ _ _ h => h) hs6r ?_ ?_; rotate_left; (focus (intro wq hSw; have hrd := zR hSw; go_simp; try with_reducible rfl; done)); try simp only [Act.put, zA, zB, zC])
            clear hb
            refine held_callA 16 (by rfl) (by kernel_rfl) (by rfl) (fun KQ hKQ => ?_)
            go_simp
            have hbb := (Below.refl y5.heap.size y5).alloc (Nat.le_refl _) (.cells #[.pointer (some ⟨d, 0, none⟩), .int .u32 v.ad, .int .i64 32, .pointer (some ⟨p, 0, none⟩), .pointer (some ⟨f, 0, none⟩), .map (some m), .bool true, .int .i64 0] 62)
            have hg := Blk.new y5 62 #[.pointer (some ⟨d, 0, none⟩), .int .u32 v.ad, .int .i64 32, .pointer (some ⟨p, 0, none⟩), .pointer (some ⟨f, 0, none⟩), .map (some m), .bool true, .int .i64 0]
            obtain ⟨g, eg⟩ : ∃ g, g = y5.heap.size := ⟨_, rfl⟩
            rw [← eg] at hg
            try rw [← eg]
            have g0 : y5.heap.size ≤ g := by rw [eg]; exact Nat.le_refl _
            replace eg := Lib.hid eg
            generalize y5.alloc (.cells #[.pointer (some ⟨d, 0, none⟩), .int .u32 v.ad, .int .i64 32, .pointer (some ⟨p, 0, none⟩), .pointer (some ⟨f, 0, none⟩), .map (some m), .bool true, .int .i64 0] 62) = yz at *
            replace hd := hd.below hbb hd.lt
            replace hp := hp.nx hbb
            replace hf := hf.fwd hbb
            replace hm := hm.below hbb hm.lt
            replace HB := HB.trans (hbb.mono HB.size)
            refine hKQ.out _ _ (hs6r.trans hbb) (held_mono (S' := fun w' => Below yz.heap.size yz w') (fun w' h => (hs6r.trans hbb).trans (h.mono (hs6r.trans hbb).size)) _ _ _ _ ?_)
            clear hKQ KQ
            replace h7 := h7.below (hs6r.trans hbb) h7.lt
            have hs7r : Below yz.heap.size yz yz := Below.refl _ _
            try simp only [Act.put, zA, zB, zC]
            (refine held_takeA 17 (by rfl) ?_ (by kernel_rfl) (fun _ _ _ h => h) hs7r ?_ ?_; rotate_left; (focus (intro wq hSw; have hrd := zR hSw; go_simp; try with_reducible rfl; done)); try simp only [Act.put, zA, zB, zC])
            refine wpAnyH_done (by kernel_rfl) ?_ _
            try refine NoPanic.normal ?_
            go_wp2_with fail
            go_meet
            have hdz : w3.drew.heap.size = w3.heap.size := rfl
            refine ⟨g, d, p, pb, f, m, XF, rfl, VipR.new hg hd hp hf hm (by omega) (fun k hk => ?_) rfl, fun k hk => ?_, HB⟩
            · have := bX k hk
              have := X1 k hk
              refine ⟨?_, ?_, ?_, ?_, ?_⟩ <;> omega
            · rcases hk with q | q | q | q | q | q | ⟨i, hi, _⟩
              · omega
              · omega
              · omega
              · omega
              · omega
              · have := bX k q
                omega
              · cases hi
          · skip
            go_simp
            have hb := (Below.refl y3.heap.size y3).alloc (Nat.le_refl _) (.map #[] 0)
            have hm : Ent Tryz.prog 3 (y3.alloc (.map #[] 0)) y3.heap.size [] := Ent.made y3
            have hd9 : (y3.alloc (.map #[] 0)).drew = y3.drew.alloc (.map #[] 0) := rfl
            try rw [hd9]
            clear hd9
            obtain ⟨m, em⟩ : ∃ m, m = y3.heap.size := ⟨_, rfl⟩
            rw [← em] at hm
            try rw [← em]
            have m0 : y3.heap.size ≤ m := by rw [em]; exact Nat.le_refl _
            have m1 := hm.lt
            replace em := Lib.hid em
            generalize y3.alloc (.map #[] 0) = y6 at *
            have hzy6 : y3.heap.size ≤ y6.heap.size := hb.size
            replace hd := hd.below hb hd.lt
            replace hp := hp.nx hb
            replace HB := HB.trans (hb.mono HB.size)
            refine hKQ.out _ _ (hs4r.trans hb) (held_mono (S' := fun w' => Below y6.heap.size y6 w') (fun w' h => (hs4r.trans hb).trans (h.mono (hs4r.trans hb).size)) _ _ _ _ ?_)
            clear hKQ KQ
            replace h7 := h7.below (hs4r.trans hb) h7.lt
            have hs8r : Below y6.heap.size y6 y6 := Below.refl _ _
            try simp only [Act.put, zA, zB, zC]
            clear hb
            refine held_callA 13 (by rfl) (by kernel_rfl) (by rfl) (fun KQ hKQ => ?_)
            go_simp
            refine (newFX y6 c.room c.idle hroom.1 hroom.2 hidle.1 hidle.2).mono ?_
            rintro e y7 ⟨f, XF, rfl, hf, bX, hb⟩
            have hzy7 : y6.heap.size ≤ y7.heap.size := hb.size
            have X1 := hf.good.2.2.2.2
            replace hd := hd.below hb hd.lt
            replace hp := hp.nx hb
            replace hm := hm.below hb hm.lt
            replace HB := HB.trans (hb.mono HB.size)
            refine hKQ.out _ _ (hs8r.trans hb) (held_mono (S' := fun w' => Below y7.heap.size y7 w') (fun w' h => (hs8r.trans hb).trans (h.mono (hs8r.trans hb).size)) _ _ _ _ ?_)
            clear hKQ KQ
            replace h7 := h7.below (hs8r.trans hb) h7.lt
            have hs9r : Below y7.heap.size y7 y7 := Below.refl _ _
            try simp only [Act.put, zA, zB, zC]
            (refine held_takeA 15 (by rfl) ?_ (by kernel_rfl) (fun _ _ _ h => h) hs9r ?_ ?_; rotate_left; (focus (intro wq hSw; have hrd := zR hSw; go_simp; try with_reducible rfl; done)); try simp only [Act.put, zA, zB, zC])
            clear hb
            refine held_callA 16 (by rfl) (by kernel_rfl) (by rfl) (fun KQ hKQ => ?_)
            go_simp
            have hbb := (Below.refl y7.heap.size y7).alloc (Nat.le_refl _) (.cells #[.pointer (some ⟨d, 0, none⟩), .int .u32 v.ad, .int .i64 32, .pointer (some ⟨p, 0, none⟩), .pointer (some ⟨f, 0, none⟩), .map (some m), .bool true, .int .i64 0] 62)
            have hg := Blk.new y7 62 #[.pointer (some ⟨d, 0, none⟩), .int .u32 v.ad, .int .i64 32, .pointer (some ⟨p, 0, none⟩), .pointer (some ⟨f, 0, none⟩), .map (some m), .bool true, .int .i64 0]
            obtain ⟨g, eg⟩ : ∃ g, g = y7.heap.size := ⟨_, rfl⟩
            rw [← eg] at hg
            try rw [← eg]
            have g0 : y7.heap.size ≤ g := by rw [eg]; exact Nat.le_refl _
            replace eg := Lib.hid eg
            generalize y7.alloc (.cells #[.pointer (some ⟨d, 0, none⟩), .int .u32 v.ad, .int .i64 32, .pointer (some ⟨p, 0, none⟩), .pointer (some ⟨f, 0, none⟩), .map (some m), .bool true, .int .i64 0] 62) = yz at *
            replace hd := hd.below hbb hd.lt
            replace hp := hp.nx hbb
            replace hm := hm.below hbb hm.lt
            replace hf := hf.fwd hbb
            replace HB := HB.trans (hbb.mono HB.size)
            refine hKQ.out _ _ (hs9r.trans hbb) (held_mono (S' := fun w' => Below yz.heap.size yz w') (fun w' h => (hs9r.trans hbb).trans (h.mono (hs9r.trans hbb).size)) _ _ _ _ ?_)
            clear hKQ KQ
            replace h7 := h7.below (hs9r.trans hbb) h7.lt
            have hs10r : Below yz.heap.size yz yz := Below.refl _ _
            try simp only [Act.put, zA, zB, zC]
            (refine held_takeA 17 (by rfl) ?_ (by kernel_rfl) (fun _ _ _ h => h) hs10r ?_ ?_; rotate_left; (focus (intro wq hSw; have hrd := zR hSw; go_simp; try with_reducible rfl; done)); try simp only [Act.put, zA, zB, zC])
            refine wpAnyH_done (by kernel_rfl) ?_ _
            try refine NoPanic.normal ?_
            go_wp2_with fail
            go_meet
            have hdz : w3.drew.heap.size = w3.heap.size := rfl
            refine ⟨g, d, p, pb, f, m, XF, rfl, VipR.new hg hd hp hf hm (by omega) (fun k hk => ?_) rfl, fun k hk => ?_, HB⟩
            · have := bX k hk
              have := X1 k hk
              refine ⟨?_, ?_, ?_, ?_, ?_⟩ <;> omega
            · rcases hk with q | q | q | q | q | q | ⟨i, hi, _⟩
              · omega
              · omega
              · omega
              · omega
              · omega
              · have := bX k q
                omega
              · cases hi
        · skip
          go_simp
          have hb := (Below.refl y2.heap.size y2).alloc (Nat.le_refl _) (.map #[] 0)
          have hm : Ent Tryz.prog 3 (y2.alloc (.map #[] 0)) y2.heap.size [] := Ent.made y2
          have hd9 : (y2.alloc (.map #[] 0)).drew = y2.drew.alloc (.map #[] 0) := rfl
          try rw [hd9]
          clear hd9
          obtain ⟨m, em⟩ : ∃ m, m = y2.heap.size := ⟨_, rfl⟩
          rw [← em] at hm
          try rw [← em]
          have m0 : y2.heap.size ≤ m := by rw [em]; exact Nat.le_refl _
          have m1 := hm.lt
          replace em := Lib.hid em
          generalize y2.alloc (.map #[] 0) = y8 at *
          have hzy8 : y2.heap.size ≤ y8.heap.size := hb.size
          replace hd := hd.below hb hd.lt
          replace HB := HB.trans (hb.mono HB.size)
          refine hKQ.out _ _ (hs3r.trans hb) (held_mono (S' := fun w' => Below y8.heap.size y8 w') (fun w' h => (hs3r.trans hb).trans (h.mono (hs3r.trans hb).size)) _ _ _ _ ?_)
          clear hKQ KQ
          replace h7 := h7.below (hs3r.trans hb) h7.lt
          have hs11r : Below y8.heap.size y8 y8 := Below.refl _ _
          try simp only [Act.put, zA, zB, zC]
          clear hb
          refine held_callA 8 (by rfl) (by kernel_rfl) (by rfl) (fun KQ hKQ => ?_)
          go_simp
          refine (new_in y8 v.pct hpct.1 hpct.2).mono ?_
          rintro e y9 ⟨p, pb, rfl, hp, bp, bpb, hb⟩
          have hzy9 : y8.heap.size ≤ y9.heap.size := hb.size
          have p1 := hp.ltg
          have p2 := hp.ltb
          replace hd := hd.below hb hd.lt
          replace hm := hm.below hb hm.lt
          replace HB := HB.trans (hb.mono HB.size)
          refine hKQ.out _ _ (hs11r.trans hb) (held_mono (S' := fun w' => Below y9.heap.size y9 w') (fun w' h => (hs11r.trans hb).trans (h.mono (hs11r.trans hb).size)) _ _ _ _ ?_)
          clear hKQ KQ
          replace h7 := h7.below (hs11r.trans hb) h7.lt
          have hs12r : Below y9.heap.size y9 y9 := Below.refl _ _
          try simp only [Act.put, zA, zB, zC]
          clear hb
          refine held_callA 13 (by rfl) (by kernel_rfl) (by rfl) (fun KQ hKQ => ?_)
          go_simp
          refine (newFX y9 c.room c.idle hroom.1 hroom.2 hidle.1 hidle.2).mono ?_
          rintro e y10 ⟨f, XF, rfl, hf, bX, hb⟩
          have hzy10 : y9.heap.size ≤ y10.heap.size := hb.size
          have X1 := hf.good.2.2.2.2
          replace hd := hd.below hb hd.lt
          replace hm := hm.below hb hm.lt
          replace hp := hp.nx hb
          replace HB := HB.trans (hb.mono HB.size)
          refine hKQ.out _ _ (hs12r.trans hb) (held_mono (S' := fun w' => Below y10.heap.size y10 w') (fun w' h => (hs12r.trans hb).trans (h.mono (hs12r.trans hb).size)) _ _ _ _ ?_)
          clear hKQ KQ
          replace h7 := h7.below (hs12r.trans hb) h7.lt
          have hs13r : Below y10.heap.size y10 y10 := Below.refl _ _
          try simp only [Act.put, zA, zB, zC]
          (refine held_takeA 15 (by rfl) ?_ (by kernel_rfl) (fun _ _ _ h => h) hs13r ?_ ?_; rotate_left; (focus (intro wq hSw; have hrd := zR hSw; go_simp; try with_reducible rfl; done)); try simp only [Act.put, zA, zB, zC])
          clear hb
          refine held_callA 16 (by rfl) (by kernel_rfl) (by rfl) (fun KQ hKQ => ?_)
          go_simp
          have hbb := (Below.refl y10.heap.size y10).alloc (Nat.le_refl _) (.cells #[.pointer (some ⟨d, 0, none⟩), .int .u32 v.ad, .int .i64 32, .pointer (some ⟨p, 0, none⟩), .pointer (some ⟨f, 0, none⟩), .map (some m), .bool true, .int .i64 0] 62)
          have hg := Blk.new y10 62 #[.pointer (some ⟨d, 0, none⟩), .int .u32 v.ad, .int .i64 32, .pointer (some ⟨p, 0, none⟩), .pointer (some ⟨f, 0, none⟩), .map (some m), .bool true, .int .i64 0]
          obtain ⟨g, eg⟩ : ∃ g, g = y10.heap.size := ⟨_, rfl⟩
          rw [← eg] at hg
          try rw [← eg]
          have g0 : y10.heap.size ≤ g := by rw [eg]; exact Nat.le_refl _
          replace eg := Lib.hid eg
          generalize y10.alloc (.cells #[.pointer (some ⟨d, 0, none⟩), .int .u32 v.ad, .int .i64 32, .pointer (some ⟨p, 0, none⟩), .pointer (some ⟨f, 0, none⟩), .map (some m), .bool true, .int .i64 0] 62) = yz at *
          replace hd := hd.below hbb hd.lt
          replace hm := hm.below hbb hm.lt
          replace hp := hp.nx hbb
          replace hf := hf.fwd hbb
          replace HB := HB.trans (hbb.mono HB.size)
          refine hKQ.out _ _ (hs13r.trans hbb) (held_mono (S' := fun w' => Below yz.heap.size yz w') (fun w' h => (hs13r.trans hbb).trans (h.mono (hs13r.trans hbb).size)) _ _ _ _ ?_)
          clear hKQ KQ
          replace h7 := h7.below (hs13r.trans hbb) h7.lt
          have hs14r : Below yz.heap.size yz yz := Below.refl _ _
          try simp only [Act.put, zA, zB, zC]
          (refine held_takeA 17 (by rfl) ?_ (by kernel_rfl) (fun _ _ _ h => h) hs14r ?_ ?_; rotate_left; (focus (intro wq hSw; have hrd := zR hSw; go_simp; try with_reducible rfl; done)); try simp only [Act.put, zA, zB, zC])
          refine wpAnyH_done (by kernel_rfl) ?_ _
          try refine NoPanic.normal ?_
          go_wp2_with fail
          go_meet
          have hdz : w3.drew.heap.size = w3.heap.size := rfl
          refine ⟨g, d, p, pb, f, m, XF, rfl, VipR.new hg hd hp hf hm (by omega) (fun k hk => ?_) rfl, fun k hk => ?_, HB⟩
          · have := bX k hk
            have := X1 k hk
            refine ⟨?_, ?_, ?_, ?_, ?_⟩ <;> omega
          · rcases hk with q | q | q | q | q | q | ⟨i, hi, _⟩
            · omega
            · omega
            · omega
            · omega
            · omega
            · have := bX k q
              omega
            · cases hi
      · skip
        go_simp
        have hb := (Below.refl y1.heap.size y1).alloc (Nat.le_refl _) (.map #[] 0)
        have hm : Ent Tryz.prog 3 (y1.alloc (.map #[] 0)) y1.heap.size [] := Ent.made y1
        have hd9 : (y1.alloc (.map #[] 0)).drew = y1.drew.alloc (.map #[] 0) := rfl
        try rw [hd9]
        clear hd9
        obtain ⟨m, em⟩ : ∃ m, m = y1.heap.size := ⟨_, rfl⟩
        rw [← em] at hm
        try rw [← em]
        have m0 : y1.heap.size ≤ m := by rw [em]; exact Nat.le_refl _
        have m1 := hm.lt
        replace em := Lib.hid em
        generalize y1.alloc (.map #[] 0) = y11 at *
        have hzy11 : y1.heap.size ≤ y11.heap.size := hb.size
        replace hd := hd.below hb hd.lt
        replace HB := HB.trans (hb.mono HB.size)
        refine hKQ.out _ _ (hs2r.trans hb) (held_mono (S' := fun w' => Below y11.heap.size y11 w') (fun w' h => (hs2r.trans hb).trans (h.mono (hs2r.trans hb).size)) _ _ _ _ ?_)
        clear hKQ KQ
        replace h7 := h7.below (hs2r.trans hb) h7.lt
        have hs15r : Below y11.heap.size y11 y11 := Below.refl _ _
        try simp only [Act.put, zA, zB, zC]
        clear hb
        refine held_callA 5 (by rfl) (by kernel_rfl) (by rfl) (fun KQ hKQ => ?_)
        go_simp
        refine (prefixC_any y11 v).mono ?_
        rintro e y12 ⟨rfl, hb⟩
        have hzy12 : y11.heap.size ≤ y12.heap.size := hb.size
        replace hd := hd.below hb hd.lt
        replace hm := hm.below hb hm.lt
        replace HB := HB.trans (hb.mono HB.size)
        refine hKQ.out _ _ (hs15r.trans hb) (held_mono (S' := fun w' => Below y12.heap.size y12 w') (fun w' h => (hs15r.trans hb).trans (h.mono (hs15r.trans hb).size)) _ _ _ _ ?_)
        clear hKQ KQ
        replace h7 := h7.below (hs15r.trans hb) h7.lt
        have hs16r : Below y12.heap.size y12 y12 := Below.refl _ _
        try simp only [Act.put, zA, zB, zC]
        clear hb
        refine held_callA 8 (by rfl) (by kernel_rfl) (by rfl) (fun KQ hKQ => ?_)
        go_simp
        refine (new_in y12 v.pct hpct.1 hpct.2).mono ?_
        rintro e y13 ⟨p, pb, rfl, hp, bp, bpb, hb⟩
        have hzy13 : y12.heap.size ≤ y13.heap.size := hb.size
        have p1 := hp.ltg
        have p2 := hp.ltb
        replace hd := hd.below hb hd.lt
        replace hm := hm.below hb hm.lt
        replace HB := HB.trans (hb.mono HB.size)
        refine hKQ.out _ _ (hs16r.trans hb) (held_mono (S' := fun w' => Below y13.heap.size y13 w') (fun w' h => (hs16r.trans hb).trans (h.mono (hs16r.trans hb).size)) _ _ _ _ ?_)
        clear hKQ KQ
        replace h7 := h7.below (hs16r.trans hb) h7.lt
        have hs17r : Below y13.heap.size y13 y13 := Below.refl _ _
        try simp only [Act.put, zA, zB, zC]
        clear hb
        refine held_callA 13 (by rfl) (by kernel_rfl) (by rfl) (fun KQ hKQ => ?_)
        go_simp
        refine (newFX y13 c.room c.idle hroom.1 hroom.2 hidle.1 hidle.2).mono ?_
        rintro e y14 ⟨f, XF, rfl, hf, bX, hb⟩
        have hzy14 : y13.heap.size ≤ y14.heap.size := hb.size
        have X1 := hf.good.2.2.2.2
        replace hd := hd.below hb hd.lt
        replace hm := hm.below hb hm.lt
        replace hp := hp.nx hb
        replace HB := HB.trans (hb.mono HB.size)
        refine hKQ.out _ _ (hs17r.trans hb) (held_mono (S' := fun w' => Below y14.heap.size y14 w') (fun w' h => (hs17r.trans hb).trans (h.mono (hs17r.trans hb).size)) _ _ _ _ ?_)
        clear hKQ KQ
        replace h7 := h7.below (hs17r.trans hb) h7.lt
        have hs18r : Below y14.heap.size y14 y14 := Below.refl _ _
        try simp only [Act.put, zA, zB, zC]
        (refine held_takeA 15 (by rfl) ?_ (by kernel_rfl) (fun _ _ _ h => h) hs18r ?_ ?_; rotate_left; (focus (intro wq hSw; have hrd := zR hSw; go_simp; try with_reducible rfl; done)); try simp only [Act.put, zA, zB, zC])
        clear hb
        refine held_callA 16 (by rfl) (by kernel_rfl) (by rfl) (fun KQ hKQ => ?_)
        go_simp
        have hbb := (Below.refl y14.heap.size y14).alloc (Nat.le_refl _) (.cells #[.pointer (some ⟨d, 0, none⟩), .int .u32 v.ad, .int .i64 32, .pointer (some ⟨p, 0, none⟩), .pointer (some ⟨f, 0, none⟩), .map (some m), .bool true, .int .i64 0] 62)
        have hg := Blk.new y14 62 #[.pointer (some ⟨d, 0, none⟩), .int .u32 v.ad, .int .i64 32, .pointer (some ⟨p, 0, none⟩), .pointer (some ⟨f, 0, none⟩), .map (some m), .bool true, .int .i64 0]
        obtain ⟨g, eg⟩ : ∃ g, g = y14.heap.size := ⟨_, rfl⟩
        rw [← eg] at hg
        try rw [← eg]
        have g0 : y14.heap.size ≤ g := by rw [eg]; exact Nat.le_refl _
        replace eg := Lib.hid eg
        generalize y14.alloc (.cells #[.pointer (some ⟨d, 0, none⟩), .int .u32 v.ad, .int .i64 32, .pointer (some ⟨p, 0, none⟩), .pointer (some ⟨f, 0, none⟩), .map (some m), .bool true, .int .i64 0] 62) = yz at *
        replace hd := hd.below hbb hd.lt
        replace hm := hm.below hbb hm.lt
        replace hp := hp.nx hbb
        replace hf := hf.fwd hbb
        replace HB := HB.trans (hbb.mono HB.size)
        refine hKQ.out _ _ (hs18r.trans hbb) (held_mono (S' := fun w' => Below yz.heap.size yz w') (fun w' h => (hs18r.trans hbb).trans (h.mono (hs18r.trans hbb).size)) _ _ _ _ ?_)
        clear hKQ KQ
        replace h7 := h7.below (hs18r.trans hbb) h7.lt
        have hs19r : Below yz.heap.size yz yz := Below.refl _ _
        try simp only [Act.put, zA, zB, zC]
        (refine held_takeA 17 (by rfl) ?_ (by kernel_rfl) (fun _ _ _ h => h) hs19r ?_ ?_; rotate_left; (focus (intro wq hSw; have hrd := zR hSw; go_simp; try with_reducible rfl; done)); try simp only [Act.put, zA, zB, zC])
        refine wpAnyH_done (by kernel_rfl) ?_ _
        try refine NoPanic.normal ?_
        go_wp2_with fail
        go_meet
        have hdz : w3.drew.heap.size = w3.heap.size := rfl
        refine ⟨g, d, p, pb, f, m, XF, rfl, VipR.new hg hd hp hf hm (by omega) (fun k hk => ?_) rfl, fun k hk => ?_, HB⟩
        · have := bX k hk
          have := X1 k hk
          refine ⟨?_, ?_, ?_, ?_, ?_⟩ <;> omega
        · rcases hk with q | q | q | q | q | q | ⟨i, hi, _⟩
          · omega
          · omega
          · omega
          · omega
          · omega
          · have := bX k q
            omega
          · cases hi
    · skip
      go_simp
      have hb := (Below.refl w3.drew.heap.size w3.drew).alloc (Nat.le_refl _) (.map #[] 0)
      have hm : Ent Tryz.prog 3 (w3.drew.alloc (.map #[] 0)) w3.heap.size [] := Ent.made w3.drew
      have hd9 : (w3.alloc (.map #[] 0)).drew = w3.drew.alloc (.map #[] 0) := rfl
      try rw [hd9]
      clear hd9
      obtain ⟨m, em⟩ : ∃ m, m = w3.heap.size := ⟨_, rfl⟩
      rw [← em] at hm
      try rw [← em]
      have m0 : w3.heap.size ≤ m := by rw [em]; exact Nat.le_refl _
      have m1 := hm.lt
      replace em := Lib.hid em
      generalize w3.drew.alloc (.map #[] 0) = y15 at *
      have hzy15 : w3.heap.size ≤ y15.heap.size := hb.size
      replace hb : Below w3.heap.size w3 y15 := (Below.refl _ _).drew.trans hb
      replace HB := hb
      refine hKQ.out _ _ (hs1r.trans (show Below w3.drew.heap.size w3.drew y15 from ⟨hb.os, hb.tape, hb.output, hb.size, hb.block⟩)) (held_mono (S' := fun w' => Below y15.heap.size y15 w') (fun w' h => (hs1r.trans (show Below w3.drew.heap.size w3.drew y15 from ⟨hb.os, hb.tape, hb.output, hb.size, hb.block⟩)).trans (h.mono (hs1r.trans (show Below w3.drew.heap.size w3.drew y15 from ⟨hb.os, hb.tape, hb.output, hb.size, hb.block⟩)).size)) _ _ _ _ ?_)
      clear hKQ KQ
      replace h7 := h7.below (hs1r.trans (show Below w3.drew.heap.size w3.drew y15 from ⟨hb.os, hb.tape, hb.output, hb.size, hb.block⟩)) h7.lt
      have hs20r : Below y15.heap.size y15 y15 := Below.refl _ _
      try simp only [Act.put, zA, zB, zC]
      clear hb
      refine held_callA 2 (by rfl) (by kernel_rfl) (by rfl) (fun KQ hKQ => ?_)
      go_simp
      refine (dm.new_yes c.dF c.dS c.dR c.dC c.dH y15 hdg).mono ?_
      rintro e y16 ⟨d, rfl, bd, hd, hb⟩
      have hzy16 : y15.heap.size ≤ y16.heap.size := hb.size
      have d1 := hd.lt
      replace hm := hm.below hb hm.lt
      replace HB := HB.trans (hb.mono HB.size)
      refine hKQ.out _ _ (hs20r.trans hb) (held_mono (S' := fun w' => Below y16.heap.size y16 w') (fun w' h => (hs20r.trans hb).trans (h.mono (hs20r.trans hb).size)) _ _ _ _ ?_)
      clear hKQ KQ
      replace h7 := h7.below (hs20r.trans hb) h7.lt
      have hs21r : Below y16.heap.size y16 y16 := Below.refl _ _
      try simp only [Act.put, zA, zB, zC]
      (refine held_takeA 3 (by rfl) ?_ (by kernel_rfl) (fun _ _ _ h => h) hs21r ?_ ?_; rotate_left; (focus (intro wq hSw; have hrd := zR hSw; go_simp; try with_reducible rfl; done)); try simp only [Act.put, zA, zB, zC])
      clear hb
      refine held_callA 5 (by rfl) (by kernel_rfl) (by rfl) (fun KQ hKQ => ?_)
      go_simp
      refine (prefixC_any y16 v).mono ?_
      rintro e y17 ⟨rfl, hb⟩
      have hzy17 : y16.heap.size ≤ y17.heap.size := hb.size
      replace hm := hm.below hb hm.lt
      replace hd := hd.below hb hd.lt
      replace HB := HB.trans (hb.mono HB.size)
      refine hKQ.out _ _ (hs21r.trans hb) (held_mono (S' := fun w' => Below y17.heap.size y17 w') (fun w' h => (hs21r.trans hb).trans (h.mono (hs21r.trans hb).size)) _ _ _ _ ?_)
      clear hKQ KQ
      replace h7 := h7.below (hs21r.trans hb) h7.lt
      have hs22r : Below y17.heap.size y17 y17 := Below.refl _ _
      try simp only [Act.put, zA, zB, zC]
      clear hb
      refine held_callA 8 (by rfl) (by kernel_rfl) (by rfl) (fun KQ hKQ => ?_)
      go_simp
      refine (new_in y17 v.pct hpct.1 hpct.2).mono ?_
      rintro e y18 ⟨p, pb, rfl, hp, bp, bpb, hb⟩
      have hzy18 : y17.heap.size ≤ y18.heap.size := hb.size
      have p1 := hp.ltg
      have p2 := hp.ltb
      replace hm := hm.below hb hm.lt
      replace hd := hd.below hb hd.lt
      replace HB := HB.trans (hb.mono HB.size)
      refine hKQ.out _ _ (hs22r.trans hb) (held_mono (S' := fun w' => Below y18.heap.size y18 w') (fun w' h => (hs22r.trans hb).trans (h.mono (hs22r.trans hb).size)) _ _ _ _ ?_)
      clear hKQ KQ
      replace h7 := h7.below (hs22r.trans hb) h7.lt
      have hs23r : Below y18.heap.size y18 y18 := Below.refl _ _
      try simp only [Act.put, zA, zB, zC]
      clear hb
      refine held_callA 13 (by rfl) (by kernel_rfl) (by rfl) (fun KQ hKQ => ?_)
      go_simp
      refine (newFX y18 c.room c.idle hroom.1 hroom.2 hidle.1 hidle.2).mono ?_
      rintro e y19 ⟨f, XF, rfl, hf, bX, hb⟩
      have hzy19 : y18.heap.size ≤ y19.heap.size := hb.size
      have X1 := hf.good.2.2.2.2
      replace hm := hm.below hb hm.lt
      replace hd := hd.below hb hd.lt
      replace hp := hp.nx hb
      replace HB := HB.trans (hb.mono HB.size)
      refine hKQ.out _ _ (hs23r.trans hb) (held_mono (S' := fun w' => Below y19.heap.size y19 w') (fun w' h => (hs23r.trans hb).trans (h.mono (hs23r.trans hb).size)) _ _ _ _ ?_)
      clear hKQ KQ
      replace h7 := h7.below (hs23r.trans hb) h7.lt
      have hs24r : Below y19.heap.size y19 y19 := Below.refl _ _
      try simp only [Act.put, zA, zB, zC]
      (refine held_takeA 15 (by rfl) ?_ (by kernel_rfl) (fun _ _ _ h => h) hs24r ?_ ?_; rotate_left; (focus (intro wq hSw; have hrd := zR hSw; go_simp; try with_reducible rfl; done)); try simp only [Act.put, zA, zB, zC])
      clear hb
      refine held_callA 16 (by rfl) (by kernel_rfl) (by rfl) (fun KQ hKQ => ?_)
      go_simp
      have hbb := (Below.refl y19.heap.size y19).alloc (Nat.le_refl _) (.cells #[.pointer (some ⟨d, 0, none⟩), .int .u32 v.ad, .int .i64 32, .pointer (some ⟨p, 0, none⟩), .pointer (some ⟨f, 0, none⟩), .map (some m), .bool true, .int .i64 0] 62)
      have hg := Blk.new y19 62 #[.pointer (some ⟨d, 0, none⟩), .int .u32 v.ad, .int .i64 32, .pointer (some ⟨p, 0, none⟩), .pointer (some ⟨f, 0, none⟩), .map (some m), .bool true, .int .i64 0]
      obtain ⟨g, eg⟩ : ∃ g, g = y19.heap.size := ⟨_, rfl⟩
      rw [← eg] at hg
      try rw [← eg]
      have g0 : y19.heap.size ≤ g := by rw [eg]; exact Nat.le_refl _
      replace eg := Lib.hid eg
      generalize y19.alloc (.cells #[.pointer (some ⟨d, 0, none⟩), .int .u32 v.ad, .int .i64 32, .pointer (some ⟨p, 0, none⟩), .pointer (some ⟨f, 0, none⟩), .map (some m), .bool true, .int .i64 0] 62) = yz at *
      replace hm := hm.below hbb hm.lt
      replace hd := hd.below hbb hd.lt
      replace hp := hp.nx hbb
      replace hf := hf.fwd hbb
      replace HB := HB.trans (hbb.mono HB.size)
      refine hKQ.out _ _ (hs24r.trans hbb) (held_mono (S' := fun w' => Below yz.heap.size yz w') (fun w' h => (hs24r.trans hbb).trans (h.mono (hs24r.trans hbb).size)) _ _ _ _ ?_)
      clear hKQ KQ
      replace h7 := h7.below (hs24r.trans hbb) h7.lt
      have hs25r : Below yz.heap.size yz yz := Below.refl _ _
      try simp only [Act.put, zA, zB, zC]
      (refine held_takeA 17 (by rfl) ?_ (by kernel_rfl) (fun _ _ _ h => h) hs25r ?_ ?_; rotate_left; (focus (intro wq hSw; have hrd := zR hSw; go_simp; try with_reducible rfl; done)); try simp only [Act.put, zA, zB, zC])
      refine wpAnyH_done (by kernel_rfl) ?_ _
      try refine NoPanic.normal ?_
      go_wp2_with fail
      go_meet
      have hdz : w3.drew.heap.size = w3.heap.size := rfl
      refine ⟨g, d, p, pb, f, m, XF, rfl, VipR.new hg hd hp hf hm (by omega) (fun k hk => ?_) rfl, fun k hk => ?_, HB⟩
      · have := bX k hk
        have := X1 k hk
        refine ⟨?_, ?_, ?_, ?_, ?_⟩ <;> omega
      · rcases hk with q | q | q | q | q | q | ⟨i, hi, _⟩
        · omega
        · omega
        · omega
        · omega
        · omega
        · have := bX k q
          omega
        · cases hi
  case rest =>
    obtain ⟨g, d, p, pb, f, m, XF, rfl, hV, hfo, hb⟩ := hcut
    have hlo := hB.size
    have hlq := hq.lt
    replace hB := hB.trans (hb.mono hB.size)
    replace hq := hq.below hb hq.lt
    replace h7 := h7.below hb h7.lt
    clear hb
    obtain ⟨A9, hA9⟩ : ∃ A9, A9 = v.A := ⟨_, rfl⟩
    rw [← hA9] at hL0
    have x2 : wc.cell? ⟨a7, 2, none⟩ = some (.slice A9 v.n v.c) := by rw [hA9]; exact h7.cellv 2 rfl
    replace hA9 := Lib.hid hA9
    have xl := h7.lt
    go_upto_region 7 with (fail)
    clear x2 xl h7 hL hC
    go_loopw [54] (fun i wr => ∃ (j : Nat) (kb : Int → Nat), j ≤ v.n ∧ i = .int .i64 (j : Int) ∧ VipR wr g d p pb f m XF kb (newS c v (mkM (v.L.take j))) ∧ addsM [] (v.L.take j) = some (mkM (v.L.take j)) ∧ (∀ i ∈ idsM (mkM (v.L.take j)), w3.heap.size ≤ kb i) ∧ Blk wr w.heap.size 29 (cfgC c) ∧ Below w.heap.size w wr) (fun i _ => v.n - (intOf i).toNat)
    case atStart => exact ⟨0, _, Nat.zero_le _, rfl, hV, rfl, (fun i hi => by cases hi), hq, hB⟩
    case round =>
    clear hV hq hB
    obtain ⟨j, kb, hj, rfl, hV, hadd, hkb, hq, hB⟩ := hrel
    replace hadd := Lib.hid hadd
    replace hkb := Lib.hid hkb
    by_cases hlt : j < v.n
    · have hji : (j : Int) < v.n := by omega
      have hj0 : (0 : Int) ≤ j := by omega
      have hj300 : (j : Int) ≤ 300 := by omega
      obtain ⟨bb, off, b, eA, hbb, hb, hbok, r0, r1, r2⟩ := bnd_cells (seen_nx hL0 hB) hlt
      subst eA
      obtain ⟨s1, s2, s3, s4, s5⟩ := adds_step hadds hb hadd.out
      replace s1 := Lib.hid s1
      replace s2 := Lib.hid s2
      replace s5 := Lib.hid s5
      have hbI := hbok.1
      have hbx := (Below.refl wr.heap.size wr).alloc (Nat.le_refl _) (.cells #[.int .i64 b.id, .int .u32 b.ad, .int .i64 b.wt] 120)
      have h10 := Blk.new wr 120 #[.int .i64 b.id, .int .u32 b.ad, .int .i64 b.wt]
      obtain ⟨l1, l2, l3, l4, l5, l6, l7⟩ := hV.lt
      have lq := hq.lt
      go_upto_region 9 with (fail)
      clear r0 r1 r2
      replace hV := hV.nx hbx
      replace hq := hq.below hbx hq.lt
      replace hB := hB.trans (hbx.mono hB.size)
      generalize wr.alloc (.cells #[.int .i64 b.id, .int .u32 b.ad, .int .i64 b.wt] 120) = w5 at *
      have n1 : wr.heap.size ≠ pb := by omega
      have n2 : wr.heap.size ≠ m := by omega
      have hz5 := hbx.size
      clear l2 l6 l7 hbx
      generalize wr.heap.size = a10 at *
      obtain ⟨e1, e2, e3, e4, e5, e6, e7, e8, e9, e10⟩ := hV.ne
      have hpbl : w3.heap.size ≤ pb := hfo pb (.inr (.inr (.inr (.inl rfl))))
      have hml : w3.heap.size ≤ m := hfo m (.inr (.inr (.inr (.inr (.inl rfl)))))
      have b1 : w.heap.size ≠ pb := by omega
      have b2 : w.heap.size ≠ m := by omega
      clear e1 e2 e5 e6 e7 e10
      have c3 : w5.cell? ⟨g, 3, none⟩ = some (.pointer (some ⟨p, 0, none⟩)) := hV.blk.cellv 3 rfl
      have lg := hV.lt.1
      have hadd5 := pAddS w5.drew p pb v.pct (mkM (v.L.take j)) hV.pol b.id b.ad b.wt
      rw [s2.out] at hadd5
      try refine wp_region_noPanic ?_
      have hs26r : w5.grownBy w5.drew (some pb) := grown_drew (grown_refl _ _)
      refine wp_region_held_drew (S := fun w' => w5.grownBy w' (some pb)) (by kernel_rfl) hs26r (fun _ => ?_)
      (refine held_takeA 0 (by rfl) ?_ (by kernel_rfl) (fun _ _ _ h => h) hs26r ?_ ?_; rotate_left; (focus (intro wq hSw; have hrd := zG hSw; go_simp; try with_reducible rfl; done)); try simp only [Act.put, zA, zB, zC])
      (refine held_takeA 1 (by rfl) ?_ (by kernel_rfl) (fun _ _ _ h => h) hs26r ?_ ?_; rotate_left; (focus (intro wq hSw; have hrd := zG hSw; go_simp; try with_reducible rfl; done)); try simp only [Act.put, zA, zB, zC])
      (refine held_takeA 2 (by rfl) ?_ (by kernel_rfl) (fun _ _ _ h => h) hs26r ?_ ?_; rotate_left; (focus (intro wq hSw; have hrd := zG hSw; go_simp; try with_reducible rfl; done)); try simp only [Act.put, zA, zB, zC])
      (refine held_takeA 3 (by rfl) ?_ (by kernel_rfl) (fun _ _ _ h => h) hs26r ?_ ?_; rotate_left; (focus (intro wq hSw; have hrd := zG hSw; go_simp; try with_reducible rfl; done)); try simp only [Act.put, zA, zB, zC])
      (refine held_takeA 4 (by rfl) ?_ (by kernel_rfl) (fun _ _ _ h => h) hs26r ?_ ?_; rotate_left; (focus (intro wq hSw; refine exec_load_blk (x := .tmp 10) ?_ ?_ (h10.grown hSw (by simp; omega)) _ Tryz.underlying120 rfl (by kernel_rfl) <;> rfl)); simp only [Act.put, zA, zB, zC])
      refine held_callA 5 (by rfl) (by kernel_rfl) (by rfl) (fun KQ hKQ => ?_)
      go_simp
      refine hadd5.mono ?_
      rintro e w6 ⟨rfl, hP6, hg6⟩
      refine hKQ.out _ _ (grown_trans hs26r hg6) (held_mono (S' := fun w' => w6.grownBy w' (some pb)) (fun w' h => grown_trans (grown_trans hs26r hg6) h) _ _ _ _ ?_)
      clear hKQ KQ
      replace h10 := h10.grown (grown_trans hs26r hg6) (by simp; omega)
      have hs27r : w6.grownBy w6 (some pb) := grown_refl _ _
      refine wpAnyH_done (by kernel_rfl) ?_ _
      try refine NoPanic.normal ?_
      replace hg6 : w5.grownBy w6 (some pb) := grown_trans (grown_drew (grown_refl _ _)) hg6
      clear hadd5 c3 lg
      have hC6 : Chg w5 w6 (fun k => k = pb) := Chg.of_grown (X := fun k => k = pb) hg6 rfl
      obtain ⟨A, hA, hPA⟩ := hV.ent
      have hA6 := hC6.ent hA (Ne.symm hV.pbm)
      have hg5 := hC6.blk hV.blk e3
      have h10' := h10
      have hq6 := hC6.blk hq b1
      have c5 : w6.cell? ⟨g, 5, none⟩ = some (.map (some m)) := hg5.cellv 5 rfl
      have lg := hg5.lt
      have x0 : w6.cell? ⟨a10, 0, none⟩ = some (.int .i64 b.id) := h10'.cellv 0 rfl
      have xl := h10'.lt
      have q6 : w6.cell? ⟨w.heap.size, 6, none⟩ = some (.int .i64 c.rise) := hq6.cellv 6 rfl
      have q7 : w6.cell? ⟨w.heap.size, 7, none⟩ = some (.int .i64 c.fall) := hq6.cellv 7 rfl
      have ql := hq6.lt
      have hgd := hgood.out
      have hri : 1 ≤ c.rise ∧ c.rise ≤ 100 := hgd.ri
      have hfa : 1 ≤ c.fall ∧ c.fall ≤ 100 := hgd.fa
      clear hgd
      have hnin := cnt_no hPA s4
      have klit := int_lit b.id hbI.1 hbI.2
      have ng : g ≠ m := e4
      go_upto_region 10 with (fail)
      try refine wp_region_noPanic ?_
      have hs28r : w6.grownBy w6.drew (some m) := grown_drew (grown_refl _ _)
      refine wp_region_held_drew (S := fun w' => w6.grownBy w' (some m)) (by kernel_rfl) hs28r (fun _ => ?_)
      (refine held_takeA 0 (by rfl) ?_ (by kernel_rfl) (fun _ _ _ h => h) hs28r ?_ ?_; rotate_left; (focus (intro wq hSw; have hrd := zG hSw; go_simp; try with_reducible rfl; done)); try simp only [Act.put, zA, zB, zC])
      (refine held_takeA 1 (by rfl) ?_ (by kernel_rfl) (fun _ _ _ h => h) hs28r ?_ ?_; rotate_left; (focus (intro wq hSw; have hrd := zG hSw; go_simp; try with_reducible rfl; done)); try simp only [Act.put, zA, zB, zC])
      (refine held_takeA 2 (by rfl) ?_ (by kernel_rfl) (fun _ _ _ h => h) hs28r ?_ ?_; rotate_left; (focus (intro wq hSw; have hrd := zG hSw; go_simp; try with_reducible rfl; done)); try simp only [Act.put, zA, zB, zC])
      (refine held_takeA 3 (by rfl) ?_ (by kernel_rfl) (fun _ _ _ h => h) hs28r ?_ ?_; rotate_left; (focus (intro wq hSw; have hrd := zG hSw; go_simp; try with_reducible rfl; done)); try simp only [Act.put, zA, zB, zC])
      (refine held_takeA 4 (by rfl) ?_ (by kernel_rfl) (fun _ _ _ h => h) hs28r ?_ ?_; rotate_left; (focus (intro wq hSw; have hrd := zG hSw; go_simp; try with_reducible rfl; done)); try simp only [Act.put, zA, zB, zC])
      (refine held_takeA 5 (by rfl) ?_ (by kernel_rfl) (fun _ _ _ h => h) hs28r ?_ ?_; rotate_left; (focus (intro wq hSw; have hrd := zG hSw; go_simp; try with_reducible rfl; done)); try simp only [Act.put, zA, zB, zC])
      (refine held_takeA 6 (by rfl) ?_ (by kernel_rfl) (fun _ _ _ h => h) hs28r ?_ ?_; rotate_left; (focus (intro wq hSw; have hrd := zG hSw; go_simp; try with_reducible rfl; done)); try simp only [Act.put, zA, zB, zC])
      (refine held_takeA 7 (by rfl) ?_ (by kernel_rfl) (fun _ _ _ h => h) hs28r ?_ ?_; rotate_left; (focus (intro wq hSw; have hrd := zG hSw; go_simp; try with_reducible rfl; done)); try simp only [Act.put, zA, zB, zC])
      (refine held_takeA 8 (by rfl) ?_ (by kernel_rfl) (fun _ _ _ h => h) hs28r ?_ ?_; rotate_left; (focus (intro wq hSw; have hrd := zG hSw; go_simp; try with_reducible rfl; done)); try simp only [Act.put, zA, zB, zC])
      (refine held_takeA 9 (by rfl) ?_ (by kernel_rfl) (fun _ _ _ h => h) hs28r ?_ ?_; rotate_left; (focus (intro wq hSw; have hrd := zG hSw; go_simp; try with_reducible rfl; done)); try simp only [Act.put, zA, zB, zC])
      refine held_callA 10 (by rfl) (by kernel_rfl) (by rfl) (fun KQ hKQ => ?_)
      go_simp
      refine (rs.new_yes c.rise c.fall w6.drew hri hfa).mono ?_
      rintro e w7 ⟨kn, rfl, hkn, hk7, hb7⟩
      have hA7 := hA6.drew.below hb7 hA6.lt
      refine hKQ.out _ _ (grown_trans hs28r (grown_of_below hb7 (Nat.le_refl _) _)) (held_mono (S' := fun w' => w7.grownBy w' (some m)) (fun w' h => grown_trans (grown_trans hs28r (grown_of_below hb7 (Nat.le_refl _) _)) h) _ _ _ _ ?_)
      clear hKQ KQ
      have hs29r : w7.grownBy w7 (some m) := grown_refl _ _
      try simp only [Act.put, zA, zB, zC]
      refine held_callA 11 (by rfl) (by kernel_rfl) (by rfl) (fun KQ hKQ => ?_)
      refine wp_put_new hA7 int_key cmap_und (.tmp 67) (.tmp 69) (.tmp 74) (by rfl) (by rfl) (by rfl) (by rfl) klit hnin ?_
      intro w8 hm8 hg8
      refine hKQ.out _ _ (grown_trans hs29r hg8) (held_mono (S' := fun w' => w8.grownBy w' (some m)) (fun w' h => grown_trans (grown_trans hs29r hg8) h) _ _ _ _ ?_)
      clear hKQ KQ
      have hs30r : w8.grownBy w8 (some m) := grown_refl _ _
      try simp only [Act.put]
      refine wpAnyH_done (by kernel_rfl) ?_ _
      try refine NoPanic.normal ?_
      replace hb7 : Below w6.heap.size w6 w7 := ⟨hb7.os, hb7.tape, hb7.output, hb7.size, hb7.block⟩
      replace hkn : w6.heap.size ≤ kn := hkn
      have hz6 := hg6.size
      have hkm : kn ≠ m := by have := hA.lt; omega
      have hC8 : Chg w5 w8 (fun k => k = pb ∨ k = m) := ((hC6.mono (Y := fun k => k = pb ∨ k = m) fun _ _ q => .inl q).trans (Chg.of_below (X := fun _ => False) hb7) fun _ _ q => q.elim).trans (Chg.of_grown (X := fun k => k = m) hg8 rfl) fun _ _ q => .inr q
      have hP8 := (hP6.nx hb7).grown hg8 (fun q => e9 (by injection q)) (fun q => hV.pbm (by injection q))
      rw [s5.out] at hP8
      have hk8 := hk7.grown hg8 (fun q => hkm (by injection q))
      have hV8 := hV.add hC8 ⟨b.id, b.ad, b.wt, false, false⟩ s4 hP8 ⟨_, hm8, List.Perm.append_right _ hPA⟩ hk8 (Nat.le_trans hz6 hkn)
      have hB8 := below_own ((below_own hB hg6 hB.size (by omega)).trans (hb7.mono (Nat.le_trans hB.size hz6))) hg8 (Nat.le_trans (Nat.le_trans hB.size hz6) hb7.size) (by omega)
      go_wp2_with fail
      refine ⟨⟨j + 1, _, by omega, by go_num, by rw [s5.out]; exact hV8, s1.out, ?_, hC8.blk hq (fun q => q.elim b1 b2), hB8⟩, by simp [intOf]; omega⟩
      intro i hi
      rw [s5.out] at hi
      by_cases ei : i = b.id
      · subst ei
        simp only [if_true]
        omega
      · simp only [if_neg ei]
        refine hkb.out i ?_
        unfold idsM at hi ⊢
        rw [List.map_append] at hi
        rcases List.mem_append.1 hi with q | q
        · exact q
        · simp at q
          exact absurd q ei
    · obtain rfl : j = v.n := by omega
      rw [List.take_of_length_le (by rw [hL0.1]; exact Nat.le_refl _)] at hV hkb
      go_wp2_with fail
      go_ret
      refine ⟨g, _, rfl, ⟨d, p, pb, f, m, XF, kb, hV, fun _ q => q, fun k hk => ?_⟩, fun k hk => ?_, hB⟩
      · obtain ⟨l1, l2, l3, l4, l5, l6, l7⟩ := hV.lt
        rcases hk with q | q | q | q | q | q | ⟨i, hi, q⟩
        · omega
        · omega
        · omega
        · omega
        · omega
        · exact l6 k q
        · rw [q]; exact l7 i hi
      · rcases hk with q | q | q | q | q | q | ⟨i, hi, q⟩
        · have := hfo k (.inl q); omega
        · have := hfo k (.inr (.inl q)); omega
        · have := hfo k (.inr (.inr (.inl q))); omega
        · have := hfo k (.inr (.inr (.inr (.inl q)))); omega
        · have := hfo k (.inr (.inr (.inr (.inr (.inl q))))); omega
        · have := hfo k (.inr (.inr (.inr (.inr (.inr (.inl q)))))); omega
        · have := hkb.out i hi; omega
end Go.Proofs.YtgdeecmhhbdjgaaGreat
