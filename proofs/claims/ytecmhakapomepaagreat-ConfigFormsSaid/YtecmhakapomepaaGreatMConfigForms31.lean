import Derived.Test.YtecmhakapomepaaGreatMConfigForms26
import Derived.Test.YtecmhakapomepaaGreatMConfigForms20
/- config: a configuration's bytes. -/
namespace Go.Proofs.YtecmhakapomepaaGreat
set_option linter.unusedVariables false
open Go Go.RowKit

theorem peers_le {c : CfgV} {w : World} (h : CfgIn w c) (hs : CfgSm c) (k : Nat) : ((c.P.take k).flatMap peerY).length ≤ 5100 := by
  have h1 := flat_len_le (f := peerY) (m := 17) (L := c.P.take k) fun a _ => by rw [peerY_len]; exact Nat.le_refl _
  have h2 : (c.P.take k).length ≤ 300 := by rw [List.length_take]; have := h.peers.1; have := hs.p; omega
  omega
theorem bnds_le {c : CfgV} {w : World} (h : CfgIn w c) (hs : CfgSm c) {v : VipV} (hv : v ∈ c.V) : v.L.length ≤ 300 := by
  have h1 := (h.vips.2.1 v hv).2.2.2.2.1
  have h2 := hs.b v hv
  omega
theorem bnd_le {v : VipV} (hv : v.L.length ≤ 300) (k : Nat) : ((v.L.take k).flatMap bndY).length ≤ 1800 := by
  have h1 := flat_len_le (f := bndY) (m := 6) (L := v.L.take k) fun a _ => by rw [bndY_len]; exact Nat.le_refl _
  have h2 : (v.L.take k).length ≤ 300 := by rw [List.length_take]; omega
  omega
theorem vips_le {c : CfgV} {w : World} (h : CfgIn w c) (hs : CfgSm c) (k : Nat) : ((c.V.take k).flatMap vipY).length ≤ 541800 := by
  have h1 := flat_len_le (f := vipY) (m := 1806) (L := c.V.take k) fun a ha => by
    rw [vipY_len]
    have := bnds_le h hs (List.mem_of_mem_take ha)
    omega
  have h2 : (c.V.take k).length ≤ 300 := by rw [List.length_take]; have := h.vips.1; have := hs.v; omega
  omega
theorem sites_le {c : CfgV} {w : World} (h : CfgIn w c) (hs : CfgSm c) (k : Nat) : ((c.S.take k).flatMap siteY).length ≤ 2700 := by
  have h1 := flat_len_le (f := siteY) (m := 9) (L := c.S.take k) fun a _ => by rw [siteY_len]; exact Nat.le_refl _
  have h2 : (c.S.take k).length ≤ 300 := by rw [List.length_take]; have := h.sites.1; have := hs.s; omega
  omega
set_option maxRecDepth 100000 in
set_option maxHeartbeats 16000000 in
theorem bytesC_any (w : World) (c : CfgV) (h : CfgIn w c) (hs : CfgSm c) : Calls Tryz.prog 8 #[.agg (cfgC c)] w fun e w' => ∃ v, e = .returned v ∧ OwnB w' w.heap.size v (outY c).length (outY c) ∧ Below w.heap.size w w' := by
  have hB := (Below.refl w.heap.size w).alloc (Nat.le_refl _) (.cells (cfgC c) 29)
  have hq := Blk.new w 29 (cfgC c)
  have hC := h.nx hB
  have hiC : (Tryz.prog.info? 29).map (·.size) = some (cfgC c).size := by kernel_rfl
  obtain ⟨A3, hA3⟩ : ∃ A, A = c.pA := ⟨_, rfl⟩
  obtain ⟨A4, hA4⟩ : ∃ A, A = c.vA := ⟨_, rfl⟩
  obtain ⟨A5, hA5⟩ : ∃ A, A = c.sA := ⟨_, rfl⟩
  go_enter Tryz.func8, Tryz.ntmps8
  go_upto_region 1 with (fail)
  generalize w.alloc (.cells (cfgC c) 29) = w1 at *
  go_wp2_with (refine wpList_load_blk rfl hq 29 (.tmp 1) rfl rfl Tryz.underlying29 rfl hiC ?_)
  refine (checkC_any w1 c hC hs).mono ?_
  rintro e w2 ⟨rfl, hb⟩
  replace hC := hC.nx hb
  replace hq := hq.below hb hq.lt
  replace hB := hB.trans (hb.mono hB.size)
  clear hb
  by_cases h0 : partC c = 0
  · have e1 : errC c = 0 := by unfold errC; rw [if_pos h0]
    have e2 : outY c = cfgY c := by unfold outY; rw [if_pos h0]
    rw [e1, h0]
    clear e1
    replace h0 := Lib.hid h0
    replace e2 := Lib.hid e2
    have hbx := (Below.refl w2.heap.size w2).alloc (Nat.le_refl _) (.cells #[.slice none 0 0] 85)
    have hwr : Wr (w2.alloc (.cells #[.slice none 0 0] 85)) w2.heap.size [] := ⟨_, _, _, Blk.new w2 85 #[.slice none 0 0], OwnB.nil _ _⟩
    go_upto_region 5 with (fail)
    generalize w2.alloc (.cells #[.slice none 0 0] 85) = w3 at *
    have hS3 := hC.peers.below hbx fun _ q => q
    have hS4 := hC.vips.below hbx fun _ q => q
    have hS5 := hC.sites.below hbx fun _ q => q
    have hq3 := hq.below hbx hq.lt
    have hql := hq.lt
    have hCw := Lib.hid hC
    replace hB := hB.trans (hbx.mono hB.size)
    clear hbx hC hq
    have hgB : w.heap.size ≤ w2.heap.size := by omega
    have hgw : w2.heap.size ≤ w3.heap.size := Nat.le_of_lt hwr.lt
    generalize w2.heap.size = g at *
    rw [← hA3] at hS3
    rw [← hA4] at hS4
    rw [← hA5] at hS5
    have hD := Below.refl g w3
    have hP1 := Lib.hid hS3.1
    have hV1 := Lib.hid hS4.1
    have hT1 := Lib.hid hS5.1
    have hsp := hs.p
    have hsv := hs.v
    have hss := hs.s
    have hid := h.id_
    have hown := h.own_
    unfold IsU at hid hown
    replace hA3 := Lib.hid hA3
    replace hA4 := Lib.hid hA4
    replace hA5 := Lib.hid hA5
    have ek : ∀ i v, (cfgC c)[i]? = some v → ∀ {W : World}, Below g w3 W → W.cell? ⟨w.heap.size, i, none⟩ = some v := fun i v hi W hD => (hq3.below hD hql).cellv i hi
    replace ek := Lib.hid ek
    obtain ⟨x0, hx0⟩ : ∃ x : List UInt8, x = [] := ⟨_, rfl⟩
    rw [← hx0] at hwr
    have hy0 : x0.length ≤ 0 := by rw [hx0]; exact Nat.le_refl _
    replace hx0 := Lib.hid hx0
    have q0 := ek.out 0 (.int .i64 c.as_) rfl hD
    have gl := hwr.lt
    go_wp2_with fail
    refine (n16_any _ g x0 w3.heap.size [c.as_] (hwr.alloc _) (Blk.new w3 3 (ivs [c.as_])) (by omega) (by simp) (by omega)).mono ?_
    rintro e v1 ⟨rfl, hwr, hg⟩
    replace hD := below_own (hD.alloc hgw _) hg (by rw [World.size_alloc]; omega) (Nat.le_refl _)
    replace hgw : g ≤ v1.heap.size := Nat.le_of_lt hwr.lt
    obtain ⟨x1, hx1⟩ : ∃ x, x = x0 ++ [c.as_].flatMap (bz · 2) := ⟨_, rfl⟩
    rw [← hx1] at hwr
    have hy1 : x1.length ≤ 2 := by rw [hx1, List.length_append]; simp only [List.flatMap_cons, List.flatMap_nil, List.length_append, List.length_nil, bz_len]; omega
    replace hx1 := Lib.hid hx1
    clear hg gl q0 
    have q1 := ek.out 1 (.int .u32 c.id) rfl hD
    have q2 := ek.out 2 (.int .u32 c.own) rfl hD
    have gl := hwr.lt
    go_wp2_with fail
    refine (n32_any _ g x1 v1.heap.size [c.id, c.own] (hwr.alloc _) (Blk.new v1 3 (ivs [c.id, c.own])) (by omega) (by simp) (by omega)).mono ?_
    rintro e v2 ⟨rfl, hwr, hg⟩
    replace hD := below_own (hD.alloc hgw _) hg (by rw [World.size_alloc]; omega) (Nat.le_refl _)
    replace hgw : g ≤ v2.heap.size := Nat.le_of_lt hwr.lt
    obtain ⟨x2, hx2⟩ : ∃ x, x = x1 ++ [c.id, c.own].flatMap (bz · 4) := ⟨_, rfl⟩
    rw [← hx2] at hwr
    have hy2 : x2.length ≤ 10 := by rw [hx2, List.length_append]; simp only [List.flatMap_cons, List.flatMap_nil, List.length_append, List.length_nil, bz_len]; omega
    replace hx2 := Lib.hid hx2
    clear hg gl q1 q2 
    have q3 := ek.out 3 (.slice A3 c.pn c.pc) (by rw [hA3.out]; rfl) hD
    have gl := hwr.lt
    go_wp2_with fail
    refine (n8_any _ g x2 v2.heap.size [(c.pn : Int)] (hwr.alloc _) (Blk.new v2 3 (ivs [(c.pn : Int)])) (by omega) (by simp) (by omega)).mono ?_
    rintro e v3 ⟨rfl, hwr, hg⟩
    replace hD := below_own (hD.alloc hgw _) hg (by rw [World.size_alloc]; omega) (Nat.le_refl _)
    replace hgw : g ≤ v3.heap.size := Nat.le_of_lt hwr.lt
    obtain ⟨x3, hx3⟩ : ∃ x, x = x2 ++ [(c.pn : Int)].flatMap (bz · 1) := ⟨_, rfl⟩
    rw [← hx3] at hwr
    have hy3 : x3.length ≤ 11 := by rw [hx3, List.length_append]; simp only [List.flatMap_cons, List.flatMap_nil, List.length_append, List.length_nil, bz_len]; omega
    replace hx3 := Lib.hid hx3
    clear hg gl q3 
    have hxh : x3 = headY c := by
      rw [hx3.out, hx2.out, hx1.out, hx0.out, ← hP1.out]
      simp [headY]
    clear hx3 hx2 hx1 hx0
    replace hxh := Lib.hid hxh
    have q3 := ek.out 3 (.slice A3 c.pn c.pc) (by rw [hA3.out]; rfl) hD
    have gl := hwr.lt
    go_upto_region 9 with (fail)
    clear gl q3 
    go_loopw [46] (fun i wr => ∃ k : Nat, k ≤ c.pn ∧ i = .int .i64 (k : Int) ∧ Wr wr g (x3 ++ (c.P.take k).flatMap peerY) ∧ Below g w3 wr) (fun i _ => c.pn - (intOf i).toNat)
    case atStart => exact ⟨0, Nat.zero_le _, rfl, by simpa using hwr, hD⟩
    case round =>
    clear hwr hD hgw
    obtain ⟨k, hk, rfl, hwr, hD⟩ := hrel
    have hgw : g ≤ wr.heap.size := Nat.le_of_lt hwr.lt
    by_cases hlt : k < c.pn
    · have hki : (k : Int) < c.pn := by omega
      have hk0 : (0 : Int) ≤ k := by omega
      have hk300 : (k : Int) ≤ 300 := by omega
      obtain ⟨b, off, p, e1, hb, hp, hokp, r0, r1, r2, r3, r4, r5, r6⟩ := peer_cells (hS3.below hD fun _ q => q) hlt
      subst e1
      have hstp := Lib.hid (flat_next (f := peerY) hp)
      have hle := peers_le hCw.out hs k
      obtain ⟨x4, hx4⟩ : ∃ x, x = x3 ++ (c.P.take k).flatMap peerY := ⟨_, rfl⟩
      rw [← hx4] at hwr
      have hy4 : x4.length ≤ 5111 := by rw [hx4, List.length_append]; omega
      replace hx4 := Lib.hid hx4
      have hbx := (Below.refl wr.heap.size wr).alloc (Nat.le_refl _) (.cells #[.int .i64 p.as_, .int .i64 p.hold, .int .i64 p.retry, .int .i64 p.gap, .int .i64 p.med, .int .i64 p.prep, .int .i64 p.back] 62)
      have h5p := Blk.new wr 62 #[.int .i64 p.as_, .int .i64 p.hold, .int .i64 p.retry, .int .i64 p.gap, .int .i64 p.med, .int .i64 p.prep, .int .i64 p.back]
      have gl := hwr.lt
      go_upto_region 11 with (fail)
      generalize wr.alloc (.cells #[.int .i64 p.as_, .int .i64 p.hold, .int .i64 p.retry, .int .i64 p.gap, .int .i64 p.med, .int .i64 p.prep, .int .i64 p.back] 62) = w5p at *
      replace hwr := hwr.below hbx
      replace hD := hD.trans (hbx.mono hgw)
      replace hgw : g ≤ w5p.heap.size := Nat.le_of_lt hwr.lt
      have hnep : wr.heap.size ≠ g := by omega
      clear hbx hb gl r0 r1 r2 r3 r4 r5 r6
      generalize wr.heap.size = ap at *
      have q0 := h5p.cellv 0 (v := .int .i64 p.as_) rfl
      have q1 := h5p.cellv 1 (v := .int .i64 p.hold) rfl
      have q2 := h5p.cellv 2 (v := .int .i64 p.retry) rfl
      have q3 := h5p.cellv 3 (v := .int .i64 p.gap) rfl
      have ql := h5p.lt
      have gl := hwr.lt
      go_wp2_with fail
      refine (n16_any _ g x4 w5p.heap.size [p.as_, p.hold, p.retry, p.gap] (hwr.alloc _) (Blk.new w5p 3 (ivs [p.as_, p.hold, p.retry, p.gap])) (by omega) (by simp) (by omega)).mono ?_
      rintro e v5 ⟨rfl, hwr, hg⟩
      replace hD := below_own (hD.alloc hgw _) hg (by rw [World.size_alloc]; omega) (Nat.le_refl _)
      replace h5p := (h5p.alloc _).grown hg (by simp; omega)
      replace hgw : g ≤ v5.heap.size := Nat.le_of_lt hwr.lt
      obtain ⟨x5, hx5⟩ : ∃ x, x = x4 ++ [p.as_, p.hold, p.retry, p.gap].flatMap (bz · 2) := ⟨_, rfl⟩
      rw [← hx5] at hwr
      have hy5 : x5.length ≤ 5119 := by rw [hx5, List.length_append]; simp only [List.flatMap_cons, List.flatMap_nil, List.length_append, List.length_nil, bz_len]; omega
      replace hx5 := Lib.hid hx5
      clear hg gl  q0 q1 q2 q3 ql
      have q4 := h5p.cellv 4 (v := .int .i64 p.med) rfl
      have ql := h5p.lt
      have gl := hwr.lt
      go_wp2_with fail
      refine (n32_any _ g x5 v5.heap.size [p.med] (hwr.alloc _) (Blk.new v5 3 (ivs [p.med])) (by omega) (by simp) (by omega)).mono ?_
      rintro e v6 ⟨rfl, hwr, hg⟩
      replace hD := below_own (hD.alloc hgw _) hg (by rw [World.size_alloc]; omega) (Nat.le_refl _)
      replace h5p := (h5p.alloc _).grown hg (by simp; omega)
      replace hgw : g ≤ v6.heap.size := Nat.le_of_lt hwr.lt
      obtain ⟨x6, hx6⟩ : ∃ x, x = x5 ++ [p.med].flatMap (bz · 4) := ⟨_, rfl⟩
      rw [← hx6] at hwr
      have hy6 : x6.length ≤ 5123 := by rw [hx6, List.length_append]; simp only [List.flatMap_cons, List.flatMap_nil, List.length_append, List.length_nil, bz_len]; omega
      replace hx6 := Lib.hid hx6
      clear hg gl  q4 ql
      have q5 := h5p.cellv 5 (v := .int .i64 p.prep) rfl
      have ql := h5p.lt
      have gl := hwr.lt
      go_wp2_with fail
      refine (n8_any _ g x6 v6.heap.size [p.prep] (hwr.alloc _) (Blk.new v6 3 (ivs [p.prep])) (by omega) (by simp) (by omega)).mono ?_
      rintro e v7 ⟨rfl, hwr, hg⟩
      replace hD := below_own (hD.alloc hgw _) hg (by rw [World.size_alloc]; omega) (Nat.le_refl _)
      replace h5p := (h5p.alloc _).grown hg (by simp; omega)
      replace hgw : g ≤ v7.heap.size := Nat.le_of_lt hwr.lt
      obtain ⟨x7, hx7⟩ : ∃ x, x = x6 ++ [p.prep].flatMap (bz · 1) := ⟨_, rfl⟩
      rw [← hx7] at hwr
      have hy7 : x7.length ≤ 5124 := by rw [hx7, List.length_append]; simp only [List.flatMap_cons, List.flatMap_nil, List.length_append, List.length_nil, bz_len]; omega
      replace hx7 := Lib.hid hx7
      clear hg gl  q5 ql
      have q6 := h5p.cellv 6 (v := .int .i64 p.back) rfl
      have ql := h5p.lt
      have gl := hwr.lt
      go_wp2_with fail
      refine (n32_any _ g x7 v7.heap.size [p.back] (hwr.alloc _) (Blk.new v7 3 (ivs [p.back])) (by omega) (by simp) (by omega)).mono ?_
      rintro e v8 ⟨rfl, hwr, hg⟩
      replace hD := below_own (hD.alloc hgw _) hg (by rw [World.size_alloc]; omega) (Nat.le_refl _)
      replace h5p := (h5p.alloc _).grown hg (by simp; omega)
      replace hgw : g ≤ v8.heap.size := Nat.le_of_lt hwr.lt
      obtain ⟨x8, hx8⟩ : ∃ x, x = x7 ++ [p.back].flatMap (bz · 4) := ⟨_, rfl⟩
      rw [← hx8] at hwr
      have hy8 : x8.length ≤ 5128 := by rw [hx8, List.length_append]; simp only [List.flatMap_cons, List.flatMap_nil, List.length_append, List.length_nil, bz_len]; omega
      replace hx8 := Lib.hid hx8
      clear hg gl  q6 ql
      have hfin : x8 = x3 ++ (c.P.take (k + 1)).flatMap peerY := by
        rw [hstp.out, ← List.append_assoc, ← hx4.out]
        rw [hx8.out, hx7.out, hx6.out, hx5.out]; simp [peerY]
      rw [hfin] at hwr
      go_wp2_with fail
      exact ⟨⟨k + 1, by omega, by go_num, hwr, hD⟩, by simp [intOf]; omega⟩
    have hkn : k = c.pn := by omega
    subst hkn
    rw [List.take_of_length_le (by rw [hP1.out]; exact Nat.le_refl _)] at hwr
    generalize wr = u4 at *
    have hle := peers_le hCw.out hs c.pn
    rw [List.take_of_length_le (by rw [hP1.out]; exact Nat.le_refl _)] at hle
    obtain ⟨x9, hx9⟩ : ∃ x, x = x3 ++ c.P.flatMap peerY := ⟨_, rfl⟩
    rw [← hx9] at hwr
    have hy9 : x9.length ≤ 5111 := by rw [hx9, List.length_append]; omega
    replace hx9 := Lib.hid hx9
    clear hle
    replace hx9 := Lib.hid (show x9 = headY c ++ c.P.flatMap peerY by rw [hx9.out, hxh.out])
    clear hxh
    have q4 := ek.out 4 (.slice A4 c.vn c.vc) (by rw [hA4.out]; rfl) hD
    have gl := hwr.lt
    go_wp2_with fail
    refine (n8_any _ g x9 u4.heap.size [(c.vn : Int)] (hwr.alloc _) (Blk.new u4 3 (ivs [(c.vn : Int)])) (by omega) (by simp) (by omega)).mono ?_
    rintro e v10 ⟨rfl, hwr, hg⟩
    replace hD := below_own (hD.alloc hgw _) hg (by rw [World.size_alloc]; omega) (Nat.le_refl _)
    replace hgw : g ≤ v10.heap.size := Nat.le_of_lt hwr.lt
    obtain ⟨x10, hx10⟩ : ∃ x, x = x9 ++ [(c.vn : Int)].flatMap (bz · 1) := ⟨_, rfl⟩
    rw [← hx10] at hwr
    have hy10 : x10.length ≤ 5112 := by rw [hx10, List.length_append]; simp only [List.flatMap_cons, List.flatMap_nil, List.length_append, List.length_nil, bz_len]; omega
    replace hx10 := Lib.hid hx10
    clear hg gl q4 
    have q4 := ek.out 4 (.slice A4 c.vn c.vc) (by rw [hA4.out]; rfl) hD
    have gl := hwr.lt
    go_upto_region 18 with (fail)
    clear gl q4 
    go_loopw [86] (fun i wr => ∃ k : Nat, k ≤ c.vn ∧ i = .int .i64 (k : Int) ∧ Wr wr g (x10 ++ (c.V.take k).flatMap vipY) ∧ Below g w3 wr) (fun i _ => c.vn - (intOf i).toNat)
    case atStart => exact ⟨0, Nat.zero_le _, rfl, by simpa using hwr, hD⟩
    case round =>
    clear hwr hD hgw
    obtain ⟨k, hk, rfl, hwr, hD⟩ := hrel
    have hgw : g ≤ wr.heap.size := Nat.le_of_lt hwr.lt
    by_cases hlt : k < c.vn
    · have hki : (k : Int) < c.vn := by omega
      have hk0 : (0 : Int) ≤ k := by omega
      have hk300 : (k : Int) ≤ 300 := by omega
      obtain ⟨b, off, p, e1, hb, hp, hokp, r0, r1, r2⟩ := vip_cells (hS4.below hD fun _ q => q) hlt
      subst e1
      have hpm := hp
      replace hokp := hS4.2.1 p (List.mem_of_getElem? hp)
      have hstp := Lib.hid (flat_next (f := vipY) hp)
      have hle := vips_le hCw.out hs k
      obtain ⟨x11, hx11⟩ : ∃ x, x = x10 ++ (c.V.take k).flatMap vipY := ⟨_, rfl⟩
      rw [← hx11] at hwr
      have hy11 : x11.length ≤ 555000 := by rw [hx11, List.length_append]; omega
      replace hx11 := Lib.hid hx11
      have hbx := (Below.refl wr.heap.size wr).alloc (Nat.le_refl _) (.cells #[.int .u32 p.ad, .int .i64 p.pct, .slice p.A p.n p.c] 53)
      have h5p := Blk.new wr 53 #[.int .u32 p.ad, .int .i64 p.pct, .slice p.A p.n p.c]
      have gl := hwr.lt
      go_upto_region 20 with (fail)
      generalize wr.alloc (.cells #[.int .u32 p.ad, .int .i64 p.pct, .slice p.A p.n p.c] 53) = w5p at *
      replace hwr := hwr.below hbx
      replace hD := hD.trans (hbx.mono hgw)
      replace hgw : g ≤ w5p.heap.size := Nat.le_of_lt hwr.lt
      have hnep : wr.heap.size ≠ g := by omega
      clear hbx hb gl r0 r1 r2
      generalize wr.heap.size = ap at *
      have q0 := h5p.cellv 0 (v := .int .u32 p.ad) rfl
      have ql := h5p.lt
      have hpu := hokp.1
      unfold IsU at hpu
      have gl := hwr.lt
      go_wp2_with fail
      refine (n32_any _ g x11 w5p.heap.size [p.ad] (hwr.alloc _) (Blk.new w5p 3 (ivs [p.ad])) (by omega) (by simp) (by omega)).mono ?_
      rintro e v12 ⟨rfl, hwr, hg⟩
      replace hD := below_own (hD.alloc hgw _) hg (by rw [World.size_alloc]; omega) (Nat.le_refl _)
      replace h5p := (h5p.alloc _).grown hg (by simp; omega)
      replace hgw : g ≤ v12.heap.size := Nat.le_of_lt hwr.lt
      obtain ⟨x12, hx12⟩ : ∃ x, x = x11 ++ [p.ad].flatMap (bz · 4) := ⟨_, rfl⟩
      rw [← hx12] at hwr
      have hy12 : x12.length ≤ 555004 := by rw [hx12, List.length_append]; simp only [List.flatMap_cons, List.flatMap_nil, List.length_append, List.length_nil, bz_len]; omega
      replace hx12 := Lib.hid hx12
      clear hg gl  q0 ql hpu
      have q1 := h5p.cellv 1 (v := .int .i64 p.pct) rfl
      have q2 := h5p.cellv 2 (v := .slice p.A p.n p.c) rfl
      have ql := h5p.lt
      have gl := hwr.lt
      go_wp2_with fail
      refine (n8_any _ g x12 v12.heap.size [p.pct, (p.n : Int)] (hwr.alloc _) (Blk.new v12 3 (ivs [p.pct, (p.n : Int)])) (by omega) (by simp) (by omega)).mono ?_
      rintro e v13 ⟨rfl, hwr, hg⟩
      replace hD := below_own (hD.alloc hgw _) hg (by rw [World.size_alloc]; omega) (Nat.le_refl _)
      replace h5p := (h5p.alloc _).grown hg (by simp; omega)
      replace hgw : g ≤ v13.heap.size := Nat.le_of_lt hwr.lt
      obtain ⟨x13, hx13⟩ : ∃ x, x = x12 ++ [p.pct, (p.n : Int)].flatMap (bz · 1) := ⟨_, rfl⟩
      rw [← hx13] at hwr
      have hy13 : x13.length ≤ 555006 := by rw [hx13, List.length_append]; simp only [List.flatMap_cons, List.flatMap_nil, List.length_append, List.length_nil, bz_len]; omega
      replace hx13 := Lib.hid hx13
      clear hg gl  q1 q2 ql
      have hbl := (hokp.2.2.2.2.1).symm
      have hSb := hokp.2.2.2.2
      have hnb : p.n ≤ 300 := hs.b p (List.mem_of_getElem? hpm)
      have hbl3 : p.L.length ≤ 300 := by omega
      obtain ⟨A6, hA6⟩ : ∃ A, A = p.A := ⟨_, rfl⟩
      rw [← hA6] at hSb
      have q2 : v13.cell? ⟨ap, 2, none⟩ = some (.slice A6 p.n p.c) := by rw [hA6]; exact h5p.cellv 2 rfl
      replace hA6 := Lib.hid hA6
      replace hbl := Lib.hid hbl
      have ql := h5p.lt
      have gl := hwr.lt
      go_upto_region 23 with (fail)
      clear gl  q2 ql
      go_loopw [107] (fun i wr => ∃ j : Nat, j ≤ p.n ∧ i = .int .i64 (j : Int) ∧ Wr wr g (x13 ++ (p.L.take j).flatMap bndY) ∧ Below g w3 wr) (fun i _ => p.n - (intOf i).toNat)
      case atStart => exact ⟨0, Nat.zero_le _, rfl, by simpa using hwr, hD⟩
      case round =>
      clear hwr hD hgw
      obtain ⟨j, hj, rfl, hwr, hD⟩ := hrel
      have hgw : g ≤ wr.heap.size := Nat.le_of_lt hwr.lt
      by_cases hlt : j < p.n
      · have hki : (j : Int) < p.n := by omega
        have hk0 : (0 : Int) ≤ j := by omega
        have hk300 : (j : Int) ≤ 300 := by omega
        obtain ⟨b, off, q, e1, hb, hp, hokq, r0, r1, r2⟩ := bnd_cells (hSb.below hD fun _ q => q) hlt
        subst e1
        have hstq := Lib.hid (flat_next (f := bndY) hp)
        have hle := bnd_le hbl3 j
        obtain ⟨x14, hx14⟩ : ∃ x, x = x13 ++ (p.L.take j).flatMap bndY := ⟨_, rfl⟩
        rw [← hx14] at hwr
        have hy14 : x14.length ≤ 560000 := by rw [hx14, List.length_append]; omega
        replace hx14 := Lib.hid hx14
        have hbx := (Below.refl wr.heap.size wr).alloc (Nat.le_refl _) (.cells #[.int .i64 q.id, .int .u32 q.ad, .int .i64 q.wt] 67)
        have h5q := Blk.new wr 67 #[.int .i64 q.id, .int .u32 q.ad, .int .i64 q.wt]
        have gl := hwr.lt
        go_upto_region 25 with (fail)
        generalize wr.alloc (.cells #[.int .i64 q.id, .int .u32 q.ad, .int .i64 q.wt] 67) = w5q at *
        replace hwr := hwr.below hbx
        replace hD := hD.trans (hbx.mono hgw)
        replace hgw : g ≤ w5q.heap.size := Nat.le_of_lt hwr.lt
        have hneq : wr.heap.size ≠ g := by omega
        clear hbx hb gl r0 r1 r2
        generalize wr.heap.size = aq at *
        have q0 := h5q.cellv 0 (v := .int .i64 q.id) rfl
        have ql := h5q.lt
        have gl := hwr.lt
        go_wp2_with fail
        refine (n8_any _ g x14 w5q.heap.size [q.id] (hwr.alloc _) (Blk.new w5q 3 (ivs [q.id])) (by omega) (by simp) (by omega)).mono ?_
        rintro e v15 ⟨rfl, hwr, hg⟩
        replace hD := below_own (hD.alloc hgw _) hg (by rw [World.size_alloc]; omega) (Nat.le_refl _)
        replace h5q := (h5q.alloc _).grown hg (by simp; omega)
        replace hgw : g ≤ v15.heap.size := Nat.le_of_lt hwr.lt
        obtain ⟨x15, hx15⟩ : ∃ x, x = x14 ++ [q.id].flatMap (bz · 1) := ⟨_, rfl⟩
        rw [← hx15] at hwr
        have hy15 : x15.length ≤ 560001 := by rw [hx15, List.length_append]; simp only [List.flatMap_cons, List.flatMap_nil, List.length_append, List.length_nil, bz_len]; omega
        replace hx15 := Lib.hid hx15
        clear hg gl  q0 ql
        have q1 := h5q.cellv 1 (v := .int .u32 q.ad) rfl
        have ql := h5q.lt
        have hqu := hokq.2.1
        unfold IsU at hqu
        have gl := hwr.lt
        go_wp2_with fail
        refine (n32_any _ g x15 v15.heap.size [q.ad] (hwr.alloc _) (Blk.new v15 3 (ivs [q.ad])) (by omega) (by simp) (by omega)).mono ?_
        rintro e v16 ⟨rfl, hwr, hg⟩
        replace hD := below_own (hD.alloc hgw _) hg (by rw [World.size_alloc]; omega) (Nat.le_refl _)
        replace h5q := (h5q.alloc _).grown hg (by simp; omega)
        replace hgw : g ≤ v16.heap.size := Nat.le_of_lt hwr.lt
        obtain ⟨x16, hx16⟩ : ∃ x, x = x15 ++ [q.ad].flatMap (bz · 4) := ⟨_, rfl⟩
        rw [← hx16] at hwr
        have hy16 : x16.length ≤ 560005 := by rw [hx16, List.length_append]; simp only [List.flatMap_cons, List.flatMap_nil, List.length_append, List.length_nil, bz_len]; omega
        replace hx16 := Lib.hid hx16
        clear hg gl  q1 ql hqu
        have q2 := h5q.cellv 2 (v := .int .i64 q.wt) rfl
        have ql := h5q.lt
        have gl := hwr.lt
        go_wp2_with fail
        refine (n8_any _ g x16 v16.heap.size [q.wt] (hwr.alloc _) (Blk.new v16 3 (ivs [q.wt])) (by omega) (by simp) (by omega)).mono ?_
        rintro e v17 ⟨rfl, hwr, hg⟩
        replace hD := below_own (hD.alloc hgw _) hg (by rw [World.size_alloc]; omega) (Nat.le_refl _)
        replace h5q := (h5q.alloc _).grown hg (by simp; omega)
        replace hgw : g ≤ v17.heap.size := Nat.le_of_lt hwr.lt
        obtain ⟨x17, hx17⟩ : ∃ x, x = x16 ++ [q.wt].flatMap (bz · 1) := ⟨_, rfl⟩
        rw [← hx17] at hwr
        have hy17 : x17.length ≤ 560006 := by rw [hx17, List.length_append]; simp only [List.flatMap_cons, List.flatMap_nil, List.length_append, List.length_nil, bz_len]; omega
        replace hx17 := Lib.hid hx17
        clear hg gl  q2 ql
        have hfin : x17 = x13 ++ (p.L.take (j + 1)).flatMap bndY := by
          rw [hstq.out, ← List.append_assoc, ← hx14.out]
          rw [hx17.out, hx16.out, hx15.out]; simp [bndY]
        rw [hfin] at hwr
        go_wp2_with fail
        exact ⟨⟨j + 1, by omega, by go_num, hwr, hD⟩, by simp [intOf]; omega⟩
      have hkn : j = p.n := by omega
      subst hkn
      rw [List.take_of_length_le (by rw [hbl.out.symm]; exact Nat.le_refl _)] at hwr
      generalize wr = u14 at *
      have hle := bnd_le hbl3 p.n
      rw [List.take_of_length_le (by rw [hbl.out.symm]; exact Nat.le_refl _)] at hle
      obtain ⟨x18, hx18⟩ : ∃ x, x = x13 ++ p.L.flatMap bndY := ⟨_, rfl⟩
      rw [← hx18] at hwr
      have hy18 : x18.length ≤ 560000 := by rw [hx18, List.length_append]; omega
      replace hx18 := Lib.hid hx18
      clear hle
      have hfin : x18 = x10 ++ (c.V.take (k + 1)).flatMap vipY := by
        rw [hstp.out, ← List.append_assoc, ← hx11.out]
        rw [hx18.out, hx13.out, hx12.out, hbl.out]; simp [vipY]
      rw [hfin] at hwr
      go_wp2_with fail
      exact ⟨⟨k + 1, by omega, by go_num, hwr, hD⟩, by simp [intOf]; omega⟩
    have hkn : k = c.vn := by omega
    subst hkn
    rw [List.take_of_length_le (by rw [hV1.out]; exact Nat.le_refl _)] at hwr
    generalize wr = u11 at *
    have hle := vips_le hCw.out hs c.vn
    rw [List.take_of_length_le (by rw [hV1.out]; exact Nat.le_refl _)] at hle
    obtain ⟨x19, hx19⟩ : ∃ x, x = x10 ++ c.V.flatMap vipY := ⟨_, rfl⟩
    rw [← hx19] at hwr
    have hy19 : x19.length ≤ 555000 := by rw [hx19, List.length_append]; omega
    replace hx19 := Lib.hid hx19
    clear hle
    have hcut := Lib.hid (show x19 = headY c ++ c.P.flatMap peerY ++ bz c.V.length 1 ++ c.V.flatMap vipY by rw [hx19.out, hx10.out, hx9.out, hV1.out]; simp)
    clear hx19 hx10 hx9
    have q5 := ek.out 5 (.slice A5 c.sn c.sc) (by rw [hA5.out]; rfl) hD
    have gl := hwr.lt
    go_wp2_with fail
    refine (n8_any _ g x19 u11.heap.size [(c.sn : Int)] (hwr.alloc _) (Blk.new u11 3 (ivs [(c.sn : Int)])) (by omega) (by simp) (by omega)).mono ?_
    rintro e v20 ⟨rfl, hwr, hg⟩
    replace hD := below_own (hD.alloc hgw _) hg (by rw [World.size_alloc]; omega) (Nat.le_refl _)
    replace hgw : g ≤ v20.heap.size := Nat.le_of_lt hwr.lt
    obtain ⟨x20, hx20⟩ : ∃ x, x = x19 ++ [(c.sn : Int)].flatMap (bz · 1) := ⟨_, rfl⟩
    rw [← hx20] at hwr
    have hy20 : x20.length ≤ 555001 := by rw [hx20, List.length_append]; simp only [List.flatMap_cons, List.flatMap_nil, List.length_append, List.length_nil, bz_len]; omega
    replace hx20 := Lib.hid hx20
    clear hg gl q5 
    have q5 := ek.out 5 (.slice A5 c.sn c.sc) (by rw [hA5.out]; rfl) hD
    have gl := hwr.lt
    go_upto_region 32 with (fail)
    clear gl q5 
    go_loopw [138] (fun i wr => ∃ k : Nat, k ≤ c.sn ∧ i = .int .i64 (k : Int) ∧ Wr wr g (x20 ++ (c.S.take k).flatMap siteY) ∧ Below g w3 wr) (fun i _ => c.sn - (intOf i).toNat)
    case atStart => exact ⟨0, Nat.zero_le _, rfl, by simpa using hwr, hD⟩
    case round =>
    clear hwr hD hgw
    obtain ⟨k, hk, rfl, hwr, hD⟩ := hrel
    have hgw : g ≤ wr.heap.size := Nat.le_of_lt hwr.lt
    by_cases hlt : k < c.sn
    · have hki : (k : Int) < c.sn := by omega
      have hk0 : (0 : Int) ≤ k := by omega
      have hk300 : (k : Int) ≤ 300 := by omega
      obtain ⟨b, off, p, e1, hb, hp, hokp, r0, r1, r2⟩ := site_cells (hS5.below hD fun _ q => q) hlt
      subst e1
      have hstp := Lib.hid (flat_next (f := siteY) hp)
      have hle := sites_le hCw.out hs k
      obtain ⟨x21, hx21⟩ : ∃ x, x = x20 ++ (c.S.take k).flatMap siteY := ⟨_, rfl⟩
      rw [← hx21] at hwr
      have hy21 : x21.length ≤ 560000 := by rw [hx21, List.length_append]; omega
      replace hx21 := Lib.hid hx21
      have hbx := (Below.refl wr.heap.size wr).alloc (Nat.le_refl _) (.cells #[.int .i64 p.id, .int .u32 p.ad, .int .i64 p.cost] 72)
      have h5p := Blk.new wr 72 #[.int .i64 p.id, .int .u32 p.ad, .int .i64 p.cost]
      have gl := hwr.lt
      go_upto_region 34 with (fail)
      generalize wr.alloc (.cells #[.int .i64 p.id, .int .u32 p.ad, .int .i64 p.cost] 72) = w5p at *
      replace hwr := hwr.below hbx
      replace hD := hD.trans (hbx.mono hgw)
      replace hgw : g ≤ w5p.heap.size := Nat.le_of_lt hwr.lt
      have hnep : wr.heap.size ≠ g := by omega
      clear hbx hb gl r0 r1 r2
      generalize wr.heap.size = ap at *
      have q0 := h5p.cellv 0 (v := .int .i64 p.id) rfl
      have ql := h5p.lt
      have gl := hwr.lt
      go_wp2_with fail
      refine (n8_any _ g x21 w5p.heap.size [p.id] (hwr.alloc _) (Blk.new w5p 3 (ivs [p.id])) (by omega) (by simp) (by omega)).mono ?_
      rintro e v22 ⟨rfl, hwr, hg⟩
      replace hD := below_own (hD.alloc hgw _) hg (by rw [World.size_alloc]; omega) (Nat.le_refl _)
      replace h5p := (h5p.alloc _).grown hg (by simp; omega)
      replace hgw : g ≤ v22.heap.size := Nat.le_of_lt hwr.lt
      obtain ⟨x22, hx22⟩ : ∃ x, x = x21 ++ [p.id].flatMap (bz · 1) := ⟨_, rfl⟩
      rw [← hx22] at hwr
      have hy22 : x22.length ≤ 560001 := by rw [hx22, List.length_append]; simp only [List.flatMap_cons, List.flatMap_nil, List.length_append, List.length_nil, bz_len]; omega
      replace hx22 := Lib.hid hx22
      clear hg gl  q0 ql
      have q1 := h5p.cellv 1 (v := .int .u32 p.ad) rfl
      have q2 := h5p.cellv 2 (v := .int .i64 p.cost) rfl
      have ql := h5p.lt
      have hpu := hokp.2.1
      unfold IsU at hpu
      have gl := hwr.lt
      go_wp2_with fail
      refine (n32_any _ g x22 v22.heap.size [p.ad, p.cost] (hwr.alloc _) (Blk.new v22 3 (ivs [p.ad, p.cost])) (by omega) (by simp) (by omega)).mono ?_
      rintro e v23 ⟨rfl, hwr, hg⟩
      replace hD := below_own (hD.alloc hgw _) hg (by rw [World.size_alloc]; omega) (Nat.le_refl _)
      replace h5p := (h5p.alloc _).grown hg (by simp; omega)
      replace hgw : g ≤ v23.heap.size := Nat.le_of_lt hwr.lt
      obtain ⟨x23, hx23⟩ : ∃ x, x = x22 ++ [p.ad, p.cost].flatMap (bz · 4) := ⟨_, rfl⟩
      rw [← hx23] at hwr
      have hy23 : x23.length ≤ 560009 := by rw [hx23, List.length_append]; simp only [List.flatMap_cons, List.flatMap_nil, List.length_append, List.length_nil, bz_len]; omega
      replace hx23 := Lib.hid hx23
      clear hg gl  q1 q2 ql hpu
      have hfin : x23 = x20 ++ (c.S.take (k + 1)).flatMap siteY := by
        rw [hstp.out, ← List.append_assoc, ← hx21.out]
        rw [hx23.out, hx22.out]; simp [siteY]
      rw [hfin] at hwr
      go_wp2_with fail
      exact ⟨⟨k + 1, by omega, by go_num, hwr, hD⟩, by simp [intOf]; omega⟩
    have hkn : k = c.sn := by omega
    subst hkn
    rw [List.take_of_length_le (by rw [hT1.out]; exact Nat.le_refl _)] at hwr
    generalize wr = u21 at *
    have hle := sites_le hCw.out hs c.sn
    rw [List.take_of_length_le (by rw [hT1.out]; exact Nat.le_refl _)] at hle
    obtain ⟨x24, hx24⟩ : ∃ x, x = x20 ++ c.S.flatMap siteY := ⟨_, rfl⟩
    rw [← hx24] at hwr
    have hy24 : x24.length ≤ 560000 := by rw [hx24, List.length_append]; omega
    replace hx24 := Lib.hid hx24
    clear hle
    have q6 := ek.out 6 (.int .i64 c.rise) rfl hD
    have q7 := ek.out 7 (.int .i64 c.fall) rfl hD
    have gl := hwr.lt
    go_wp2_with fail
    refine (n8_any _ g x24 u21.heap.size [c.rise, c.fall] (hwr.alloc _) (Blk.new u21 3 (ivs [c.rise, c.fall])) (by omega) (by simp) (by omega)).mono ?_
    rintro e v25 ⟨rfl, hwr, hg⟩
    replace hD := below_own (hD.alloc hgw _) hg (by rw [World.size_alloc]; omega) (Nat.le_refl _)
    replace hgw : g ≤ v25.heap.size := Nat.le_of_lt hwr.lt
    obtain ⟨x25, hx25⟩ : ∃ x, x = x24 ++ [c.rise, c.fall].flatMap (bz · 1) := ⟨_, rfl⟩
    rw [← hx25] at hwr
    have hy25 : x25.length ≤ 560002 := by rw [hx25, List.length_append]; simp only [List.flatMap_cons, List.flatMap_nil, List.length_append, List.length_nil, bz_len]; omega
    replace hx25 := Lib.hid hx25
    clear hg gl q6 q7 
    have q8 := ek.out 8 (.int .i64 c.every) rfl hD
    have q9 := ek.out 9 (.int .i64 c.pat) rfl hD
    have q10 := ek.out 10 (.int .i64 c.room) rfl hD
    have gl := hwr.lt
    go_wp2_with fail
    refine (n16_any _ g x25 v25.heap.size [c.every, c.pat, c.room] (hwr.alloc _) (Blk.new v25 3 (ivs [c.every, c.pat, c.room])) (by omega) (by simp) (by omega)).mono ?_
    rintro e v26 ⟨rfl, hwr, hg⟩
    replace hD := below_own (hD.alloc hgw _) hg (by rw [World.size_alloc]; omega) (Nat.le_refl _)
    replace hgw : g ≤ v26.heap.size := Nat.le_of_lt hwr.lt
    obtain ⟨x26, hx26⟩ : ∃ x, x = x25 ++ [c.every, c.pat, c.room].flatMap (bz · 2) := ⟨_, rfl⟩
    rw [← hx26] at hwr
    have hy26 : x26.length ≤ 560008 := by rw [hx26, List.length_append]; simp only [List.flatMap_cons, List.flatMap_nil, List.length_append, List.length_nil, bz_len]; omega
    replace hx26 := Lib.hid hx26
    clear hg gl q8 q9 q10 
    have q11 := ek.out 11 (.int .i64 c.idle) rfl hD
    have q12 := ek.out 12 (.int .i64 c.queue) rfl hD
    have q13 := ek.out 13 (.int .i64 c.dF) rfl hD
    have q14 := ek.out 14 (.int .i64 c.dS) rfl hD
    have q15 := ek.out 15 (.int .i64 c.dR) rfl hD
    have q16 := ek.out 16 (.int .i64 c.dC) rfl hD
    have gl := hwr.lt
    go_wp2_with fail
    refine (n32_any _ g x26 v26.heap.size [c.idle, c.queue, c.dF, c.dS, c.dR, c.dC] (hwr.alloc _) (Blk.new v26 3 (ivs [c.idle, c.queue, c.dF, c.dS, c.dR, c.dC])) (by omega) (by simp) (by omega)).mono ?_
    rintro e v27 ⟨rfl, hwr, hg⟩
    replace hD := below_own (hD.alloc hgw _) hg (by rw [World.size_alloc]; omega) (Nat.le_refl _)
    replace hgw : g ≤ v27.heap.size := Nat.le_of_lt hwr.lt
    obtain ⟨x27, hx27⟩ : ∃ x, x = x26 ++ [c.idle, c.queue, c.dF, c.dS, c.dR, c.dC].flatMap (bz · 4) := ⟨_, rfl⟩
    rw [← hx27] at hwr
    have hy27 : x27.length ≤ 560032 := by rw [hx27, List.length_append]; simp only [List.flatMap_cons, List.flatMap_nil, List.length_append, List.length_nil, bz_len]; omega
    replace hx27 := Lib.hid hx27
    clear hg gl q11 q12 q13 q14 q15 q16 
    have q17 := ek.out 17 (.int .i64 c.dH) rfl hD
    have gl := hwr.lt
    go_wp2_with fail
    refine (n16_any _ g x27 v27.heap.size [c.dH] (hwr.alloc _) (Blk.new v27 3 (ivs [c.dH])) (by omega) (by simp) (by omega)).mono ?_
    rintro e v28 ⟨rfl, hwr, hg⟩
    replace hD := below_own (hD.alloc hgw _) hg (by rw [World.size_alloc]; omega) (Nat.le_refl _)
    replace hgw : g ≤ v28.heap.size := Nat.le_of_lt hwr.lt
    obtain ⟨x28, hx28⟩ : ∃ x, x = x27 ++ [c.dH].flatMap (bz · 2) := ⟨_, rfl⟩
    rw [← hx28] at hwr
    have hy28 : x28.length ≤ 560034 := by rw [hx28, List.length_append]; simp only [List.flatMap_cons, List.flatMap_nil, List.length_append, List.length_nil, bz_len]; omega
    replace hx28 := Lib.hid hx28
    clear hg gl q17 
    have q18 := ek.out 18 (.int .i64 c.ttl) rfl hD
    have gl := hwr.lt
    go_wp2_with fail
    refine (n32_any _ g x28 v28.heap.size [c.ttl] (hwr.alloc _) (Blk.new v28 3 (ivs [c.ttl])) (by omega) (by simp) (by omega)).mono ?_
    rintro e v29 ⟨rfl, hwr, hg⟩
    replace hD := below_own (hD.alloc hgw _) hg (by rw [World.size_alloc]; omega) (Nat.le_refl _)
    replace hgw : g ≤ v29.heap.size := Nat.le_of_lt hwr.lt
    obtain ⟨x29, hx29⟩ : ∃ x, x = x28 ++ [c.ttl].flatMap (bz · 4) := ⟨_, rfl⟩
    rw [← hx29] at hwr
    have hy29 : x29.length ≤ 560038 := by rw [hx29, List.length_append]; simp only [List.flatMap_cons, List.flatMap_nil, List.length_append, List.length_nil, bz_len]; omega
    replace hx29 := Lib.hid hx29
    clear hg gl q18 
    have hall := Lib.hid (show x29 = outY c by
      rw [e2.out, hx29.out, hx28.out, hx27.out, hx26.out, hx25.out, hx24.out, hx20.out, hcut.out, ← hT1.out]
      simp [cfgY, tailY])
    obtain ⟨A, n, cp, hbw, how⟩ := hwr
    have q0 := hbw.cellv 0 (v := .slice A n cp) rfl
    have gl := hbw.lt
    go_wp2_with fail
    go_ret
    refine ⟨_, rfl, ?_, hB.trans (hD.mono hgB)⟩
    rw [← hall.out]
    exact ownB_less how (by omega)
  · have e1 : errC c = 12 := by unfold errC; rw [if_neg h0]
    have e2 : outY c = [] := by unfold outY; rw [if_neg h0]
    rw [e1]
    clear e1
    replace e2 := Lib.hid e2
    replace h0 := Lib.hid h0
    go_wp2_with fail
    go_ret
    rw [e2.out]
    exact ⟨_, rfl, OwnB.nil _ _, hB⟩
end Go.Proofs.YtecmhakapomepaaGreat
