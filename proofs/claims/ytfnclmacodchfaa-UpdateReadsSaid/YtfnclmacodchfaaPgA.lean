/- update: Parse. -/
import Derived.Test.YtfnclmacodchfaaPgP
namespace Go.Proofs.Ytfnclmacodchfaa
set_option linter.unusedVariables false
open Go Go.RowKit

/-- the body's first parts, as far as they are there. -/
def UpAt (w : World) (gu : Nat) (l : List UInt8) : Nat → Prop
  | 0 => Blk w gu 28 #[.slice none 0 0, .int .i64 0, .slice none 0 0, .int .u32 0, .int .i64 0, .bool false, .slice none 0 0]
  | 1 => ∃ A1 c1 l1, parseP (upG l) = some l1 ∧ Seen pfK w (fun b => gu < b ∧ b < w.heap.size) A1 l1.length l1 ∧ Blk w gu 28 #[.slice A1 l1.length c1, .int .i64 0, .slice none 0 0, .int .u32 0, .int .i64 0, .bool false, .slice none 0 0]
  | _ => ∃ A1 c1 l1 A2 c2 l2, parseP (upG l) = some l1 ∧ parseP (upR l) = some l2 ∧ Seen pfK w (fun b => gu < b ∧ b < w.heap.size) A1 l1.length l1 ∧ Seen pfK w (fun b => gu < b ∧ b < w.heap.size) A2 l2.length l2 ∧ Blk w gu 28 #[.slice A1 l1.length c1, .int .i64 0, .slice none 0 0, .int .u32 0, .int .i64 0, .bool false, .slice A2 l2.length c2]
set_option maxRecDepth 100000 in
set_option maxHeartbeats 16000000 in
theorem upParse_any (w : World) (A : Option Addr) (n c : Nat) (l : List UInt8) (h : Byt w w.heap.size A n l) (hn : n ≤ 10000000) :
    Calls Try.prog 19 #[.slice A n c] w fun e w' => Below w.heap.size w w' ∧ ParseUP w w' e (parseU l) := by
  have hi : (Try.prog.info? 28).map (·.size) = some 7 := by kernel_rfl
  have hj : (Try.prog.info? 44).map (·.size) = some 3 := by kernel_rfl
  have hm5 : (Try.prog.info? 26).map (·.size) = some 5 := by kernel_rfl
  have hl := Lib.hid h.1
  have hlens := up_lens l
  have hB := ((Below.refl w.heap.size w).alloc (Nat.le_refl _) (.cells #[.slice none 0 0, .int .i64 0, .slice none 0 0, .int .u32 0, .int .i64 0, .bool false, .slice none 0 0] 28)).alloc (by simp) (.cells #[.int .i64 0, .int .i64 0, .slice none 0 0] 44)
  have hr2 := (Blk.new w 28 #[.slice none 0 0, .int .i64 0, .slice none 0 0, .int .u32 0, .int .i64 0, .bool false, .slice none 0 0]).alloc (.cells #[.int .i64 0, .int .i64 0, .slice none 0 0] 44)
  have hr3 : Blk ((w.alloc (.cells #[.slice none 0 0, .int .i64 0, .slice none 0 0, .int .u32 0, .int .i64 0, .bool false, .slice none 0 0] 28)).alloc (.cells #[.int .i64 0, .int .i64 0, .slice none 0 0] 44)) (w.heap.size + 1) 44 #[.int .i64 0, .int .i64 0, .slice none 0 0] := by
    have := Blk.new (w.alloc (.cells #[.slice none 0 0, .int .i64 0, .slice none 0 0, .int .u32 0, .int .i64 0, .bool false, .slice none 0 0] 28)) 44 #[.int .i64 0, .int .i64 0, .slice none 0 0]
    simpa using this
  replace h := h.nx hB
  have hz2 : ((w.alloc (.cells #[.slice none 0 0, .int .i64 0, .slice none 0 0, .int .u32 0, .int .i64 0, .bool false, .slice none 0 0] 28)).alloc (.cells #[.int .i64 0, .int .i64 0, .slice none 0 0] 44)).heap.size = w.heap.size + 2 := by simp
  go_enter Try.func19, Try.ntmps19
  go_upto_region 1 with (fail)
  generalize (w.alloc (.cells #[.slice none 0 0, .int .i64 0, .slice none 0 0, .int .u32 0, .int .i64 0, .bool false, .slice none 0 0] 28)).alloc (.cells #[.int .i64 0, .int .i64 0, .slice none 0 0] 44) = w1 at *
  go_upto_region 3 with (go_at_call 36; refine (read_any w1 A n c l w1.heap.size h (Nat.le_refl _) (by omega)).mono ?_; rintro e w2 ⟨g, rfl, hg, hsrc, hb⟩)
  replace hr2 := hr2.below hb hr2.lt
  replace hr3 := hr3.below hb hr3.lt
  replace hB := hB.trans (hb.mono hB.size)
  have hlt := hsrc.lt
  have hba := (Below.refl w2.heap.size w2).alloc (Nat.le_refl _) (.cells #[.pointer (some ⟨g, 0, none⟩)] 66)
  have hp := Blk.new w2 66 #[.pointer (some ⟨g, 0, none⟩)]
  replace hsrc := hsrc.below hba hlt
  clear hb
  replace hr2 := hr2.below hba hr2.lt
  replace hr3 := hr3.below hba hr3.lt
  replace hB := hB.trans (hba.mono hB.size)
  go_upto_region 4 with (fail)
  generalize hw3 : w2.alloc (.cells #[.pointer (some ⟨g, 0, none⟩)] 66) = w3 at *
  have hgp : w2.heap.size ≠ g := by omega
  generalize w2.heap.size = p at *
  clear hba hw3
  have c3 : w3.cell? ⟨p, 0, none⟩ = some (.pointer (some ⟨g, 0, none⟩)) := hp.cellv 0 rfl
  have lp := hp.lt
  go_wp2_with fail
  refine (part_any w3 p g (upS0 l) hsrc c3 lp hgp).mono ?_
  rintro e w4 ⟨v4, rfl, own4, hs4, hg4⟩
  have eV : prV (upS0 l) = upG l := rfl
  have eS : prS (upS0 l) = upS1 l := rfl
  rw [eV] at own4
  rw [eS] at hs4
  obtain ⟨A4, k4, rfl, _, _, by4, hA4⟩ := own4.any2
  have ltg := hsrc.lt
  replace hp := hp.grown hg4 (by simp; omega)
  replace hr2 := hr2.grown hg4 (by simp; omega)
  replace hr3 := hr3.grown hg4 (by simp; omega)
  have hz3 := hB.size
  have hgw : w.heap.size ≤ g := by omega
  replace hB := below_own hB hg4 hz3 hgw
  have c4 : w4.cell? ⟨p, 0, none⟩ = some (.pointer (some ⟨g, 0, none⟩)) := hp.cellv 0 rfl
  have lp4 := hp.lt
  have hA4g : ∀ a, A4 = some a → a.block ≠ g := fun a e => by have := hA4 a e; omega
  clear hg4 c3 lp own4 hsrc eV eS
  go_wp2_with fail
  refine (part_any w4 p g (upS1 l) hs4 c4 lp4 hgp).mono ?_
  rintro e w5 ⟨v5, rfl, own5, hs5, hg5⟩
  have eV : prV (upS1 l) = upA l := rfl
  have eS : prS (upS1 l) = upS2 l := rfl
  rw [eV] at own5
  rw [eS] at hs5
  obtain ⟨A5, k5, rfl, _, _, by5, hA5⟩ := own5.any2
  replace by4 := by4.off hg5 hA4g
  replace hp := hp.grown hg5 (by simp; omega)
  replace hr2 := hr2.grown hg5 (by simp; omega)
  replace hr3 := hr3.grown hg5 (by simp; omega)
  have hz4 := hB.size
  have ltg4 := hs4.lt
  replace hB := below_own hB hg5 hz4 hgw
  have c5 : w5.cell? ⟨p, 0, none⟩ = some (.pointer (some ⟨g, 0, none⟩)) := hp.cellv 0 rfl
  have lp5 := hp.lt
  have hA5g : ∀ a, A5 = some a → a.block ≠ g := fun a e => by have := hA5 a e; omega
  clear hg5 c4 lp4 own5 hs4 eV eS
  go_wp2_with fail
  refine (rest_any w5 g (upS2 l) hs5).mono ?_
  rintro e w6 ⟨v6, rfl, own6, hs6, hg6⟩
  have eV : (tk (upS2 l) (leftV (upS2 l))).2 = upR l := rfl
  have eS : (tk (upS2 l) (leftV (upS2 l))).1 = upS3 l := rfl
  rw [eV] at own6
  rw [eS] at hs6
  obtain ⟨A6, k6, rfl, _, _, by6, hA6⟩ := own6.any2
  replace by4 := by4.off hg6 hA4g
  replace by5 := by5.off hg6 hA5g
  replace hp := hp.grown hg6 (by simp; omega)
  replace hr2 := hr2.grown hg6 (by simp; omega)
  replace hr3 := hr3.grown hg6 (by simp; omega)
  have hz5 := hB.size
  have ltg5 := hs5.lt
  replace hB := below_own hB hg6 hz5 hgw
  have c6 : w6.cell? ⟨p, 0, none⟩ = some (.pointer (some ⟨g, 0, none⟩)) := hp.cellv 0 rfl
  have lp6 := hp.lt
  clear hg6 c5 lp5 own6 hs5 eV eS
  go_wp2_with fail
  refine (err_any w6 g _ hs6).mono ?_
  rintro e w7 ⟨rfl, rfl⟩
  by_cases h1e : (upS3 l).e = 0
  rotate_left
  · have spec := Lib.hid (parseU_short h1e)
    have hb : ((upS3 l).e != 0) = true := by simpa using h1e
    replace h1e := Lib.hid h1e
    clear c6
    go_upto_region 7 with (fail)
    go_wp2_with (go_at_call 35; refine (upFault_any w6 1).mono ?_; rintro e wf ⟨rfl, hbf⟩; refine Hid.out ?_)
    refine Lib.hid ?_
    have hr2f := hr2.below hbf hr2.lt
    have hr3f := hr3.below hbf hr3.lt
    go_wp2_with (refine wpList_store_blk rfl hr2f 28 (.tmp 2) (.tmp 31) rfl rfl rfl rfl hi (by simp [Value.oneCell']) ?_; intro wg hr2g hg2; refine Hid.out ?_)
    refine Lib.hid ?_
    have hr3g := hr3f.grown hg2 (by simp)
    go_wp2_with (refine wpList_store_blk rfl hr3g 44 (.tmp 3) (.tmp 32) rfl rfl rfl rfl hj (by simp [Value.oneCell']) ?_; intro wh hr3h hg3)
    have hr2h := hr2g.grown hg3 (by simp)
    try rw [Exit.noGoto_ret]
    refine bodyPost_ret (results_2c rfl _ rfl rfl (load_blk hr2h Try.underlying28 rfl hi) (load_blk hr3h Try.underlying44 rfl hj)) rfl ?_
    have hBf := hB.trans (hbf.mono hB.size)
    have hBg := below_own hBf hg2 hBf.size (Nat.le_refl _)
    have hBh := below_own hBg hg3 hBg.size (by omega)
    refine ⟨hBh, ?_⟩
    rw [spec.out]
    exact ⟨_, rfl, OwnB.nil _ _⟩
  have hb : ((upS3 l).e != 0) = false := by simpa using h1e
  have h1x := Lib.hid h1e
  clear h1e c6 lp6 hs6 hp
  have hb1 := (Below.refl w6.heap.size w6).alloc (Nat.le_refl _) (.cells #[.slice none 0 0, .int .i64 0, .slice none 0 0, .int .u32 0, .int .i64 0, .bool false, .slice none 0 0] 28)
  have hb2 := hb1.alloc hb1.size (.cells #[.pointer (some ⟨w6.heap.size, 0, none⟩), .slice A4 (upG l).length k4, .pointer (some ⟨w6.heap.size, 6, none⟩), .slice A6 (upR l).length k6] 74)
  have hu := (Blk.new w6 28 #[.slice none 0 0, .int .i64 0, .slice none 0 0, .int .u32 0, .int .i64 0, .bool false, .slice none 0 0]).alloc (.cells #[.pointer (some ⟨w6.heap.size, 0, none⟩), .slice A4 (upG l).length k4, .pointer (some ⟨w6.heap.size, 6, none⟩), .slice A6 (upR l).length k6] 74)
  have hrw : Blk ((w6.alloc (.cells #[.slice none 0 0, .int .i64 0, .slice none 0 0, .int .u32 0, .int .i64 0, .bool false, .slice none 0 0] 28)).alloc (.cells #[.pointer (some ⟨w6.heap.size, 0, none⟩), .slice A4 (upG l).length k4, .pointer (some ⟨w6.heap.size, 6, none⟩), .slice A6 (upR l).length k6] 74)) (w6.heap.size + 1) 74 #[.pointer (some ⟨w6.heap.size, 0, none⟩), .slice A4 (upG l).length k4, .pointer (some ⟨w6.heap.size, 6, none⟩), .slice A6 (upR l).length k6] := by
    have := Blk.new (w6.alloc (.cells #[.slice none 0 0, .int .i64 0, .slice none 0 0, .int .u32 0, .int .i64 0, .bool false, .slice none 0 0] 28)) 74 #[.pointer (some ⟨w6.heap.size, 0, none⟩), .slice A4 (upG l).length k4, .pointer (some ⟨w6.heap.size, 6, none⟩), .slice A6 (upR l).length k6]
    simpa using this
  have hz8 : w6.heap.size + 2 ≤ ((w6.alloc (.cells #[.slice none 0 0, .int .i64 0, .slice none 0 0, .int .u32 0, .int .i64 0, .bool false, .slice none 0 0] 28)).alloc (.cells #[.pointer (some ⟨w6.heap.size, 0, none⟩), .slice A4 (upG l).length k4, .pointer (some ⟨w6.heap.size, 6, none⟩), .slice A6 (upR l).length k6] 74)).heap.size := by simp
  go_upto_region 10 with (fail)
  generalize (w6.alloc (.cells #[.slice none 0 0, .int .i64 0, .slice none 0 0, .int .u32 0, .int .i64 0, .bool false, .slice none 0 0] 28)).alloc (.cells #[.pointer (some ⟨w6.heap.size, 0, none⟩), .slice A4 (upG l).length k4, .pointer (some ⟨w6.heap.size, 6, none⟩), .slice A6 (upR l).length k6] 74) = w8 at *
  clear hb1
  have hr3w6 : w.heap.size + 1 < w6.heap.size := hr3.lt
  generalize hgu' : w6.heap.size = gu at *
  have hgu := Lib.hid (show gu = w6.heap.size from hgu'.symm)
  clear hgu'
  have hu0 : UpAt w8 gu l 0 := hu
  go_loopw [12, 13, 14, 41] (fun _ _ _ i wr => ∃ k : Nat, k ≤ 2 ∧ i = .int .i64 (k : Int) ∧ UpAt wr gu l k ∧ Blk wr (gu + 1) 74 #[.pointer (some ⟨gu, 0, none⟩), .slice A4 (upG l).length k4, .pointer (some ⟨gu, 6, none⟩), .slice A6 (upR l).length k6] ∧ Below gu w6 wr ∧ gu + 2 ≤ wr.heap.size) (fun _ _ _ i _ => 2 - (intOf i).toNat)
  case atStart => exact ⟨0, by omega, rfl, hu0, hrw, hb2, hz8⟩
  case round =>
  clear hu0 hu hrw hz8 hb2
  obtain ⟨k, hk, rfl, hU, hrw, hb6, hz8⟩ := hrel
  have hgu1 : w.heap.size + 1 < gu := hr3w6
  have hgw6 : w6.heap.size ≤ gu := Nat.le_of_eq hgu.out.symm
  have hb6' : Below w6.heap.size w6 wr := by rw [← hgu.out]; exact hb6
  replace hr2 := hr2.below hb6' hr2.lt
  replace hr3 := hr3.below hb6' hr3.lt
  replace hB := hB.trans (hb6'.mono hB.size)
  replace by4 := (by4.below hb6)
  replace by5 := (by5.below hb6)
  replace by6 := (by6.below hb6)
  have d0 : wr.cell? ⟨gu + 1, 0, none⟩ = some (.pointer (some ⟨gu, 0, none⟩)) := hrw.cellv 0 rfl
  have d1 : wr.cell? ⟨gu + 1, 1, none⟩ = some (.slice A4 (upG l).length k4) := hrw.cellv 1 rfl
  have d2 : wr.cell? ⟨gu + 1, 2, none⟩ = some (.pointer (some ⟨gu, 6, none⟩)) := hrw.cellv 2 rfl
  have d3 : wr.cell? ⟨gu + 1, 3, none⟩ = some (.slice A6 (upR l).length k6) := hrw.cellv 3 rfl
  have dl := hrw.lt
  have hlo := hl.out
  match k, hk, hU with
  | 0, _, hU =>
    have hu : Blk wr gu 28 #[.slice none 0 0, .int .i64 0, .slice none 0 0, .int .u32 0, .int .i64 0, .bool false, .slice none 0 0] := hU
    have hba := (Below.refl wr.heap.size wr).alloc (Nat.le_refl _) (.cells #[.pointer (some ⟨gu, 0, none⟩), .slice A4 (upG l).length k4] 74)
    have hx := Blk.new wr 74 #[.pointer (some ⟨gu, 0, none⟩), .slice A4 (upG l).length k4]
    replace hu := hu.alloc (.cells #[.pointer (some ⟨gu, 0, none⟩), .slice A4 (upG l).length k4] 74)
    replace hrw := hrw.alloc (.cells #[.pointer (some ⟨gu, 0, none⟩), .slice A4 (upG l).length k4] 74)
    replace by4 := by4.below (hba.mono (show gu ≤ wr.heap.size by omega))
    replace by5 := by5.below (hba.mono (show gu ≤ wr.heap.size by omega))
    replace by6 := by6.below (hba.mono (show gu ≤ wr.heap.size by omega))
    replace hb6 := hb6.trans (hba.mono (show gu ≤ wr.heap.size by omega))
    replace hr2 := hr2.below hba hr2.lt
    replace hr3 := hr3.below hba hr3.lt
    replace hB := hB.trans (hba.mono hB.size)
    go_upto_region 12 with (fail)
    generalize hwx : wr.alloc (.cells #[.pointer (some ⟨gu, 0, none⟩), .slice A4 (upG l).length k4] 74) = wx at *
    have hzx : gu + 2 ≤ wx.heap.size := Nat.le_trans hz8 hba.size
    have x0 : wx.cell? ⟨wr.heap.size, 0, none⟩ = some (.pointer (some ⟨gu, 0, none⟩)) := hx.cellv 0 rfl
    have x1 : wx.cell? ⟨wr.heap.size, 1, none⟩ = some (.slice A4 (upG l).length k4) := hx.cellv 1 rfl
    have lx := hx.lt
    go_wp2_with fail
    refine (prefixParse_any wx A4 _ k4 (upG l) (by4.more (show gu ≤ wx.heap.size by omega)) (by omega)).mono ?_
    rintro e wy ⟨hpp, hby⟩
    replace hx := hx.below hby hx.lt
    replace hu := hu.below hby hu.lt
    replace hrw := hrw.below hby hrw.lt
    replace hb6 := hb6.trans (hby.mono (show gu ≤ wx.heap.size by omega))
    replace hr2 := hr2.below hby hr2.lt
    replace hr3 := hr3.below hby hr3.lt
    replace hB := hB.trans (hby.mono hB.size)
    have hzy : gu + 2 ≤ wy.heap.size := Nat.le_trans hzx hby.size
    have y0 : wy.cell? ⟨wr.heap.size, 0, none⟩ = some (.pointer (some ⟨gu, 0, none⟩)) := hx.cellv 0 rfl
    have ly := hx.lt
    have fu := hu.frozen 0
    have cu : wy.cell? ⟨gu, 0, none⟩ = some (.slice none 0 0) := hu.cellv 0 rfl
    have lu := hu.lt
    cases hq : parseP (upG l) with
    | none =>
      rw [hq] at hpp
      have hpp2 : e = .returned (.tuple #[.slice none 0 0, .bool false]) := hpp
      subst hpp2
      have spec := Lib.hid (parseU_gone h1x.out hq)
      clear d0 d1 d2 d3 dl x0 x1 lx
      go_upto_region 14 with (fail)
      go_wp2_with (go_at_call 35; refine (upFault_any wy 10).mono ?_; rintro e wf ⟨rfl, hbf⟩; refine Hid.out ?_)
      refine Lib.hid ?_
      have hr2f := hr2.below hbf hr2.lt
      have hr3f := hr3.below hbf hr3.lt
      go_wp2_with (refine wpList_store_blk rfl hr2f 28 (.tmp 2) (.tmp 55) rfl rfl rfl rfl hi (by simp [Value.oneCell']) ?_; intro wg hr2g hg2; refine Hid.out ?_)
      refine Lib.hid ?_
      have hr3g := hr3f.grown hg2 (by simp)
      go_wp2_with (refine wpList_store_blk rfl hr3g 44 (.tmp 3) (.tmp 56) rfl rfl rfl rfl hj (by simp [Value.oneCell']) ?_; intro wh hr3h hg3)
      have hr2h := hr2g.grown hg3 (by simp)
      try rw [Exit.noGoto_ret]
      refine bodyPost_ret (results_2c rfl _ rfl rfl (load_blk hr2h Try.underlying28 rfl hi) (load_blk hr3h Try.underlying44 rfl hj)) rfl ?_
      have hBf := hB.trans (hbf.mono hB.size)
      have hBg := below_own hBf hg2 hBf.size (Nat.le_refl _)
      have hBh := below_own hBg hg3 hBg.size (by omega)
      refine ⟨hBh, ?_⟩
      rw [spec.out]
      exact ⟨_, rfl, OwnB.nil _ _⟩
    | some ll =>
      rw [hq] at hpp
      obtain ⟨vv, rfl, hrow⟩ := hpp
      obtain ⟨A9, k9, rfl, _, _, hS9⟩ := hrow.seen (Nat.le_refl _)
      clear d0 d1 d2 d3 dl x0 x1 lx
      have hS : Seen pfK wy (fun b => gu < b ∧ b < wy.heap.size) A9 ll.length ll := hS9.more fun b q => ⟨by have := q.1; omega, q.2⟩
      go_wp2_with fail
      obtain ⟨hu2, hg2⟩ := blk_store hu 0 (.slice A9 ll.length k9)
      have hrw2 := hrw.grown hg2 (by simp)
      have hb62 := below_own hb6 hg2 (show gu ≤ wy.heap.size by omega) (Nat.le_refl gu)
      have hz62 := hg2.size
      exact ⟨⟨1, by omega, by go_num, ⟨A9, k9, ll, hq, hS.up2 hg2, hu2⟩, hrw2, hb62, Nat.le_trans hzy hz62⟩, by simp [intOf]⟩
  | 1, _, hU =>
    obtain ⟨A1, c1, l1, hq1, hS1, hu⟩ := hU
    have hba := (Below.refl wr.heap.size wr).alloc (Nat.le_refl _) (.cells #[.pointer (some ⟨gu, 6, none⟩), .slice A6 (upR l).length k6] 74)
    have hx := Blk.new wr 74 #[.pointer (some ⟨gu, 6, none⟩), .slice A6 (upR l).length k6]
    replace hu := hu.alloc (.cells #[.pointer (some ⟨gu, 6, none⟩), .slice A6 (upR l).length k6] 74)
    replace hrw := hrw.alloc (.cells #[.pointer (some ⟨gu, 6, none⟩), .slice A6 (upR l).length k6] 74)
    replace by4 := by4.below (hba.mono (show gu ≤ wr.heap.size by omega))
    replace by5 := by5.below (hba.mono (show gu ≤ wr.heap.size by omega))
    replace by6 := by6.below (hba.mono (show gu ≤ wr.heap.size by omega))
    replace hb6 := hb6.trans (hba.mono (show gu ≤ wr.heap.size by omega))
    replace hr2 := hr2.below hba hr2.lt
    replace hr3 := hr3.below hba hr3.lt
    replace hB := hB.trans (hba.mono hB.size)
    go_upto_region 12 with (fail)
    generalize hwx : wr.alloc (.cells #[.pointer (some ⟨gu, 6, none⟩), .slice A6 (upR l).length k6] 74) = wx at *
    have hzx : gu + 2 ≤ wx.heap.size := Nat.le_trans hz8 hba.size
    have x0 : wx.cell? ⟨wr.heap.size, 0, none⟩ = some (.pointer (some ⟨gu, 6, none⟩)) := hx.cellv 0 rfl
    have x1 : wx.cell? ⟨wr.heap.size, 1, none⟩ = some (.slice A6 (upR l).length k6) := hx.cellv 1 rfl
    have lx := hx.lt
    go_wp2_with fail
    refine (prefixParse_any wx A6 _ k6 (upR l) (by6.more (show gu ≤ wx.heap.size by omega)) (by omega)).mono ?_
    rintro e wy ⟨hpp, hby⟩
    replace hx := hx.below hby hx.lt
    replace hu := hu.below hby hu.lt
    replace hrw := hrw.below hby hrw.lt
    replace hb6 := hb6.trans (hby.mono (show gu ≤ wx.heap.size by omega))
    replace hr2 := hr2.below hby hr2.lt
    replace hr3 := hr3.below hby hr3.lt
    replace hB := hB.trans (hby.mono hB.size)
    have hzy : gu + 2 ≤ wy.heap.size := Nat.le_trans hzx hby.size
    have y0 : wy.cell? ⟨wr.heap.size, 0, none⟩ = some (.pointer (some ⟨gu, 6, none⟩)) := hx.cellv 0 rfl
    have ly := hx.lt
    have fu := hu.frozen 6
    have cu : wy.cell? ⟨gu, 6, none⟩ = some (.slice none 0 0) := hu.cellv 6 rfl
    have lu := hu.lt
    cases hq : parseP (upR l) with
    | none =>
      rw [hq] at hpp
      have hpp2 : e = .returned (.tuple #[.slice none 0 0, .bool false]) := hpp
      subst hpp2
      have spec := Lib.hid (parseU_rest h1x.out hq1 hq)
      clear d0 d1 d2 d3 dl x0 x1 lx
      go_upto_region 14 with (fail)
      go_wp2_with (go_at_call 35; refine (upFault_any wy 10).mono ?_; rintro e wf ⟨rfl, hbf⟩; refine Hid.out ?_)
      refine Lib.hid ?_
      have hr2f := hr2.below hbf hr2.lt
      have hr3f := hr3.below hbf hr3.lt
      go_wp2_with (refine wpList_store_blk rfl hr2f 28 (.tmp 2) (.tmp 55) rfl rfl rfl rfl hi (by simp [Value.oneCell']) ?_; intro wg hr2g hg2; refine Hid.out ?_)
      refine Lib.hid ?_
      have hr3g := hr3f.grown hg2 (by simp)
      go_wp2_with (refine wpList_store_blk rfl hr3g 44 (.tmp 3) (.tmp 56) rfl rfl rfl rfl hj (by simp [Value.oneCell']) ?_; intro wh hr3h hg3)
      have hr2h := hr2g.grown hg3 (by simp)
      try rw [Exit.noGoto_ret]
      refine bodyPost_ret (results_2c rfl _ rfl rfl (load_blk hr2h Try.underlying28 rfl hi) (load_blk hr3h Try.underlying44 rfl hj)) rfl ?_
      have hBf := hB.trans (hbf.mono hB.size)
      have hBg := below_own hBf hg2 hBf.size (Nat.le_refl _)
      have hBh := below_own hBg hg3 hBg.size (by omega)
      refine ⟨hBh, ?_⟩
      rw [spec.out]
      exact ⟨_, rfl, OwnB.nil _ _⟩
    | some ll =>
      rw [hq] at hpp
      obtain ⟨vv, rfl, hrow⟩ := hpp
      obtain ⟨A9, k9, rfl, _, _, hS9⟩ := hrow.seen (Nat.le_refl _)
      clear d0 d1 d2 d3 dl x0 x1 lx
      have hS : Seen pfK wy (fun b => gu < b ∧ b < wy.heap.size) A9 ll.length ll := hS9.more fun b q => ⟨by have := q.1; omega, q.2⟩
      go_wp2_with fail
      obtain ⟨hu2, hg2⟩ := blk_store hu 6 (.slice A9 ll.length k9)
      have hrw2 := hrw.grown hg2 (by simp)
      have hb62 := below_own hb6 hg2 (show gu ≤ wy.heap.size by omega) (Nat.le_refl gu)
      have hz62 := hg2.size
      exact ⟨⟨2, by omega, by go_num, ⟨A1, c1, l1, A9, k9, ll, hq1, hq, ((hS1.up (by rw [← hwx]; exact (Below.refl _ _).alloc (Nat.le_refl _) _)).up hby).up2 hg2, hS.up2 hg2, hu2⟩, hrw2, hb62, Nat.le_trans hzy hz62⟩, by simp [intOf]⟩
  | 2, _, hU =>
    obtain ⟨A1, c1, l1, A2, c2, l2, hq1, hq2, hS1, hS2, hu⟩ := hU
    clear d0 d1 d2 d3 dl by4 by6 hrw
    have lu := hu.lt
    have hl2 := parseP_len hq2
    have hl2b : l2.length ≤ 10000000 := by omega
    have hlA : (upA l).length ≤ 10000000 := by omega
    clear hl2 hl hlo hlens hn hA4 hA5 hA6 hA4g hA5g ltg hz3 hgw ltg4 ltg5 hz4 hz5 hb6 hb6' hr3w6 hz2 hg hgp hlt hgu hgw6 hb h
    by_cases h3 : (upA l).length = 0 ∧ l2.length = 0
    · have spec := Lib.hid (parseU_nil h1x.out hq1 hq2 h3)
      have a0 : ((upA l).length : Int) = 0 := by omega
      have a1 : (l2.length : Int) = 0 := by omega
      have b0 : (((upA l).length : Int) == 0) = true := by simpa using a0
      have b1 : ((l2.length : Int) == 0) = true := by simpa using a1
      replace a0 := Lib.hid a0
      replace a1 := Lib.hid a1
      replace h3 := Lib.hid h3
      have u0 : wr.cell? ⟨gu, 0, none⟩ = some (.slice A1 l1.length c1) := hu.cellv 0 rfl
      have u1 : wr.cell? ⟨gu, 1, none⟩ = some (.int .i64 0) := hu.cellv 1 rfl
      have u2 : wr.cell? ⟨gu, 2, none⟩ = some (.slice none 0 0) := hu.cellv 2 rfl
      have u3 : wr.cell? ⟨gu, 3, none⟩ = some (.int .u32 0) := hu.cellv 3 rfl
      have u4 : wr.cell? ⟨gu, 4, none⟩ = some (.int .i64 0) := hu.cellv 4 rfl
      have u5 : wr.cell? ⟨gu, 5, none⟩ = some (.bool false) := hu.cellv 5 rfl
      have u6 : wr.cell? ⟨gu, 6, none⟩ = some (.slice A2 l2.length c2) := hu.cellv 6 rfl
      go_upto_region 18 with (fail)
      go_wp2_with (refine wpList_store_blk rfl hr2 28 (.tmp 2) (.tmp 71) rfl rfl rfl rfl hi (by simp [Value.oneCell']) ?_; intro wg hr2g hg2; refine Hid.out ?_)
      refine Lib.hid ?_
      have hr3g := hr3.grown hg2 (by simp)
      go_wp2_with (refine wpList_store_blk rfl hr3g 44 (.tmp 3) (.tmp 72) rfl rfl rfl rfl hj (by simp [Value.oneCell']) ?_; intro wh hr3h hg3)
      have hr2h := hr2g.grown hg3 (by simp)
      try rw [Exit.noGoto_ret]
      refine bodyPost_ret (results_2c rfl _ rfl rfl (load_blk hr2h Try.underlying28 rfl hi) (load_blk hr3h Try.underlying44 rfl hj)) rfl ?_
      have hBg := below_own hB hg2 hB.size (Nat.le_refl _)
      have hBh := below_own hBg hg3 hBg.size (by omega)
      have hzw := hB.size
      have h0u : w.heap.size + 1 < gu := hgu1
      refine ⟨hBh, ?_⟩
      rw [spec.out]
      have t1b := ((hS1.up3 hg2 (by omega)).up3 hg3 (by omega)).more (fun b q => (q.2 : b < wh.heap.size))
      have t2b := ((hS2.up3 hg2 (by omega)).up3 hg3 (by omega)).more (fun b q => (q.2 : b < wh.heap.size))
      exact ⟨A1, c1, none, 0, 0, A2, c2, rfl, t1b, Seen.none_, t2b⟩
    by_cases a0 : (upA l).length = 0
    · have a1 : l2.length ≠ 0 := fun q => h3 ⟨a0, q⟩
      have a1i : ¬ ((l2.length : Int) = 0) := by omega
      have a0i : ((upA l).length : Int) = 0 := by omega
      have b1 : ((l2.length : Int) == 0) = false := by simpa using a1i
      have b0 : (((upA l).length : Int) == 0) = true := by simpa using a0i
      replace a0i := Lib.hid a0i
      replace a1i := Lib.hid a1i
      replace a1 := Lib.hid a1
      replace h3 := Lib.hid h3
      replace a0 := Lib.hid a0
      have u0 : wr.cell? ⟨gu, 0, none⟩ = some (.slice A1 l1.length c1) := hu.cellv 0 rfl
      have u1 : wr.cell? ⟨gu, 1, none⟩ = some (.int .i64 0) := hu.cellv 1 rfl
      have u2 : wr.cell? ⟨gu, 2, none⟩ = some (.slice none 0 0) := hu.cellv 2 rfl
      have u3 : wr.cell? ⟨gu, 3, none⟩ = some (.int .u32 0) := hu.cellv 3 rfl
      have u4 : wr.cell? ⟨gu, 4, none⟩ = some (.int .i64 0) := hu.cellv 4 rfl
      have u5 : wr.cell? ⟨gu, 5, none⟩ = some (.bool false) := hu.cellv 5 rfl
      have u6 : wr.cell? ⟨gu, 6, none⟩ = some (.slice A2 l2.length c2) := hu.cellv 6 rfl
      have hgz : gu < wr.heap.size := by omega
      go_wp2_with fail
      refine (attrParse_any wr A5 _ k5 (upA l) (by5.more (show gu ≤ wr.heap.size by omega)) hlA).mono ?_
      rintro e wa ⟨hba, hP⟩
      replace hu := hu.below hba hu.lt
      replace hS1 := hS1.up hba
      replace hS2 := hS2.up hba
      replace hr2 := hr2.below hba hr2.lt
      replace hr3 := hr3.below hba hr3.lt
      replace hB := hB.trans (hba.mono hB.size)
      have hza := hba.size
      clear by5 u0 u1 u2 u3 u4 u5 u6
      cases hA : parseA (upA l) with
      | error x =>
        rw [hA] at hP
        obtain ⟨v7, he7, own7⟩ := hP
        obtain ⟨A7, c7, rfl, _, _, by7, hA7⟩ := own7.any2
        have he8 : e = .returned (.tuple #[.agg #[.int .i64 0, .slice none 0 0, .int .u32 0, .int .i64 0, .bool false], .agg #[.int .i64 3, .int .i64 x.1, .slice A7 x.2.length c7]]) := he7
        subst he8
        clear he7
        have hbb := ((Below.refl wa.heap.size wa).alloc (Nat.le_refl _) (.cells #[.int .i64 0, .slice none 0 0, .int .u32 0, .int .i64 0, .bool false] 26)).alloc (by simp) (.cells #[.int .i64 3, .int .i64 x.1, .slice A7 x.2.length c7] 44)
        have hf : Blk ((wa.alloc (.cells #[.int .i64 0, .slice none 0 0, .int .u32 0, .int .i64 0, .bool false] 26)).alloc (.cells #[.int .i64 3, .int .i64 x.1, .slice A7 x.2.length c7] 44)) (wa.heap.size + 1) 44 #[.int .i64 3, .int .i64 x.1, .slice A7 x.2.length c7] := by
          have := Blk.new (wa.alloc (.cells #[.int .i64 0, .slice none 0 0, .int .u32 0, .int .i64 0, .bool false] 26)) 44 #[.int .i64 3, .int .i64 x.1, .slice A7 x.2.length c7]
          simpa using this
        replace hu := hu.below hbb hu.lt
        replace hS1 := hS1.up hbb
        replace hS2 := hS2.up hbb
        replace own7 := own7.below hbb
        replace hr2 := hr2.below hbb hr2.lt
        replace hr3 := hr3.below hbb hr3.lt
        replace hB := hB.trans (hbb.mono hB.size)
        go_upto_region 20 with (fail)
        generalize (wa.alloc (.cells #[.int .i64 0, .slice none 0 0, .int .u32 0, .int .i64 0, .bool false] 26)).alloc (.cells #[.int .i64 3, .int .i64 x.1, .slice A7 x.2.length c7] 44) = wb at *
        have hzb := hbb.size
        clear hbb
        have hgfz : gu < wa.heap.size + 1 := by omega
        generalize hgf : wa.heap.size + 1 = gf at *
        replace hgf := Lib.hid hgf
        have ltf := hf.lt
        have lub := hu.lt
        have f0 : wb.cell? ⟨gf, 0, none⟩ = some (.int .i64 3) := hf.cellv 0 rfl
        have f1 : wb.cell? ⟨gf, 1, none⟩ = some (.int .i64 x.1) := hf.cellv 1 rfl
        have u0 : wb.cell? ⟨gu, 0, none⟩ = some (.slice A1 l1.length c1) := hu.cellv 0 rfl
        have u1 : wb.cell? ⟨gu, 1, none⟩ = some (.int .i64 0) := hu.cellv 1 rfl
        have u2 : wb.cell? ⟨gu, 2, none⟩ = some (.slice none 0 0) := hu.cellv 2 rfl
        have u3 : wb.cell? ⟨gu, 3, none⟩ = some (.int .u32 0) := hu.cellv 3 rfl
        have u4 : wb.cell? ⟨gu, 4, none⟩ = some (.int .i64 0) := hu.cellv 4 rfl
        have u5 : wb.cell? ⟨gu, 5, none⟩ = some (.bool false) := hu.cellv 5 rfl
        have u6 : wb.cell? ⟨gu, 6, none⟩ = some (.slice A2 l2.length c2) := hu.cellv 6 rfl
        replace hA := Lib.hid hA
        by_cases h4 : 0 < l2.length
        · have h4i : (0 : Int) < l2.length := by omega
          have spec := Lib.hid (parseU_err h1x.out hq1 hq2 h3.out hA.out (.inl h4))
          clear hS1 hS2 by7 hA7 hl2b hlA hq1 hq2 h3 hA h1x
          go_upto_region 22 with (fail)
          have own := own7
          -- region 22: 0 1 2M 3M
          try refine wp_region_noPanic ?_
          have hs1r : (fun w' => ∀ _ : Unit, w'.heap[gf]? = wb.heap[gf]?) wb.drew := fun _ => rfl
          refine wp_region_held_drew (S := fun w' => ∀ _ : Unit, w'.heap[gf]? = wb.heap[gf]?) (by kernel_rfl) hs1r (fun _ => ?_)
          (refine held_takeA 0 (by rfl) ?_ (by kernel_rfl) (fun _ _ _ h => h) hs1r ?_ ?_; rotate_left; (focus (intro wq hSw; have hrd := hSw; go_simp; try with_reducible rfl; done)); try simp only [Act.put, List.setIfInBounds_toArray, List.set_cons_zero, List.set_cons_succ])
          (refine held_takeA 1 (by rfl) ?_ (by kernel_rfl) (fun _ _ _ h => h) hs1r ?_ ?_; rotate_left; (focus (intro wq hSw; refine exec_load_blk (x := .tmp 16) ?_ ?_ (show Blk wq gf 44 #[.int .i64 3, .int .i64 x.1, .slice A7 x.2.length c7] from (hSw ()).trans hf) _ Try.underlying44 rfl (by kernel_rfl) <;> rfl)); simp only [Act.put, List.setIfInBounds_toArray, List.set_cons_zero, List.set_cons_succ])
          refine held_callA 2 (by rfl) (by kernel_rfl) (by rfl) (fun KQ hKQ => ?_)
          refine wp_store_blk hr2.drew 28 (.tmp 2) (.tmp 96) (by rfl) (by rfl) (by rfl) (by rfl) (by exact hi) (by simp [Value.oneCell']) ?_
          intro wy hr6 hg6
          replace own := own.drew.kept hg6 (ownB_far own.drew (by omega))
          replace hr3 := hr3.drew.grown hg6 (by intro e; injection e with e; omega)
          have hzB := hB.size
          replace hB := below_own hB.drew hg6 hB.drew.size (by omega)
          have hk5 : ∀ _ : Unit, wy.heap[gf]? = wb.heap[gf]? := fun _ => hg6.block gf ltf (by intro e; injection e with e; omega)
          have hs2r := hk5
          refine hKQ.out _ _ hs2r ?_
          clear hKQ KQ
          try simp only [Act.put]
          refine held_callA 3 (by rfl) (by kernel_rfl) (by rfl) (fun KQ hKQ => ?_)
          refine wp_store_blk hr3 44 (.tmp 3) (.tmp 97) (by rfl) (by rfl) (by rfl) (by rfl) (by exact hj) (by simp [Value.oneCell']) ?_
          intro wz hr7 hg7
          replace own := own.kept hg7 (ownB_far own (by omega))
          have hs6 := hg6.size
          have hk6 : ∀ _ : Unit, wz.heap[gf]? = wb.heap[gf]? := fun _ => (hg7.block gf (Nat.lt_of_lt_of_le ltf hs6) (by intro e; injection e with e; omega)).trans (hk5 ())
          have hs3r := hk6
          refine hKQ.out _ _ hs3r ?_
          clear hKQ KQ
          try simp only [Act.put]
          refine wpAnyH_done (by kernel_rfl) ?_ _
          try refine NoPanic.normal ?_
          go_wp2_with fail
          try rw [Exit.noGoto_ret]
          replace hr6 := hr6.grown hg7 (by intro e; injection e with e; omega)
          replace hB := below_own hB hg7 hB.size (by omega)
          refine bodyPost_ret (results_2c rfl _ rfl rfl (load_blk hr6 Try.underlying28 rfl hi) (load_blk hr7 Try.underlying44 rfl hj)) rfl ?_
          refine ⟨hB, ?_⟩
          rw [spec.out]
          exact ⟨_, rfl, OwnB.less own (by omega)⟩
        have h4i : ¬ ((0 : Int) < l2.length) := by omega
        by_cases h5 : x.1 = 3
        rotate_left
        · have b5 : (x.1 != 3) = true := by simpa using h5
          have spec := Lib.hid (parseU_err h1x.out hq1 hq2 h3.out hA.out (.inr h5))
          clear hS1 hS2 by7 hA7 hl2b hlA hq1 hq2 h3 hA h1x
          go_upto_region 22 with (fail)
          have own := own7
          -- region 22: 0 1 2M 3M
          try refine wp_region_noPanic ?_
          have hs4r : (fun w' => ∀ _ : Unit, w'.heap[gf]? = wb.heap[gf]?) wb.drew := fun _ => rfl
          refine wp_region_held_drew (S := fun w' => ∀ _ : Unit, w'.heap[gf]? = wb.heap[gf]?) (by kernel_rfl) hs4r (fun _ => ?_)
          (refine held_takeA 0 (by rfl) ?_ (by kernel_rfl) (fun _ _ _ h => h) hs4r ?_ ?_; rotate_left; (focus (intro wq hSw; have hrd := hSw; go_simp; try with_reducible rfl; done)); try simp only [Act.put, List.setIfInBounds_toArray, List.set_cons_zero, List.set_cons_succ])
          (refine held_takeA 1 (by rfl) ?_ (by kernel_rfl) (fun _ _ _ h => h) hs4r ?_ ?_; rotate_left; (focus (intro wq hSw; refine exec_load_blk (x := .tmp 16) ?_ ?_ (show Blk wq gf 44 #[.int .i64 3, .int .i64 x.1, .slice A7 x.2.length c7] from (hSw ()).trans hf) _ Try.underlying44 rfl (by kernel_rfl) <;> rfl)); simp only [Act.put, List.setIfInBounds_toArray, List.set_cons_zero, List.set_cons_succ])
          refine held_callA 2 (by rfl) (by kernel_rfl) (by rfl) (fun KQ hKQ => ?_)
          refine wp_store_blk hr2.drew 28 (.tmp 2) (.tmp 96) (by rfl) (by rfl) (by rfl) (by rfl) (by exact hi) (by simp [Value.oneCell']) ?_
          intro wy hr6 hg6
          replace own := own.drew.kept hg6 (ownB_far own.drew (by omega))
          replace hr3 := hr3.drew.grown hg6 (by intro e; injection e with e; omega)
          have hzB := hB.size
          replace hB := below_own hB.drew hg6 hB.drew.size (by omega)
          have hk5 : ∀ _ : Unit, wy.heap[gf]? = wb.heap[gf]? := fun _ => hg6.block gf ltf (by intro e; injection e with e; omega)
          have hs5r := hk5
          refine hKQ.out _ _ hs5r ?_
          clear hKQ KQ
          try simp only [Act.put]
          refine held_callA 3 (by rfl) (by kernel_rfl) (by rfl) (fun KQ hKQ => ?_)
          refine wp_store_blk hr3 44 (.tmp 3) (.tmp 97) (by rfl) (by rfl) (by rfl) (by rfl) (by exact hj) (by simp [Value.oneCell']) ?_
          intro wz hr7 hg7
          replace own := own.kept hg7 (ownB_far own (by omega))
          have hs6 := hg6.size
          have hk6 : ∀ _ : Unit, wz.heap[gf]? = wb.heap[gf]? := fun _ => (hg7.block gf (Nat.lt_of_lt_of_le ltf hs6) (by intro e; injection e with e; omega)).trans (hk5 ())
          have hs6r := hk6
          refine hKQ.out _ _ hs6r ?_
          clear hKQ KQ
          try simp only [Act.put]
          refine wpAnyH_done (by kernel_rfl) ?_ _
          try refine NoPanic.normal ?_
          go_wp2_with fail
          try rw [Exit.noGoto_ret]
          replace hr6 := hr6.grown hg7 (by intro e; injection e with e; omega)
          replace hB := below_own hB hg7 hB.size (by omega)
          refine bodyPost_ret (results_2c rfl _ rfl rfl (load_blk hr6 Try.underlying28 rfl hi) (load_blk hr7 Try.underlying44 rfl hj)) rfl ?_
          refine ⟨hB, ?_⟩
          rw [spec.out]
          exact ⟨_, rfl, OwnB.less own (by omega)⟩
        have b5 : (x.1 != 3) = false := by simpa using h5
        have spec := Lib.hid (parseU_mis h1x.out hq1 hq2 h3.out hA.out (fun q => q.elim h4 (fun q => q h5)))
        replace h5 := Lib.hid h5
        go_upto_region 25 with (fail)
        clear f0 f1 own7 by7 hA7 hf hA h3 h4 h4i b5 h5 h1x hq1 hq2 hl2b hlA ltf hgfz hgf
        go_upto_region 25 with (fail)
        go_wp2_with (refine wpList_store_blk rfl hr2 28 (.tmp 2) (.tmp 105) rfl rfl rfl rfl hi (by simp [Value.oneCell']) ?_; intro wg hr2g hg2; refine Hid.out ?_)
        refine Lib.hid ?_
        have hr3g := hr3.grown hg2 (by simp)
        go_wp2_with (refine wpList_store_blk rfl hr3g 44 (.tmp 3) (.tmp 106) rfl rfl rfl rfl hj (by simp [Value.oneCell']) ?_; intro wh hr3h hg3)
        have hr2h := hr2g.grown hg3 (by simp)
        try rw [Exit.noGoto_ret]
        refine bodyPost_ret (results_2c rfl _ rfl rfl (load_blk hr2h Try.underlying28 rfl hi) (load_blk hr3h Try.underlying44 rfl hj)) rfl ?_
        have hBg := below_own hB hg2 hB.size (Nat.le_refl _)
        have hBh := below_own hBg hg3 hBg.size (by omega)
        have hzw := hB.size
        have h0u : w.heap.size + 1 < gu := hgu1
        refine ⟨hBh, ?_⟩
        rw [spec.out]
        have t1b := ((hS1.up3 hg2 (by omega)).up3 hg3 (by omega)).more (fun b q => (q.2 : b < wh.heap.size))
        have t2b := ((hS2.up3 hg2 (by omega)).up3 hg3 (by omega)).more (fun b q => (q.2 : b < wh.heap.size))
        exact ⟨A1, c1, none, 0, 0, A2, c2, rfl, t1b, Seen.none_, t2b⟩
      | ok a =>
        rw [hA] at hP
        obtain ⟨A7, n7, c7, he7, hS7⟩ := hP
        have he8 : e = .returned (.tuple #[.agg #[.int .i64 a.o, .slice A7 n7 c7, .int .u32 a.h, .int .i64 a.m, .bool a.b], .agg #[.int .i64 0, .int .i64 0, .slice none 0 0]]) := he7
        subst he8
        clear he7
        replace hS7 := hS7.more (S' := fun b => gu < b ∧ b < wa.heap.size) fun b q => ⟨by have := q.1; omega, q.2⟩
        have hbb := ((Below.refl wa.heap.size wa).alloc (Nat.le_refl _) (.cells #[.int .i64 a.o, .slice A7 n7 c7, .int .u32 a.h, .int .i64 a.m, .bool a.b] 26)).alloc (by simp) (.cells #[.int .i64 0, .int .i64 0, .slice none 0 0] 44)
        have hat : Blk ((wa.alloc (.cells #[.int .i64 a.o, .slice A7 n7 c7, .int .u32 a.h, .int .i64 a.m, .bool a.b] 26)).alloc (.cells #[.int .i64 0, .int .i64 0, .slice none 0 0] 44)) wa.heap.size 26 #[.int .i64 a.o, .slice A7 n7 c7, .int .u32 a.h, .int .i64 a.m, .bool a.b] := (Blk.new wa 26 #[.int .i64 a.o, .slice A7 n7 c7, .int .u32 a.h, .int .i64 a.m, .bool a.b]).alloc (.cells #[.int .i64 0, .int .i64 0, .slice none 0 0] 44)
        have hf : Blk ((wa.alloc (.cells #[.int .i64 a.o, .slice A7 n7 c7, .int .u32 a.h, .int .i64 a.m, .bool a.b] 26)).alloc (.cells #[.int .i64 0, .int .i64 0, .slice none 0 0] 44)) (wa.heap.size + 1) 44 #[.int .i64 0, .int .i64 0, .slice none 0 0] := by
          have := Blk.new (wa.alloc (.cells #[.int .i64 a.o, .slice A7 n7 c7, .int .u32 a.h, .int .i64 a.m, .bool a.b] 26)) 44 #[.int .i64 0, .int .i64 0, .slice none 0 0]
          simpa using this
        replace hu := hu.below hbb hu.lt
        replace hS1 := hS1.up hbb
        replace hS2 := hS2.up hbb
        replace hS7 := hS7.up hbb
        replace hr2 := hr2.below hbb hr2.lt
        replace hr3 := hr3.below hbb hr3.lt
        replace hB := hB.trans (hbb.mono hB.size)
        go_upto_region 20 with (fail)
        generalize (wa.alloc (.cells #[.int .i64 a.o, .slice A7 n7 c7, .int .u32 a.h, .int .i64 a.m, .bool a.b] 26)).alloc (.cells #[.int .i64 0, .int .i64 0, .slice none 0 0] 44) = wb at *
        have hzb := hbb.size
        clear hbb
        have ltf := hf.lt
        have lub := hu.lt
        have lat := hat.lt
        have f0 : wb.cell? ⟨wa.heap.size + 1, 0, none⟩ = some (.int .i64 0) := hf.cellv 0 rfl
        have g0 : wb.cell? ⟨wa.heap.size, 0, none⟩ = some (.int .i64 a.o) := hat.cellv 0 rfl
        have g1 : wb.cell? ⟨wa.heap.size, 1, none⟩ = some (.slice A7 n7 c7) := hat.cellv 1 rfl
        have g2 : wb.cell? ⟨wa.heap.size, 2, none⟩ = some (.int .u32 a.h) := hat.cellv 2 rfl
        have g3 : wb.cell? ⟨wa.heap.size, 3, none⟩ = some (.int .i64 a.m) := hat.cellv 3 rfl
        have g4 : wb.cell? ⟨wa.heap.size, 4, none⟩ = some (.bool a.b) := hat.cellv 4 rfl
        replace hA := Lib.hid hA
        have u0 : wb.cell? ⟨gu, 0, none⟩ = some (.slice A1 l1.length c1) := hu.cellv 0 rfl
        have u1 : wb.cell? ⟨gu, 1, none⟩ = some (.int .i64 0) := hu.cellv 1 rfl
        have u2 : wb.cell? ⟨gu, 2, none⟩ = some (.slice none 0 0) := hu.cellv 2 rfl
        have u3 : wb.cell? ⟨gu, 3, none⟩ = some (.int .u32 0) := hu.cellv 3 rfl
        have u4 : wb.cell? ⟨gu, 4, none⟩ = some (.int .i64 0) := hu.cellv 4 rfl
        have u5 : wb.cell? ⟨gu, 5, none⟩ = some (.bool false) := hu.cellv 5 rfl
        have u6 : wb.cell? ⟨gu, 6, none⟩ = some (.slice A2 l2.length c2) := hu.cellv 6 rfl
        by_cases h4 : 0 < l2.length
        rotate_left
        · have h4i : ¬ ((0 : Int) < l2.length) := by omega
          have spec := Lib.hid (parseU_ign h1x.out hq1 hq2 h3.out hA.out h4)
          go_upto_region 25 with (fail)
          clear f0 g0 g1 g2 g3 g4 hS7 hat hf hA h3 h4 h4i h1x hq1 hq2 hl2b hlA ltf lat
          go_upto_region 25 with (fail)
          go_wp2_with (refine wpList_store_blk rfl hr2 28 (.tmp 2) (.tmp 105) rfl rfl rfl rfl hi (by simp [Value.oneCell']) ?_; intro wg hr2g hg2; refine Hid.out ?_)
          refine Lib.hid ?_
          have hr3g := hr3.grown hg2 (by simp)
          go_wp2_with (refine wpList_store_blk rfl hr3g 44 (.tmp 3) (.tmp 106) rfl rfl rfl rfl hj (by simp [Value.oneCell']) ?_; intro wh hr3h hg3)
          have hr2h := hr2g.grown hg3 (by simp)
          try rw [Exit.noGoto_ret]
          refine bodyPost_ret (results_2c rfl _ rfl rfl (load_blk hr2h Try.underlying28 rfl hi) (load_blk hr3h Try.underlying44 rfl hj)) rfl ?_
          have hBg := below_own hB hg2 hB.size (Nat.le_refl _)
          have hBh := below_own hBg hg3 hBg.size (by omega)
          have hzw := hB.size
          have h0u : w.heap.size + 1 < gu := hgu1
          refine ⟨hBh, ?_⟩
          rw [spec.out]
          have t1b := ((hS1.up3 hg2 (by omega)).up3 hg3 (by omega)).more (fun b q => (q.2 : b < wh.heap.size))
          have t2b := ((hS2.up3 hg2 (by omega)).up3 hg3 (by omega)).more (fun b q => (q.2 : b < wh.heap.size))
          exact ⟨A1, c1, none, 0, 0, A2, c2, rfl, t1b, Seen.none_, t2b⟩
        have h4i : (0 : Int) < l2.length := by omega
        have spec := Lib.hid (parseU_att h1x.out hq1 hq2 h3.out hA.out h4)
        have hthere := there_mid5 hu
        go_upto_region 24 with (fail)
        go_upto_region 25 with (refine wpList_store_mid (by rfl) 26 (.tmp 104) (.tmp 103) (by rfl) gu 1 #[.int .i64 a.o, .slice A7 n7 c7, .int .u32 a.h, .int .i64 a.m, .bool a.b] (by rfl) (by rfl) hthere hm5 (by simp [Value.oneCell']) ?_)
        obtain ⟨hu9, hg9⟩ := blk_mid5 hu (.int .i64 a.o) (.slice A7 n7 c7) (.int .u32 a.h) (.int .i64 a.m) (.bool a.b)
        generalize wb.setCells gu 1 [.int .i64 a.o, .slice A7 n7 c7, .int .u32 a.h, .int .i64 a.m, .bool a.b] = wc at *
        replace hu := hu9
        replace hS1 := hS1.up2 hg9
        replace hS2 := hS2.up2 hg9
        replace hS7 := hS7.up2 hg9
        replace hr2 := hr2.grown hg9 (by simp; omega)
        replace hr3 := hr3.grown hg9 (by simp; omega)
        have hzbb := hB.size
        replace hB := below_own hB hg9 hzbb (by omega)
        have lub := hu.lt
        clear u0 u1 u2 u3 u4 u5 u6 f0 g0 g1 g2 g3 g4 lat ltf hf hat hthere hu9 hA h3 h4 h4i h1x hq1 hq2 hl2b hlA
        have u0 : wc.cell? ⟨gu, 0, none⟩ = some (.slice A1 l1.length c1) := hu.cellv 0 rfl
        have u1 : wc.cell? ⟨gu, 1, none⟩ = some (.int .i64 a.o) := hu.cellv 1 rfl
        have u2 : wc.cell? ⟨gu, 2, none⟩ = some (.slice A7 n7 c7) := hu.cellv 2 rfl
        have u3 : wc.cell? ⟨gu, 3, none⟩ = some (.int .u32 a.h) := hu.cellv 3 rfl
        have u4 : wc.cell? ⟨gu, 4, none⟩ = some (.int .i64 a.m) := hu.cellv 4 rfl
        have u5 : wc.cell? ⟨gu, 5, none⟩ = some (.bool a.b) := hu.cellv 5 rfl
        have u6 : wc.cell? ⟨gu, 6, none⟩ = some (.slice A2 l2.length c2) := hu.cellv 6 rfl
        go_upto_region 25 with (fail)
        go_wp2_with (refine wpList_store_blk rfl hr2 28 (.tmp 2) (.tmp 105) rfl rfl rfl rfl hi (by simp [Value.oneCell']) ?_; intro wg hr2g hg2; refine Hid.out ?_)
        refine Lib.hid ?_
        have hr3g := hr3.grown hg2 (by simp)
        go_wp2_with (refine wpList_store_blk rfl hr3g 44 (.tmp 3) (.tmp 106) rfl rfl rfl rfl hj (by simp [Value.oneCell']) ?_; intro wh hr3h hg3)
        have hr2h := hr2g.grown hg3 (by simp)
        try rw [Exit.noGoto_ret]
        refine bodyPost_ret (results_2c rfl _ rfl rfl (load_blk hr2h Try.underlying28 rfl hi) (load_blk hr3h Try.underlying44 rfl hj)) rfl ?_
        have hBg := below_own hB hg2 hB.size (Nat.le_refl _)
        have hBh := below_own hBg hg3 hBg.size (by omega)
        have hzw := hB.size
        have h0u : w.heap.size + 1 < gu := hgu1
        refine ⟨hBh, ?_⟩
        rw [spec.out]
        have t1b := ((hS1.up3 hg2 (by omega)).up3 hg3 (by omega)).more (fun b q => (q.2 : b < wh.heap.size))
        have t2b := ((hS2.up3 hg2 (by omega)).up3 hg3 (by omega)).more (fun b q => (q.2 : b < wh.heap.size))
        exact ⟨A1, c1, A7, n7, c7, A2, c2, rfl, t1b, ((hS7.up3 hg2 (by omega)).up3 hg3 (by omega)).more (fun b q => (q.2 : b < wh.heap.size)), t2b⟩
    · have a0i : ¬ (((upA l).length : Int) = 0) := by omega
      have b0 : (((upA l).length : Int) == 0) = false := by simpa using a0i
      replace a0i := Lib.hid a0i
      replace h3 := Lib.hid h3
      replace a0 := Lib.hid a0
      have u0 : wr.cell? ⟨gu, 0, none⟩ = some (.slice A1 l1.length c1) := hu.cellv 0 rfl
      have u1 : wr.cell? ⟨gu, 1, none⟩ = some (.int .i64 0) := hu.cellv 1 rfl
      have u2 : wr.cell? ⟨gu, 2, none⟩ = some (.slice none 0 0) := hu.cellv 2 rfl
      have u3 : wr.cell? ⟨gu, 3, none⟩ = some (.int .u32 0) := hu.cellv 3 rfl
      have u4 : wr.cell? ⟨gu, 4, none⟩ = some (.int .i64 0) := hu.cellv 4 rfl
      have u5 : wr.cell? ⟨gu, 5, none⟩ = some (.bool false) := hu.cellv 5 rfl
      have u6 : wr.cell? ⟨gu, 6, none⟩ = some (.slice A2 l2.length c2) := hu.cellv 6 rfl
      have hgz : gu < wr.heap.size := by omega
      go_wp2_with fail
      refine (attrParse_any wr A5 _ k5 (upA l) (by5.more (show gu ≤ wr.heap.size by omega)) hlA).mono ?_
      rintro e wa ⟨hba, hP⟩
      replace hu := hu.below hba hu.lt
      replace hS1 := hS1.up hba
      replace hS2 := hS2.up hba
      replace hr2 := hr2.below hba hr2.lt
      replace hr3 := hr3.below hba hr3.lt
      replace hB := hB.trans (hba.mono hB.size)
      have hza := hba.size
      clear by5 u0 u1 u2 u3 u4 u5 u6
      cases hA : parseA (upA l) with
      | error x =>
        rw [hA] at hP
        obtain ⟨v7, he7, own7⟩ := hP
        obtain ⟨A7, c7, rfl, _, _, by7, hA7⟩ := own7.any2
        have he8 : e = .returned (.tuple #[.agg #[.int .i64 0, .slice none 0 0, .int .u32 0, .int .i64 0, .bool false], .agg #[.int .i64 3, .int .i64 x.1, .slice A7 x.2.length c7]]) := he7
        subst he8
        clear he7
        have hbb := ((Below.refl wa.heap.size wa).alloc (Nat.le_refl _) (.cells #[.int .i64 0, .slice none 0 0, .int .u32 0, .int .i64 0, .bool false] 26)).alloc (by simp) (.cells #[.int .i64 3, .int .i64 x.1, .slice A7 x.2.length c7] 44)
        have hf : Blk ((wa.alloc (.cells #[.int .i64 0, .slice none 0 0, .int .u32 0, .int .i64 0, .bool false] 26)).alloc (.cells #[.int .i64 3, .int .i64 x.1, .slice A7 x.2.length c7] 44)) (wa.heap.size + 1) 44 #[.int .i64 3, .int .i64 x.1, .slice A7 x.2.length c7] := by
          have := Blk.new (wa.alloc (.cells #[.int .i64 0, .slice none 0 0, .int .u32 0, .int .i64 0, .bool false] 26)) 44 #[.int .i64 3, .int .i64 x.1, .slice A7 x.2.length c7]
          simpa using this
        replace hu := hu.below hbb hu.lt
        replace hS1 := hS1.up hbb
        replace hS2 := hS2.up hbb
        replace own7 := own7.below hbb
        replace hr2 := hr2.below hbb hr2.lt
        replace hr3 := hr3.below hbb hr3.lt
        replace hB := hB.trans (hbb.mono hB.size)
        go_upto_region 20 with (fail)
        generalize (wa.alloc (.cells #[.int .i64 0, .slice none 0 0, .int .u32 0, .int .i64 0, .bool false] 26)).alloc (.cells #[.int .i64 3, .int .i64 x.1, .slice A7 x.2.length c7] 44) = wb at *
        have hzb := hbb.size
        clear hbb
        have hgfz : gu < wa.heap.size + 1 := by omega
        generalize hgf : wa.heap.size + 1 = gf at *
        replace hgf := Lib.hid hgf
        have ltf := hf.lt
        have lub := hu.lt
        have f0 : wb.cell? ⟨gf, 0, none⟩ = some (.int .i64 3) := hf.cellv 0 rfl
        have f1 : wb.cell? ⟨gf, 1, none⟩ = some (.int .i64 x.1) := hf.cellv 1 rfl
        have u0 : wb.cell? ⟨gu, 0, none⟩ = some (.slice A1 l1.length c1) := hu.cellv 0 rfl
        have u1 : wb.cell? ⟨gu, 1, none⟩ = some (.int .i64 0) := hu.cellv 1 rfl
        have u2 : wb.cell? ⟨gu, 2, none⟩ = some (.slice none 0 0) := hu.cellv 2 rfl
        have u3 : wb.cell? ⟨gu, 3, none⟩ = some (.int .u32 0) := hu.cellv 3 rfl
        have u4 : wb.cell? ⟨gu, 4, none⟩ = some (.int .i64 0) := hu.cellv 4 rfl
        have u5 : wb.cell? ⟨gu, 5, none⟩ = some (.bool false) := hu.cellv 5 rfl
        have u6 : wb.cell? ⟨gu, 6, none⟩ = some (.slice A2 l2.length c2) := hu.cellv 6 rfl
        replace hA := Lib.hid hA
        by_cases h4 : 0 < l2.length
        · have h4i : (0 : Int) < l2.length := by omega
          have spec := Lib.hid (parseU_err h1x.out hq1 hq2 h3.out hA.out (.inl h4))
          clear hS1 hS2 by7 hA7 hl2b hlA hq1 hq2 h3 hA h1x
          go_upto_region 22 with (fail)
          have own := own7
          -- region 22: 0 1 2M 3M
          try refine wp_region_noPanic ?_
          have hs7r : (fun w' => ∀ _ : Unit, w'.heap[gf]? = wb.heap[gf]?) wb.drew := fun _ => rfl
          refine wp_region_held_drew (S := fun w' => ∀ _ : Unit, w'.heap[gf]? = wb.heap[gf]?) (by kernel_rfl) hs7r (fun _ => ?_)
          (refine held_takeA 0 (by rfl) ?_ (by kernel_rfl) (fun _ _ _ h => h) hs7r ?_ ?_; rotate_left; (focus (intro wq hSw; have hrd := hSw; go_simp; try with_reducible rfl; done)); try simp only [Act.put, List.setIfInBounds_toArray, List.set_cons_zero, List.set_cons_succ])
          (refine held_takeA 1 (by rfl) ?_ (by kernel_rfl) (fun _ _ _ h => h) hs7r ?_ ?_; rotate_left; (focus (intro wq hSw; refine exec_load_blk (x := .tmp 16) ?_ ?_ (show Blk wq gf 44 #[.int .i64 3, .int .i64 x.1, .slice A7 x.2.length c7] from (hSw ()).trans hf) _ Try.underlying44 rfl (by kernel_rfl) <;> rfl)); simp only [Act.put, List.setIfInBounds_toArray, List.set_cons_zero, List.set_cons_succ])
          refine held_callA 2 (by rfl) (by kernel_rfl) (by rfl) (fun KQ hKQ => ?_)
          refine wp_store_blk hr2.drew 28 (.tmp 2) (.tmp 96) (by rfl) (by rfl) (by rfl) (by rfl) (by exact hi) (by simp [Value.oneCell']) ?_
          intro wy hr6 hg6
          replace own := own.drew.kept hg6 (ownB_far own.drew (by omega))
          replace hr3 := hr3.drew.grown hg6 (by intro e; injection e with e; omega)
          have hzB := hB.size
          replace hB := below_own hB.drew hg6 hB.drew.size (by omega)
          have hk5 : ∀ _ : Unit, wy.heap[gf]? = wb.heap[gf]? := fun _ => hg6.block gf ltf (by intro e; injection e with e; omega)
          have hs8r := hk5
          refine hKQ.out _ _ hs8r ?_
          clear hKQ KQ
          try simp only [Act.put]
          refine held_callA 3 (by rfl) (by kernel_rfl) (by rfl) (fun KQ hKQ => ?_)
          refine wp_store_blk hr3 44 (.tmp 3) (.tmp 97) (by rfl) (by rfl) (by rfl) (by rfl) (by exact hj) (by simp [Value.oneCell']) ?_
          intro wz hr7 hg7
          replace own := own.kept hg7 (ownB_far own (by omega))
          have hs6 := hg6.size
          have hk6 : ∀ _ : Unit, wz.heap[gf]? = wb.heap[gf]? := fun _ => (hg7.block gf (Nat.lt_of_lt_of_le ltf hs6) (by intro e; injection e with e; omega)).trans (hk5 ())
          have hs9r := hk6
          refine hKQ.out _ _ hs9r ?_
          clear hKQ KQ
          try simp only [Act.put]
          refine wpAnyH_done (by kernel_rfl) ?_ _
          try refine NoPanic.normal ?_
          go_wp2_with fail
          try rw [Exit.noGoto_ret]
          replace hr6 := hr6.grown hg7 (by intro e; injection e with e; omega)
          replace hB := below_own hB hg7 hB.size (by omega)
          refine bodyPost_ret (results_2c rfl _ rfl rfl (load_blk hr6 Try.underlying28 rfl hi) (load_blk hr7 Try.underlying44 rfl hj)) rfl ?_
          refine ⟨hB, ?_⟩
          rw [spec.out]
          exact ⟨_, rfl, OwnB.less own (by omega)⟩
        have h4i : ¬ ((0 : Int) < l2.length) := by omega
        by_cases h5 : x.1 = 3
        rotate_left
        · have b5 : (x.1 != 3) = true := by simpa using h5
          have spec := Lib.hid (parseU_err h1x.out hq1 hq2 h3.out hA.out (.inr h5))
          clear hS1 hS2 by7 hA7 hl2b hlA hq1 hq2 h3 hA h1x
          go_upto_region 22 with (fail)
          have own := own7
          -- region 22: 0 1 2M 3M
          try refine wp_region_noPanic ?_
          have hs10r : (fun w' => ∀ _ : Unit, w'.heap[gf]? = wb.heap[gf]?) wb.drew := fun _ => rfl
          refine wp_region_held_drew (S := fun w' => ∀ _ : Unit, w'.heap[gf]? = wb.heap[gf]?) (by kernel_rfl) hs10r (fun _ => ?_)
          (refine held_takeA 0 (by rfl) ?_ (by kernel_rfl) (fun _ _ _ h => h) hs10r ?_ ?_; rotate_left; (focus (intro wq hSw; have hrd := hSw; go_simp; try with_reducible rfl; done)); try simp only [Act.put, List.setIfInBounds_toArray, List.set_cons_zero, List.set_cons_succ])
          (refine held_takeA 1 (by rfl) ?_ (by kernel_rfl) (fun _ _ _ h => h) hs10r ?_ ?_; rotate_left; (focus (intro wq hSw; refine exec_load_blk (x := .tmp 16) ?_ ?_ (show Blk wq gf 44 #[.int .i64 3, .int .i64 x.1, .slice A7 x.2.length c7] from (hSw ()).trans hf) _ Try.underlying44 rfl (by kernel_rfl) <;> rfl)); simp only [Act.put, List.setIfInBounds_toArray, List.set_cons_zero, List.set_cons_succ])
          refine held_callA 2 (by rfl) (by kernel_rfl) (by rfl) (fun KQ hKQ => ?_)
          refine wp_store_blk hr2.drew 28 (.tmp 2) (.tmp 96) (by rfl) (by rfl) (by rfl) (by rfl) (by exact hi) (by simp [Value.oneCell']) ?_
          intro wy hr6 hg6
          replace own := own.drew.kept hg6 (ownB_far own.drew (by omega))
          replace hr3 := hr3.drew.grown hg6 (by intro e; injection e with e; omega)
          have hzB := hB.size
          replace hB := below_own hB.drew hg6 hB.drew.size (by omega)
          have hk5 : ∀ _ : Unit, wy.heap[gf]? = wb.heap[gf]? := fun _ => hg6.block gf ltf (by intro e; injection e with e; omega)
          have hs11r := hk5
          refine hKQ.out _ _ hs11r ?_
          clear hKQ KQ
          try simp only [Act.put]
          refine held_callA 3 (by rfl) (by kernel_rfl) (by rfl) (fun KQ hKQ => ?_)
          refine wp_store_blk hr3 44 (.tmp 3) (.tmp 97) (by rfl) (by rfl) (by rfl) (by rfl) (by exact hj) (by simp [Value.oneCell']) ?_
          intro wz hr7 hg7
          replace own := own.kept hg7 (ownB_far own (by omega))
          have hs6 := hg6.size
          have hk6 : ∀ _ : Unit, wz.heap[gf]? = wb.heap[gf]? := fun _ => (hg7.block gf (Nat.lt_of_lt_of_le ltf hs6) (by intro e; injection e with e; omega)).trans (hk5 ())
          have hs12r := hk6
          refine hKQ.out _ _ hs12r ?_
          clear hKQ KQ
          try simp only [Act.put]
          refine wpAnyH_done (by kernel_rfl) ?_ _
          try refine NoPanic.normal ?_
          go_wp2_with fail
          try rw [Exit.noGoto_ret]
          replace hr6 := hr6.grown hg7 (by intro e; injection e with e; omega)
          replace hB := below_own hB hg7 hB.size (by omega)
          refine bodyPost_ret (results_2c rfl _ rfl rfl (load_blk hr6 Try.underlying28 rfl hi) (load_blk hr7 Try.underlying44 rfl hj)) rfl ?_
          refine ⟨hB, ?_⟩
          rw [spec.out]
          exact ⟨_, rfl, OwnB.less own (by omega)⟩
        have b5 : (x.1 != 3) = false := by simpa using h5
        have spec := Lib.hid (parseU_mis h1x.out hq1 hq2 h3.out hA.out (fun q => q.elim h4 (fun q => q h5)))
        replace h5 := Lib.hid h5
        go_upto_region 25 with (fail)
        clear f0 f1 own7 by7 hA7 hf hA h3 h4 h4i b5 h5 h1x hq1 hq2 hl2b hlA ltf hgfz hgf
        go_upto_region 25 with (fail)
        go_wp2_with (refine wpList_store_blk rfl hr2 28 (.tmp 2) (.tmp 105) rfl rfl rfl rfl hi (by simp [Value.oneCell']) ?_; intro wg hr2g hg2; refine Hid.out ?_)
        refine Lib.hid ?_
        have hr3g := hr3.grown hg2 (by simp)
        go_wp2_with (refine wpList_store_blk rfl hr3g 44 (.tmp 3) (.tmp 106) rfl rfl rfl rfl hj (by simp [Value.oneCell']) ?_; intro wh hr3h hg3)
        have hr2h := hr2g.grown hg3 (by simp)
        try rw [Exit.noGoto_ret]
        refine bodyPost_ret (results_2c rfl _ rfl rfl (load_blk hr2h Try.underlying28 rfl hi) (load_blk hr3h Try.underlying44 rfl hj)) rfl ?_
        have hBg := below_own hB hg2 hB.size (Nat.le_refl _)
        have hBh := below_own hBg hg3 hBg.size (by omega)
        have hzw := hB.size
        have h0u : w.heap.size + 1 < gu := hgu1
        refine ⟨hBh, ?_⟩
        rw [spec.out]
        have t1b := ((hS1.up3 hg2 (by omega)).up3 hg3 (by omega)).more (fun b q => (q.2 : b < wh.heap.size))
        have t2b := ((hS2.up3 hg2 (by omega)).up3 hg3 (by omega)).more (fun b q => (q.2 : b < wh.heap.size))
        exact ⟨A1, c1, none, 0, 0, A2, c2, rfl, t1b, Seen.none_, t2b⟩
      | ok a =>
        rw [hA] at hP
        obtain ⟨A7, n7, c7, he7, hS7⟩ := hP
        have he8 : e = .returned (.tuple #[.agg #[.int .i64 a.o, .slice A7 n7 c7, .int .u32 a.h, .int .i64 a.m, .bool a.b], .agg #[.int .i64 0, .int .i64 0, .slice none 0 0]]) := he7
        subst he8
        clear he7
        replace hS7 := hS7.more (S' := fun b => gu < b ∧ b < wa.heap.size) fun b q => ⟨by have := q.1; omega, q.2⟩
        have hbb := ((Below.refl wa.heap.size wa).alloc (Nat.le_refl _) (.cells #[.int .i64 a.o, .slice A7 n7 c7, .int .u32 a.h, .int .i64 a.m, .bool a.b] 26)).alloc (by simp) (.cells #[.int .i64 0, .int .i64 0, .slice none 0 0] 44)
        have hat : Blk ((wa.alloc (.cells #[.int .i64 a.o, .slice A7 n7 c7, .int .u32 a.h, .int .i64 a.m, .bool a.b] 26)).alloc (.cells #[.int .i64 0, .int .i64 0, .slice none 0 0] 44)) wa.heap.size 26 #[.int .i64 a.o, .slice A7 n7 c7, .int .u32 a.h, .int .i64 a.m, .bool a.b] := (Blk.new wa 26 #[.int .i64 a.o, .slice A7 n7 c7, .int .u32 a.h, .int .i64 a.m, .bool a.b]).alloc (.cells #[.int .i64 0, .int .i64 0, .slice none 0 0] 44)
        have hf : Blk ((wa.alloc (.cells #[.int .i64 a.o, .slice A7 n7 c7, .int .u32 a.h, .int .i64 a.m, .bool a.b] 26)).alloc (.cells #[.int .i64 0, .int .i64 0, .slice none 0 0] 44)) (wa.heap.size + 1) 44 #[.int .i64 0, .int .i64 0, .slice none 0 0] := by
          have := Blk.new (wa.alloc (.cells #[.int .i64 a.o, .slice A7 n7 c7, .int .u32 a.h, .int .i64 a.m, .bool a.b] 26)) 44 #[.int .i64 0, .int .i64 0, .slice none 0 0]
          simpa using this
        replace hu := hu.below hbb hu.lt
        replace hS1 := hS1.up hbb
        replace hS2 := hS2.up hbb
        replace hS7 := hS7.up hbb
        replace hr2 := hr2.below hbb hr2.lt
        replace hr3 := hr3.below hbb hr3.lt
        replace hB := hB.trans (hbb.mono hB.size)
        go_upto_region 20 with (fail)
        generalize (wa.alloc (.cells #[.int .i64 a.o, .slice A7 n7 c7, .int .u32 a.h, .int .i64 a.m, .bool a.b] 26)).alloc (.cells #[.int .i64 0, .int .i64 0, .slice none 0 0] 44) = wb at *
        have hzb := hbb.size
        clear hbb
        have ltf := hf.lt
        have lub := hu.lt
        have lat := hat.lt
        have f0 : wb.cell? ⟨wa.heap.size + 1, 0, none⟩ = some (.int .i64 0) := hf.cellv 0 rfl
        have g0 : wb.cell? ⟨wa.heap.size, 0, none⟩ = some (.int .i64 a.o) := hat.cellv 0 rfl
        have g1 : wb.cell? ⟨wa.heap.size, 1, none⟩ = some (.slice A7 n7 c7) := hat.cellv 1 rfl
        have g2 : wb.cell? ⟨wa.heap.size, 2, none⟩ = some (.int .u32 a.h) := hat.cellv 2 rfl
        have g3 : wb.cell? ⟨wa.heap.size, 3, none⟩ = some (.int .i64 a.m) := hat.cellv 3 rfl
        have g4 : wb.cell? ⟨wa.heap.size, 4, none⟩ = some (.bool a.b) := hat.cellv 4 rfl
        replace hA := Lib.hid hA
        have u0 : wb.cell? ⟨gu, 0, none⟩ = some (.slice A1 l1.length c1) := hu.cellv 0 rfl
        have u1 : wb.cell? ⟨gu, 1, none⟩ = some (.int .i64 0) := hu.cellv 1 rfl
        have u2 : wb.cell? ⟨gu, 2, none⟩ = some (.slice none 0 0) := hu.cellv 2 rfl
        have u3 : wb.cell? ⟨gu, 3, none⟩ = some (.int .u32 0) := hu.cellv 3 rfl
        have u4 : wb.cell? ⟨gu, 4, none⟩ = some (.int .i64 0) := hu.cellv 4 rfl
        have u5 : wb.cell? ⟨gu, 5, none⟩ = some (.bool false) := hu.cellv 5 rfl
        have u6 : wb.cell? ⟨gu, 6, none⟩ = some (.slice A2 l2.length c2) := hu.cellv 6 rfl
        by_cases h4 : 0 < l2.length
        rotate_left
        · have h4i : ¬ ((0 : Int) < l2.length) := by omega
          have spec := Lib.hid (parseU_ign h1x.out hq1 hq2 h3.out hA.out h4)
          go_upto_region 25 with (fail)
          clear f0 g0 g1 g2 g3 g4 hS7 hat hf hA h3 h4 h4i h1x hq1 hq2 hl2b hlA ltf lat
          go_upto_region 25 with (fail)
          go_wp2_with (refine wpList_store_blk rfl hr2 28 (.tmp 2) (.tmp 105) rfl rfl rfl rfl hi (by simp [Value.oneCell']) ?_; intro wg hr2g hg2; refine Hid.out ?_)
          refine Lib.hid ?_
          have hr3g := hr3.grown hg2 (by simp)
          go_wp2_with (refine wpList_store_blk rfl hr3g 44 (.tmp 3) (.tmp 106) rfl rfl rfl rfl hj (by simp [Value.oneCell']) ?_; intro wh hr3h hg3)
          have hr2h := hr2g.grown hg3 (by simp)
          try rw [Exit.noGoto_ret]
          refine bodyPost_ret (results_2c rfl _ rfl rfl (load_blk hr2h Try.underlying28 rfl hi) (load_blk hr3h Try.underlying44 rfl hj)) rfl ?_
          have hBg := below_own hB hg2 hB.size (Nat.le_refl _)
          have hBh := below_own hBg hg3 hBg.size (by omega)
          have hzw := hB.size
          have h0u : w.heap.size + 1 < gu := hgu1
          refine ⟨hBh, ?_⟩
          rw [spec.out]
          have t1b := ((hS1.up3 hg2 (by omega)).up3 hg3 (by omega)).more (fun b q => (q.2 : b < wh.heap.size))
          have t2b := ((hS2.up3 hg2 (by omega)).up3 hg3 (by omega)).more (fun b q => (q.2 : b < wh.heap.size))
          exact ⟨A1, c1, none, 0, 0, A2, c2, rfl, t1b, Seen.none_, t2b⟩
        have h4i : (0 : Int) < l2.length := by omega
        have spec := Lib.hid (parseU_att h1x.out hq1 hq2 h3.out hA.out h4)
        have hthere := there_mid5 hu
        go_upto_region 24 with (fail)
        go_upto_region 25 with (refine wpList_store_mid (by rfl) 26 (.tmp 104) (.tmp 103) (by rfl) gu 1 #[.int .i64 a.o, .slice A7 n7 c7, .int .u32 a.h, .int .i64 a.m, .bool a.b] (by rfl) (by rfl) hthere hm5 (by simp [Value.oneCell']) ?_)
        obtain ⟨hu9, hg9⟩ := blk_mid5 hu (.int .i64 a.o) (.slice A7 n7 c7) (.int .u32 a.h) (.int .i64 a.m) (.bool a.b)
        generalize wb.setCells gu 1 [.int .i64 a.o, .slice A7 n7 c7, .int .u32 a.h, .int .i64 a.m, .bool a.b] = wc at *
        replace hu := hu9
        replace hS1 := hS1.up2 hg9
        replace hS2 := hS2.up2 hg9
        replace hS7 := hS7.up2 hg9
        replace hr2 := hr2.grown hg9 (by simp; omega)
        replace hr3 := hr3.grown hg9 (by simp; omega)
        have hzbb := hB.size
        replace hB := below_own hB hg9 hzbb (by omega)
        have lub := hu.lt
        clear u0 u1 u2 u3 u4 u5 u6 f0 g0 g1 g2 g3 g4 lat ltf hf hat hthere hu9 hA h3 h4 h4i h1x hq1 hq2 hl2b hlA
        have u0 : wc.cell? ⟨gu, 0, none⟩ = some (.slice A1 l1.length c1) := hu.cellv 0 rfl
        have u1 : wc.cell? ⟨gu, 1, none⟩ = some (.int .i64 a.o) := hu.cellv 1 rfl
        have u2 : wc.cell? ⟨gu, 2, none⟩ = some (.slice A7 n7 c7) := hu.cellv 2 rfl
        have u3 : wc.cell? ⟨gu, 3, none⟩ = some (.int .u32 a.h) := hu.cellv 3 rfl
        have u4 : wc.cell? ⟨gu, 4, none⟩ = some (.int .i64 a.m) := hu.cellv 4 rfl
        have u5 : wc.cell? ⟨gu, 5, none⟩ = some (.bool a.b) := hu.cellv 5 rfl
        have u6 : wc.cell? ⟨gu, 6, none⟩ = some (.slice A2 l2.length c2) := hu.cellv 6 rfl
        go_upto_region 25 with (fail)
        go_wp2_with (refine wpList_store_blk rfl hr2 28 (.tmp 2) (.tmp 105) rfl rfl rfl rfl hi (by simp [Value.oneCell']) ?_; intro wg hr2g hg2; refine Hid.out ?_)
        refine Lib.hid ?_
        have hr3g := hr3.grown hg2 (by simp)
        go_wp2_with (refine wpList_store_blk rfl hr3g 44 (.tmp 3) (.tmp 106) rfl rfl rfl rfl hj (by simp [Value.oneCell']) ?_; intro wh hr3h hg3)
        have hr2h := hr2g.grown hg3 (by simp)
        try rw [Exit.noGoto_ret]
        refine bodyPost_ret (results_2c rfl _ rfl rfl (load_blk hr2h Try.underlying28 rfl hi) (load_blk hr3h Try.underlying44 rfl hj)) rfl ?_
        have hBg := below_own hB hg2 hB.size (Nat.le_refl _)
        have hBh := below_own hBg hg3 hBg.size (by omega)
        have hzw := hB.size
        have h0u : w.heap.size + 1 < gu := hgu1
        refine ⟨hBh, ?_⟩
        rw [spec.out]
        have t1b := ((hS1.up3 hg2 (by omega)).up3 hg3 (by omega)).more (fun b q => (q.2 : b < wh.heap.size))
        have t2b := ((hS2.up3 hg2 (by omega)).up3 hg3 (by omega)).more (fun b q => (q.2 : b < wh.heap.size))
        exact ⟨A1, c1, A7, n7, c7, A2, c2, rfl, t1b, ((hS7.up3 hg2 (by omega)).up3 hg3 (by omega)).more (fun b q => (q.2 : b < wh.heap.size)), t2b⟩
end Go.Proofs.Ytfnclmacodchfaa
