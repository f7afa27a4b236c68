/- ip: the document's Parse of a packet that is one. -/
import Derived.Test.YtnjbnnceeecekaaIpL
import Derived.Test.YtnjbnnceeecekaaWirr
namespace Go.Proofs.Ytnjbnnceeecekaa
set_option linter.unusedVariables false
open Go.RowKit

set_option maxRecDepth 100000 in
set_option maxHeartbeats 8000000 in
theorem refParse_yes (w : World) (A : Option Addr) (n c : Nat) (l : List UInt8) (h : Byt w w.heap.size A n l) (hc : n ≤ c) (hc2 : c ≤ maxLen) (hn : n ≤ 10000000) (he : errV l = 0) :
    Calls Try.prog 31 #[.slice A n c] w fun e w' => ∃ vo vp, e = .returned (.tuple #[.agg (hdCs (l.take (szK l).toNat) vo), vp, .int .i64 0]) ∧ OwnB w' w.heap.size vo ((szK l).toNat - 20) ((l.take (szK l).toNat).drop 20) ∧
      OwnB w' w.heap.size vp ((lnK l).toNat - (szK l).toNat) ((l.drop (szK l).toNat).take ((lnK l).toNat - (szK l).toNat)) ∧ Below w.heap.size w w' := by
  obtain ⟨e1, e2, e3, e4, e5, e6, e7, e8⟩ := errV_ok he
  obtain rfl : l.length = n := h.1
  have hr := Blk.new w 58 zCs
  have hB := (Below.refl w.heap.size w).alloc (Nat.le_refl _) (.cells zCs 58)
  have h1 := h.alloc (Nat.le_refl _) (.cells zCs 58)
  unfold zCs at hr hB h1
  have hi : (Try.prog.info? 58).map (·.size) = some 9 := by kernel_rfl
  obtain ⟨b, off, rfl, hb, hcell⟩ := h1.2 (by omega)
  have c0 := hcell 0 (by omega)
  rw [Nat.add_zero] at c0
  have c2 := hcell 2 (by omega)
  have c3 := hcell 3 (by omega)
  have b0 := byAt_lo l 0
  have b1 := byAt_hi l 0
  have hsz : 4 * (byAt l 0 % 16) = szK l := rfl
  have hlz : 256 * byAt l 2 + byAt l 3 = lnK l := rfl
  have b20 := byAt_lo l 2
  have b21 := byAt_hi l 2
  have b30 := byAt_lo l 3
  have b31 := byAt_hi l 3
  have i1 : (20 : Int) ≤ l.length := by omega
  have i2 : (2 : Int) < l.length := by omega
  have i3 : (3 : Int) < l.length := by omega
  clear hcell
  have q2 : (byAt l 0 / 16 != 4) = false := by simpa using e2
  have hcut : ((szK l).toNat : Int) = szK l := by omega
  have hcutN : ((lnK l).toNat : Int) = lnK l := by omega
  have k1 : 20 ≤ (szK l).toNat := by omega
  have k2 : (szK l).toNat ≤ (lnK l).toNat := by omega
  have k3 : (lnK l).toNat ≤ l.length := by omega
  obtain ⟨A1, hsl1, hby1⟩ := slice_take (some ⟨b, off, none⟩) l.length c (szK l).toNat (by omega) hc
  obtain ⟨A2, hsl2, hby2⟩ := slice_mid (some ⟨b, off, none⟩) l.length c (szK l).toNat (lnK l).toNat k2 k3 hc
  rw [hcut] at hsl1
  rw [hcut, hcutN] at hsl2
  replace hcut := Lib.hid hcut
  replace hcutN := Lib.hid hcutN
  have hlL : (l.take (szK l).toNat).length = (szK l).toNat := by rw [List.length_take]; omega
  replace hlL := Lib.hid hlL
  replace he := Lib.hid he
  replace e2 := Lib.hid e2
  have b7 : (csum (l.take (szK l).toNat) != 65535) = false := by simpa using e8
  replace e8 := Lib.hid e8
  generalize (szK l).toNat = KK at *
  generalize (lnK l).toNat = NN at *
  clear h1
  go_enter Try.func31, Try.ntmps31
  go_wp2_with fail
  generalize w.alloc (.cells _ 58) = w1 at *
  have hbw : b < w1.heap.size := by have := hr.lt; omega
  have hw1 : IntKind.i64.wrap (byAt l 2) = byAt l 2 := IntWalk.i64_in _ (by omega)
  have hw2 : IntKind.i64.wrap (byAt l 3) = byAt l 3 := IntWalk.i64_in _ (by omega)
  have hw3 : IntKind.i64.wrap (256 * byAt l 2) = 256 * byAt l 2 := IntWalk.i64_in _ (by omega)
  have hw4 : IntKind.i64.wrap (lnK l) = lnK l := IntWalk.i64_in _ (by omega)
  -- region 6: 0 1 2 3 4 5 6 7 8 9 10
  try refine wp_region_noPanic ?_
  have hs1r : Below w1.heap.size w1 w1.drew := (Below.refl _ _).drew
  refine wp_region_held_drew (S := fun w' => Below w1.heap.size w1 w') (by kernel_rfl) hs1r (fun _ => ?_)
  (refine held_takeA 0 (by rfl) ?_ (by kernel_rfl) (fun _ _ _ h => h) hs1r ?_ ?_; rotate_left; (focus (intro wq hSw; have hrd : ∀ b o, b < w1.heap.size → wq.cell? ⟨b, o, none⟩ = w1.cell? ⟨b, o, none⟩ := (fun b o h => hSw.cell (p := ⟨b, o, none⟩) h); go_simp; try with_reducible rfl; done)); try simp only [Act.put, List.setIfInBounds_toArray, List.set_cons_zero, List.set_cons_succ])
  (refine held_takeA 1 (by rfl) ?_ (by kernel_rfl) (fun _ _ _ h => h) hs1r ?_ ?_; rotate_left; (focus (intro wq hSw; have hrd : ∀ b o, b < w1.heap.size → wq.cell? ⟨b, o, none⟩ = w1.cell? ⟨b, o, none⟩ := (fun b o h => hSw.cell (p := ⟨b, o, none⟩) h); go_simp; try with_reducible rfl; done)); try simp only [Act.put, List.setIfInBounds_toArray, List.set_cons_zero, List.set_cons_succ])
  (refine held_takeA 2 (by rfl) ?_ (by kernel_rfl) (fun _ _ _ h => h) hs1r ?_ ?_; rotate_left; (focus (intro wq hSw; have hrd : ∀ b o, b < w1.heap.size → wq.cell? ⟨b, o, none⟩ = w1.cell? ⟨b, o, none⟩ := (fun b o h => hSw.cell (p := ⟨b, o, none⟩) h); go_simp; try with_reducible rfl; done)); try simp only [Act.put, List.setIfInBounds_toArray, List.set_cons_zero, List.set_cons_succ])
  (refine held_takeA 3 (by rfl) ?_ (by kernel_rfl) (fun _ _ _ h => h) hs1r ?_ ?_; rotate_left; (focus (intro wq hSw; have hrd : ∀ b o, b < w1.heap.size → wq.cell? ⟨b, o, none⟩ = w1.cell? ⟨b, o, none⟩ := (fun b o h => hSw.cell (p := ⟨b, o, none⟩) h); go_simp; try with_reducible rfl; done)); try simp only [Act.put, List.setIfInBounds_toArray, List.set_cons_zero, List.set_cons_succ])
  (refine held_takeA 4 (by rfl) ?_ (by kernel_rfl) (fun _ _ _ h => h) hs1r ?_ ?_; rotate_left; (focus (intro wq hSw; have hrd : ∀ b o, b < w1.heap.size → wq.cell? ⟨b, o, none⟩ = w1.cell? ⟨b, o, none⟩ := (fun b o h => hSw.cell (p := ⟨b, o, none⟩) h); go_simp; try with_reducible rfl; done)); try simp only [Act.put, List.setIfInBounds_toArray, List.set_cons_zero, List.set_cons_succ])
  (refine held_takeA 5 (by rfl) ?_ (by kernel_rfl) (fun _ _ _ h => h) hs1r ?_ ?_; rotate_left; (focus (intro wq hSw; have hrd : ∀ b o, b < w1.heap.size → wq.cell? ⟨b, o, none⟩ = w1.cell? ⟨b, o, none⟩ := (fun b o h => hSw.cell (p := ⟨b, o, none⟩) h); go_simp; try with_reducible rfl; done)); try simp only [Act.put, List.setIfInBounds_toArray, List.set_cons_zero, List.set_cons_succ])
  (refine held_takeA 6 (by rfl) ?_ (by kernel_rfl) (fun _ _ _ h => h) hs1r ?_ ?_; rotate_left; (focus (intro wq hSw; have hrd : ∀ b o, b < w1.heap.size → wq.cell? ⟨b, o, none⟩ = w1.cell? ⟨b, o, none⟩ := (fun b o h => hSw.cell (p := ⟨b, o, none⟩) h); go_simp; try with_reducible rfl; done)); try simp only [Act.put, List.setIfInBounds_toArray, List.set_cons_zero, List.set_cons_succ])
  (refine held_takeA 7 (by rfl) ?_ (by kernel_rfl) (fun _ _ _ h => h) hs1r ?_ ?_; rotate_left; (focus (intro wq hSw; have hrd : ∀ b o, b < w1.heap.size → wq.cell? ⟨b, o, none⟩ = w1.cell? ⟨b, o, none⟩ := (fun b o h => hSw.cell (p := ⟨b, o, none⟩) h); go_simp; try with_reducible rfl; done)); try simp only [Act.put, List.setIfInBounds_toArray, List.set_cons_zero, List.set_cons_succ])
  (refine held_takeA 8 (by rfl) ?_ (by kernel_rfl) (fun _ _ _ h => h) hs1r ?_ ?_; rotate_left; (focus (intro wq hSw; have hrd : ∀ b o, b < w1.heap.size → wq.cell? ⟨b, o, none⟩ = w1.cell? ⟨b, o, none⟩ := (fun b o h => hSw.cell (p := ⟨b, o, none⟩) h); go_simp; try with_reducible rfl; done)); try simp only [Act.put, List.setIfInBounds_toArray, List.set_cons_zero, List.set_cons_succ])
  (refine held_takeA 9 (by rfl) ?_ (by kernel_rfl) (fun _ _ _ h => h) hs1r ?_ ?_; rotate_left; (focus (intro wq hSw; have hrd : ∀ b o, b < w1.heap.size → wq.cell? ⟨b, o, none⟩ = w1.cell? ⟨b, o, none⟩ := (fun b o h => hSw.cell (p := ⟨b, o, none⟩) h); go_simp; try with_reducible rfl; done)); try simp only [Act.put, List.setIfInBounds_toArray, List.set_cons_zero, List.set_cons_succ])
  (refine held_takeA 10 (by rfl) ?_ (by kernel_rfl) (fun _ _ _ h => h) hs1r ?_ ?_; rotate_left; (focus (intro wq hSw; have hrd : ∀ b o, b < w1.heap.size → wq.cell? ⟨b, o, none⟩ = w1.cell? ⟨b, o, none⟩ := (fun b o h => hSw.cell (p := ⟨b, o, none⟩) h); go_simp; try with_reducible rfl; done)); try simp only [Act.put, List.setIfInBounds_toArray, List.set_cons_zero, List.set_cons_succ])
  refine wpAnyH_done (by kernel_rfl) ?_ _
  try refine NoPanic.normal ?_
  clear hw1 hw2 hw3 hw4
  replace hr := hr.drew
  replace hB := hB.drew
  generalize w1.drew = w2 at *
  have hb2 := (hby1 w2 _ l (h.below hB)).more hB.size
  go_wp2_with fail
  refine (refSum_any A1 KK c (l.take KK) (by omega) w2 hb2).mono ?_
  rintro e0 w' ⟨rfl, rfl⟩
  clear c0 c2 c3 hbw
  go_wp2_with fail
  refine (refRead_any w2 A1 KK c (l.take KK) _ hb2 (Nat.le_refl _) (by omega)).mono ?_
  rintro e0 w3 ⟨g, rfl, hg2, hs, hb3⟩
  have hrg0 : w.heap.size < w2.heap.size := hr.lt
  replace hB := hB.trans (hb3.mono hB.size)
  replace hr := hr.below hb3 hr.lt
  have hrg : w.heap.size < g := by omega
  have hrg' : w.heap.size ≤ g := by omega
  rw [← stp_zero] at hs
  generalize w2.heap.size = lo at *
  clear hb3 hg2 hb2 b7
  generalize hLL : l.take KK = L at *
  replace hLL := Lib.hid hLL
  have hlL' := hlL.out
  go_wp2_with fail
  refine (refU8_any w3 lo g _ hs).mono ?_
  rintro e0 w4 ⟨rfl, hsN, hgN⟩
  rw [stp_1 (by omega)] at hsN
  replace hB := below_own hB hgN hB.size hrg'
  replace hr := hr.grown hgN (by simp; omega)
  replace hs : Ref w4 lo g (stp L 1) := hsN
  clear hgN hsN
  go_wp2_with fail
  refine (refU8_any w4 lo g _ hs).mono ?_
  rintro e0 w5 ⟨rfl, hsN, hgN⟩
  rw [stp_1 (by omega)] at hsN
  replace hB := below_own hB hgN hB.size hrg'
  replace hr := hr.grown hgN (by simp; omega)
  replace hs : Ref w5 lo g (stp L 2) := hsN
  clear hgN hsN
  go_wp2_with fail
  have hh := Blk.new w5 58 #[.int .i64 (numV (stp L 1) 1), .int .i64 0, .int .i64 0, .int .i64 0, .int .i64 0, .int .i64 0, .int .u32 0, .int .u32 0, .slice none 0 0]
  replace hB := hB.alloc hB.size (.cells #[.int .i64 (numV (stp L 1) 1), .int .i64 0, .int .i64 0, .int .i64 0, .int .i64 0, .int .i64 0, .int .u32 0, .int .u32 0, .slice none 0 0] 58)
  replace hr := hr.alloc (.cells #[.int .i64 (numV (stp L 1) 1), .int .i64 0, .int .i64 0, .int .i64 0, .int .i64 0, .int .i64 0, .int .u32 0, .int .u32 0, .slice none 0 0] 58)
  have hgh := hs.lt
  replace hs := hs.alloc (.cells #[.int .i64 (numV (stp L 1) 1), .int .i64 0, .int .i64 0, .int .i64 0, .int .i64 0, .int .i64 0, .int .u32 0, .int .u32 0, .slice none 0 0] 58)
  generalize w5.alloc (.cells #[.int .i64 (numV (stp L 1) 1), .int .i64 0, .int .i64 0, .int .i64 0, .int .i64 0, .int .i64 0, .int .u32 0, .int .u32 0, .slice none 0 0] 58) = wh at *
  generalize w5.heap.size = gh at *
  refine (refU16_any wh lo g _ hs).mono ?_
  rintro e0 w6 ⟨rfl, hsN, hgN⟩
  rw [stp_2 (by omega)] at hsN
  replace hB := below_own hB hgN hB.size hrg'
  replace hr := hr.grown hgN (by simp; omega)
  replace hh := hh.grown hgN (by simp; omega)
  replace hs : Ref w6 lo g (stp L 4) := hsN
  clear hgN hsN
  go_wp2_with fail
  refine (refU16_any w6 lo g _ hs).mono ?_
  rintro e0 w7 ⟨rfl, hsN, hgN⟩
  rw [stp_2 (by omega)] at hsN
  replace hB := below_own hB hgN hB.size hrg'
  replace hr := hr.grown hgN (by simp; omega)
  replace hh := hh.grown hgN (by simp; omega)
  replace hs : Ref w7 lo g (stp L 6) := hsN
  clear hgN hsN
  have cc1 := hh.cellv 1 (v := .int .i64 0) rfl
  have cf1 := hh.frozen 1
  go_wp2_with fail
  clear cc1 cf1
  have hst := blk_store hh 1 (.int .i64 (numV (stp L 4) 2))
  generalize w7.setCell ⟨gh, 1, none⟩ (.int .i64 (numV (stp L 4) 2)) = w8 at *
  replace hB := below_own hB hst.2 hB.size (by omega)
  replace hr := hr.grown hst.2 (by simp; omega)
  replace hs := hs.grown_up hst.2 (by omega)
  replace hh := hst.1
  simp only [List.setIfInBounds_toArray, List.set_cons_zero, List.set_cons_succ] at hh
  clear hst
  refine (refU16_any w8 lo g _ hs).mono ?_
  rintro e0 w9 ⟨rfl, hsN, hgN⟩
  rw [stp_2 (by omega)] at hsN
  replace hB := below_own hB hgN hB.size hrg'
  replace hr := hr.grown hgN (by simp; omega)
  replace hh := hh.grown hgN (by simp; omega)
  replace hs : Ref w9 lo g (stp L 8) := hsN
  clear hgN hsN
  have x1 := numV_lo (stp L 6) 2
  have x2 := numV_4 (stp L 6) 2 (by omega)
  have cc2 := hh.cellv 2 (v := .int .i64 0) rfl
  have cf2 := hh.frozen 2
  have cc3 := hh.cellv 3 (v := .int .i64 0) rfl
  have cf3 := hh.frozen 3
  go_wp2_with fail
  clear cc2 cf2
  clear cc3 cf3
  have hst := blk_store hh 2 (.int .i64 (numV (stp L 6) 2 / 8192))
  generalize w9.setCell ⟨gh, 2, none⟩ (.int .i64 (numV (stp L 6) 2 / 8192)) = w10 at *
  replace hB := below_own hB hst.2 hB.size (by omega)
  replace hr := hr.grown hst.2 (by simp; omega)
  replace hs := hs.grown_up hst.2 (by omega)
  replace hh := hst.1
  simp only [List.setIfInBounds_toArray, List.set_cons_zero, List.set_cons_succ] at hh
  clear hst
  have hst := blk_store hh 3 (.int .i64 (numV (stp L 6) 2 % 8192))
  generalize w10.setCell ⟨gh, 3, none⟩ (.int .i64 (numV (stp L 6) 2 % 8192)) = w11 at *
  replace hB := below_own hB hst.2 hB.size (by omega)
  replace hr := hr.grown hst.2 (by simp; omega)
  replace hs := hs.grown_up hst.2 (by omega)
  replace hh := hst.1
  simp only [List.setIfInBounds_toArray, List.set_cons_zero, List.set_cons_succ] at hh
  clear hst
  clear x1 x2
  refine (refU8_any w11 lo g _ hs).mono ?_
  rintro e0 w12 ⟨rfl, hsN, hgN⟩
  rw [stp_1 (by omega)] at hsN
  replace hB := below_own hB hgN hB.size hrg'
  replace hr := hr.grown hgN (by simp; omega)
  replace hh := hh.grown hgN (by simp; omega)
  replace hs : Ref w12 lo g (stp L 9) := hsN
  clear hgN hsN
  have cc4 := hh.cellv 4 (v := .int .i64 0) rfl
  have cf4 := hh.frozen 4
  go_wp2_with fail
  clear cc4 cf4
  have hst := blk_store hh 4 (.int .i64 (numV (stp L 8) 1))
  generalize w12.setCell ⟨gh, 4, none⟩ (.int .i64 (numV (stp L 8) 1)) = w13 at *
  replace hB := below_own hB hst.2 hB.size (by omega)
  replace hr := hr.grown hst.2 (by simp; omega)
  replace hs := hs.grown_up hst.2 (by omega)
  replace hh := hst.1
  simp only [List.setIfInBounds_toArray, List.set_cons_zero, List.set_cons_succ] at hh
  clear hst
  refine (refU8_any w13 lo g _ hs).mono ?_
  rintro e0 w14 ⟨rfl, hsN, hgN⟩
  rw [stp_1 (by omega)] at hsN
  replace hB := below_own hB hgN hB.size hrg'
  replace hr := hr.grown hgN (by simp; omega)
  replace hh := hh.grown hgN (by simp; omega)
  replace hs : Ref w14 lo g (stp L 10) := hsN
  clear hgN hsN
  have cc5 := hh.cellv 5 (v := .int .i64 0) rfl
  have cf5 := hh.frozen 5
  go_wp2_with fail
  clear cc5 cf5
  have hst := blk_store hh 5 (.int .i64 (numV (stp L 9) 1))
  generalize w14.setCell ⟨gh, 5, none⟩ (.int .i64 (numV (stp L 9) 1)) = w15 at *
  replace hB := below_own hB hst.2 hB.size (by omega)
  replace hr := hr.grown hst.2 (by simp; omega)
  replace hs := hs.grown_up hst.2 (by omega)
  replace hh := hst.1
  simp only [List.setIfInBounds_toArray, List.set_cons_zero, List.set_cons_succ] at hh
  clear hst
  refine (refU16_any w15 lo g _ hs).mono ?_
  rintro e0 w16 ⟨rfl, hsN, hgN⟩
  rw [stp_2 (by omega)] at hsN
  replace hB := below_own hB hgN hB.size hrg'
  replace hr := hr.grown hgN (by simp; omega)
  replace hh := hh.grown hgN (by simp; omega)
  replace hs : Ref w16 lo g (stp L 12) := hsN
  clear hgN hsN
  go_wp2_with fail
  refine (refU32_any w16 lo g _ hs).mono ?_
  rintro e0 w17 ⟨rfl, hsN, hgN⟩
  rw [stp_4 (by omega)] at hsN
  replace hB := below_own hB hgN hB.size hrg'
  replace hr := hr.grown hgN (by simp; omega)
  replace hh := hh.grown hgN (by simp; omega)
  replace hs : Ref w17 lo g (stp L 16) := hsN
  clear hgN hsN
  have cc6 := hh.cellv 6 (v := .int .u32 0) rfl
  have cf6 := hh.frozen 6
  go_wp2_with fail
  clear cc6 cf6
  have hst := blk_store hh 6 (.int .u32 (numV (stp L 12) 4))
  generalize w17.setCell ⟨gh, 6, none⟩ (.int .u32 (numV (stp L 12) 4)) = w18 at *
  replace hB := below_own hB hst.2 hB.size (by omega)
  replace hr := hr.grown hst.2 (by simp; omega)
  replace hs := hs.grown_up hst.2 (by omega)
  replace hh := hst.1
  simp only [List.setIfInBounds_toArray, List.set_cons_zero, List.set_cons_succ] at hh
  clear hst
  refine (refU32_any w18 lo g _ hs).mono ?_
  rintro e0 w19 ⟨rfl, hsN, hgN⟩
  rw [stp_4 (by omega)] at hsN
  replace hB := below_own hB hgN hB.size hrg'
  replace hr := hr.grown hgN (by simp; omega)
  replace hh := hh.grown hgN (by simp; omega)
  replace hs : Ref w19 lo g (stp L 20) := hsN
  clear hgN hsN
  have cc7 := hh.cellv 7 (v := .int .u32 0) rfl
  have cf7 := hh.frozen 7
  go_wp2_with fail
  clear cc7 cf7
  have hst := blk_store hh 7 (.int .u32 (numV (stp L 16) 4))
  generalize w19.setCell ⟨gh, 7, none⟩ (.int .u32 (numV (stp L 16) 4)) = w20 at *
  replace hB := below_own hB hst.2 hB.size (by omega)
  replace hr := hr.grown hst.2 (by simp; omega)
  replace hs := hs.grown_up hst.2 (by omega)
  replace hh := hst.1
  simp only [List.setIfInBounds_toArray, List.set_cons_zero, List.set_cons_succ] at hh
  clear hst
  have hrest := stp_rest L 20 (by omega)
  replace hrest := Lib.hid hrest
  refine (refRest_any w20 lo g _ hs).mono ?_
  rintro e0 wr ⟨vo, rfl, owno, hsN, hgN⟩
  rw [hrest.out] at owno
  have hd20 : (stp L L.length, L.drop 20).2.length = KK - 20 := by simp [hlL']
  rw [hd20] at owno
  replace owno : OwnB wr w20.heap.size vo (KK - 20) (L.drop 20) := owno
  have hzr := hB.size
  replace owno := owno.less (base' := gh + 1) (by have := hh.lt; omega)
  replace hB := below_own hB hgN hB.size hrg'
  replace hr := hr.grown hgN (by simp; omega)
  replace hh := hh.grown hgN (by simp; omega)
  clear hs hsN hgN hd20 hrest hzr
  obtain ⟨Ao, co, rfl, hnco, _, hoo⟩ := owno.any
  have cc8 := hh.cellv 8 (v := .slice none 0 0) rfl
  have cf8 := hh.frozen 8
  go_wp2_with fail
  clear cc8 cf8
  have hst := blk_store hh 8 (.slice Ao (KK - 20) co)
  generalize wr.setCell ⟨gh, 8, none⟩ (.slice Ao (KK - 20) co) = ws at *
  have hzr := hr.lt
  replace hB := below_own hB hst.2 hB.size (by omega)
  replace hr := hr.grown hst.2 (by simp; omega)
  have hghr := hh.lt
  have hoB : ∀ a, (Value.slice Ao (KK - 20) co).ownBlock = some a → a ≠ gh := fun a ha => by have := (World.ownsRow.lt owno a ha).1; omega
  replace owno := owno.kept hst.2 (by
    cases hv : (Value.slice Ao (KK - 20) co).ownBlock with
    | none => exact .inl rfl
    | some a => exact .inr (by intro e; injection e with e; exact hoB a hv e))
  replace hh := hst.1
  simp only [List.setIfInBounds_toArray, List.set_cons_zero, List.set_cons_succ] at hh
  clear hst hoB hnco
  have hghne : gh ≠ w.heap.size := by omega
  have hzs := hB.size
  have hzw := hr.lt
  have hge := fun (w0 : World) => OwnB.lit (base := ws.heap.size) w0 []
  -- region 26: 0 1M 2 3 4 5 6M 7M 8 9
  try refine wp_region_noPanic ?_
  have hs2r : ws.grownBy ws.drew (some w.heap.size) := grown_drew (grown_refl _ _)
  refine wp_region_held_drew (S := fun w' => ws.grownBy w' (some w.heap.size)) (by kernel_rfl) hs2r (fun _ => ?_)
  (refine held_takeA 0 (by rfl) ?_ (by kernel_rfl) (fun _ _ _ h => h) hs2r ?_ ?_; rotate_left; (focus (intro wq hSw; refine exec_load_blk (x := .tmp 8) ?_ ?_ (hh.grown hSw (by simp; omega)) _ Try.underlying58 rfl (by kernel_rfl) <;> rfl)); simp only [Act.put, List.setIfInBounds_toArray, List.set_cons_zero, List.set_cons_succ])
  (refine held_takeA 2 (by rfl) ?_ (by kernel_rfl) (fun _ _ _ h => h) hs2r ?_ ?_; rotate_left; (focus (intro wq hSw; have hrd : ∀ b o, b < ws.heap.size → b ≠ w.heap.size → wq.cell? ⟨b, o, none⟩ = ws.cell? ⟨b, o, none⟩ := (fun b o h hne => grown_cell hSw h hne); go_simp; try with_reducible rfl; done)); try simp only [Act.put, List.setIfInBounds_toArray, List.set_cons_zero, List.set_cons_succ])
  (refine held_takeA 3 (by rfl) ?_ (by kernel_rfl) (fun _ _ _ h => h) hs2r ?_ ?_; rotate_left; (focus (intro wq hSw; have hrd : ∀ b o, b < ws.heap.size → b ≠ w.heap.size → wq.cell? ⟨b, o, none⟩ = ws.cell? ⟨b, o, none⟩ := (fun b o h hne => grown_cell hSw h hne); go_simp; try with_reducible rfl; done)); try simp only [Act.put, List.setIfInBounds_toArray, List.set_cons_zero, List.set_cons_succ])
  (refine held_takeA 4 (by rfl) ?_ (by kernel_rfl) (fun _ _ _ h => h) hs2r ?_ ?_; rotate_left; (focus (intro wq hSw; have hrd : ∀ b o, b < ws.heap.size → b ≠ w.heap.size → wq.cell? ⟨b, o, none⟩ = ws.cell? ⟨b, o, none⟩ := (fun b o h hne => grown_cell hSw h hne); go_simp; try with_reducible rfl; done)); try simp only [Act.put, List.setIfInBounds_toArray, List.set_cons_zero, List.set_cons_succ])
  (refine held_takeA 5 (by rfl) ?_ (by kernel_rfl) (fun _ _ _ h => h) hs2r ?_ ?_; rotate_left; (focus (intro wq hSw; have hrd : ∀ b o, b < ws.heap.size → b ≠ w.heap.size → wq.cell? ⟨b, o, none⟩ = ws.cell? ⟨b, o, none⟩ := (fun b o h hne => grown_cell hSw h hne); go_simp; try with_reducible rfl; done)); try simp only [Act.put, List.setIfInBounds_toArray, List.set_cons_zero, List.set_cons_succ])
  refine held_callA 1 (by rfl) (by kernel_rfl) (by rfl) (fun KQ hKQ => ?_)
  go_simp
  have hownlt : ∀ a, (Value.slice Ao (KK - 20) co).ownBlock = some a → a < ws.heap.size := fun a ha => (World.ownsRow.lt owno a ha).2
  have hlit : OwnB (ws.alloc (.cells #[] 5)).drew ws.heap.size (.slice (some ⟨ws.heap.size, 0, none⟩) 0 0) 0 [] := (OwnB.lit (base := ws.heap.size) ws [] (Nat.le_refl _) (by simp)).drew
  have hbx := ((Below.refl ws.heap.size ws).alloc (Nat.le_refl _) (.cells #[] 5)).drew
  generalize (ws.alloc (.cells #[] 5)).drew = wx at *
  have hs3r := grown_of hbx (Nat.le_refl _) (some w.heap.size)
  refine hKQ.out _ _ hs3r ?_
  clear hKQ KQ
  try simp only [Act.put, List.setIfInBounds_toArray, List.set_cons_zero, List.set_cons_succ]
  replace hr := hr.below hbx hr.lt
  replace hB := hB.trans (hbx.mono hzs)
  replace owno := owno.below hbx
  have hzx := hbx.size
  refine held_callA 6 (by rfl) (by kernel_rfl) (by rfl) (fun KQ hKQ => ?_)
  refine wp_app _ (.tmp 108) (.tmp 112) (by rfl) ws.heap.size _ 0 [] (by rfl) hlit _ A2 (NN - KK) _ _ (by rfl) (hby2 wx _ l (h.below hB)) (by omega) hbx.size ?_
  intro vp wy ownp hgy hdy
  clear hdy
  have hby := hlit.below_app hgy hbx.size
  rw [Nat.zero_add, List.nil_append] at ownp
  have hs4r := grown_of (hbx.trans hby) (Nat.le_refl _) (some w.heap.size)
  refine hKQ.out _ _ hs4r ?_
  clear hKQ KQ
  try simp only [Act.put, List.setIfInBounds_toArray, List.set_cons_zero, List.set_cons_succ]
  replace hr := hr.below hby hzw
  replace hB := hB.trans (hby.mono hzs)
  replace owno := owno.kept hgy (by
    cases hv : (Value.slice Ao (KK - 20) co).ownBlock with
    | none => exact .inl rfl
    | some a => exact .inr (by intro q; have q1 : (Value.slice (some ⟨ws.heap.size, 0, none⟩) 0 0).ownBlock = some ws.heap.size := rfl; rw [q1] at q; injection q with q; have := hownlt a hv; omega))
  refine held_callA 7 (by rfl) (by kernel_rfl) (by rfl) (fun KQ hKQ => ?_)
  refine wp_store_blk hr 58 (.tmp 2) (.tmp 107) (by rfl) (by rfl) (by rfl) (by rfl) (by exact hi) (by simp [Value.oneCell']) ?_
  intro wu hru hgu
  have hs5r := grown_trans (grown_of (hbx.trans hby) (Nat.le_refl _) (some w.heap.size)) hgu
  refine hKQ.out _ _ hs5r ?_
  clear hKQ KQ
  try simp only [Act.put]
  (refine held_takeA 8 (by rfl) ?_ (by kernel_rfl) (fun _ _ _ h => h) hs5r ?_ ?_; rotate_left; (focus (intro wq hSw; have hrd : ∀ b o, b < ws.heap.size → b ≠ w.heap.size → wq.cell? ⟨b, o, none⟩ = ws.cell? ⟨b, o, none⟩ := (fun b o h hne => grown_cell hSw h hne); go_simp; try with_reducible rfl; done)); try simp only [Act.put, List.setIfInBounds_toArray, List.set_cons_zero, List.set_cons_succ])
  (refine held_takeA 9 (by rfl) ?_ (by kernel_rfl) (fun _ _ _ h => h) hs5r ?_ ?_; rotate_left; (focus (intro wq hSw; have hrd : ∀ b o, b < ws.heap.size → b ≠ w.heap.size → wq.cell? ⟨b, o, none⟩ = ws.cell? ⟨b, o, none⟩ := (fun b o h hne => grown_cell hSw h hne); go_simp; try with_reducible rfl; done)); try simp only [Act.put, List.setIfInBounds_toArray, List.set_cons_zero, List.set_cons_succ])
  refine wpAnyH_done (by kernel_rfl) ?_ _
  try refine NoPanic.normal ?_
  go_wp2_with fail
  have hl2 := hLL.out
  subst hl2
  refine bodyPost_ret (results_ctt rfl _ rfl (load_blk hru Try.underlying58 rfl hi)) rfl ?_
  have hle : w.heap.size < gh := by omega
  exact ⟨_, vp, rfl, (owno.grown hgu (by omega)).less (by omega), (ownp.grown hgu (by omega)).less (by omega), below_own hB hgu hB.size (Nat.le_refl _)⟩
end Go.Proofs.Ytnjbnnceeecekaa
