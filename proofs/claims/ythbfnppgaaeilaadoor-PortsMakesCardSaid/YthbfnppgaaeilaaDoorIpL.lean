/- ip: Parse. -/
import Derived.Test.YthbfnppgaaeilaaDoorIpJ
import Derived.Test.YthbfnppgaaeilaaDoorLib
namespace Go.Proofs.YthbfnppgaaeilaaDoor
set_option linter.unusedVariables false
open Go.RowKit

theorem and8191 (n : Int) : bits .and .i64 n 8191 = n % 8192 := by
  show IntKind.i64.wrap ((BitVec.ofInt 64 n &&& BitVec.ofInt 64 8191).toNat : Int) = _
  have h1 : (BitVec.ofInt 64 8191).toNat = 2 ^ 13 - 1 := by decide
  rw [BitVec.toNat_and, h1, Nat.and_two_pow_sub_one_eq_mod, BitVec.toNat_ofInt, IntKind.wrap_i64]
  omega
attribute [go_sem] and8191
/-- a source behind p bytes of L. -/
def stp (L : List UInt8) (p : Nat) : St := ⟨L.drop p, (p : Int), 0⟩
theorem stp_zero (L : List UInt8) : stp L 0 = ⟨L, 0, 0⟩ := by simp [stp]
theorem stp_tk {L : List UInt8} {p m : Nat} (h : p + m ≤ L.length) : tk (stp L p) (m : Int) = (stp L (p + m), (L.drop p).take m) := by
  unfold tk stp
  simp only
  rw [if_neg (by simp), if_neg (by omega), if_neg (by rw [List.length_drop]; omega)]
  simp
theorem stp_1 {L : List UInt8} {p : Nat} (h : p + 1 ≤ L.length) : (tk (stp L p) 1).1 = stp L (p + 1) := by have := stp_tk (m := 1) h; simpa using congrArg Prod.fst this
theorem stp_2 {L : List UInt8} {p : Nat} (h : p + 2 ≤ L.length) : (tk (stp L p) 2).1 = stp L (p + 2) := by have := stp_tk (m := 2) h; simpa using congrArg Prod.fst this
theorem stp_4 {L : List UInt8} {p : Nat} (h : p + 4 ≤ L.length) : (tk (stp L p) 4).1 = stp L (p + 4) := by have := stp_tk (m := 4) h; simpa using congrArg Prod.fst this
theorem stp_left (L : List UInt8) (p : Nat) : leftV (stp L p) = ((L.drop p).length : Int) := by unfold leftV stp; simp
theorem stp_rest (L : List UInt8) (p : Nat) (h : p ≤ L.length) : tk (stp L p) (leftV (stp L p)) = (stp L L.length, L.drop p) := by
  rw [stp_left, stp_tk (by rw [List.length_drop]; omega)]
  rw [List.take_length, List.length_drop, Nat.add_sub_cancel' h]
/-- the header's numbers. -/
def pT (L : List UInt8) : Int := numV (stp L 1) 1
def pI (L : List UInt8) : Int := numV (stp L 4) 2
def pW (L : List UInt8) : Int := numV (stp L 6) 2
def pL (L : List UInt8) : Int := numV (stp L 8) 1
def pP (L : List UInt8) : Int := numV (stp L 9) 1
def pS (L : List UInt8) : Int := numV (stp L 12) 4
def pD (L : List UInt8) : Int := numV (stp L 16) 4
def hdCs (L : List UInt8) (v : Value) : Array Value := #[.int .i64 (pT L), .int .i64 (pI L), .int .i64 (pW L / 8192), .int .i64 (pW L % 8192), .int .i64 (pL L), .int .i64 (pP L), .int .u32 (pS L), .int .u32 (pD L), v]
def zCs : Array Value := #[.int .i64 0, .int .i64 0, .int .i64 0, .int .i64 0, .int .i64 0, .int .i64 0, .int .u32 0, .int .u32 0, .slice none 0 0]
theorem OwnB.grown {w w' : World} {base n row : Nat} {v : Value} {l : List UInt8} (h : OwnB w base v n l) (hg : w.grownBy w' (some row)) (hr : row < base) : OwnB w' base v n l := by
  refine h.kept hg ?_
  cases hv : v.ownBlock with
  | none => exact .inl rfl
  | some k => exact .inr (by
      intro e
      injection e with e
      have := (World.ownsRow.lt h k hv).1
      omega)

set_option maxRecDepth 100000 in
set_option maxHeartbeats 8000000 in
theorem parse_no (w : World) (A : Option Addr) (n c : Nat) (l : List UInt8) (h : Byt w w.heap.size A n l) (hc : n ≤ c) (hc2 : c ≤ maxLen) (hn : n ≤ 10000000) (he : errV l ≠ 0) :
    Calls Tryd.prog 50 #[.slice A n c] w fun e w' => e = .returned (.tuple #[.agg zCs, .slice none 0 0, .int .i64 (errV l)]) ∧ Below w.heap.size w w' := by
  have hr := Blk.new w 83 zCs
  have hB := (Below.refl w.heap.size w).alloc (Nat.le_refl _) (.cells zCs 83)
  have h1 := h.alloc (Nat.le_refl _) (.cells zCs 83)
  have hb : (errV l != 0) = true := by simpa using he
  replace he := Lib.hid he
  unfold zCs at hr hB h1
  go_enter Tryd.func50, Tryd.ntmps50
  go_wp2_with fail
  refine (sizes_any _ A n c l (h1.more (by simp)) hc hc2 hn).mono ?_
  rintro e w1 ⟨rfl, hb1⟩
  replace hB := hB.trans (hb1.mono hB.size)
  replace hr := hr.below hb1 hr.lt
  clear h1
  have hi : (Tryd.prog.info? 83).map (·.size) = some 9 := by kernel_rfl
  go_wp2_with (refine wpList_store_blk rfl hr 83 (.tmp 2) (.tmp 20) rfl rfl rfl rfl hi (by simp [Value.oneCell']) ?_; intro w2 hr2 hg2)
  refine bodyPost_ret (results_ctt rfl _ rfl (load_blk hr2 Tryd.underlying83 rfl hi)) rfl ?_
  exact ⟨rfl, below_own hB hg2 hB.size (Nat.le_refl _)⟩

set_option maxRecDepth 100000 in
set_option maxHeartbeats 8000000 in
theorem parse_yes (w : World) (A : Option Addr) (n c : Nat) (l : List UInt8) (h : Byt w w.heap.size A n l) (hc : n ≤ c) (hc2 : c ≤ maxLen) (hn : n ≤ 10000000) (he : errV l = 0) :
    Calls Tryd.prog 50 #[.slice A n c] w fun e w' => ∃ vo vp, e = .returned (.tuple #[.agg (hdCs (l.take (szK l).toNat) vo), vp, .int .i64 0]) ∧ OwnB w' w.heap.size vo ((szK l).toNat - 20) ((l.take (szK l).toNat).drop 20) ∧
      OwnB w' w.heap.size vp ((lnK l).toNat - (szK l).toNat) ((l.drop (szK l).toNat).take ((lnK l).toNat - (szK l).toNat)) ∧ Below w.heap.size w w' := by
  obtain ⟨e1, e2, e3, e4, e5, e6, e7, e8⟩ := errV_ok he
  have hln := h.1
  have hsV : szV l = ((szK l).toNat : Int) := by unfold szV; rw [if_pos he]; omega
  have hnV : lnV l = ((lnK l).toNat : Int) := by unfold lnV; rw [if_pos he]; omega
  have k1 : 20 ≤ (szK l).toNat := by omega
  have k2 : (szK l).toNat ≤ (lnK l).toNat := by omega
  have k3 : (lnK l).toNat ≤ n := by omega
  clear e2 e3 e4 e5 e6 e7 e8
  generalize (szK l).toNat = K at *
  generalize (lnK l).toNat = N at *
  replace hsV := Lib.hid hsV
  replace hnV := Lib.hid hnV
  replace he := Lib.hid he
  replace hln := Lib.hid hln
  have hr := Blk.new w 83 zCs
  have hB := (Below.refl w.heap.size w).alloc (Nat.le_refl _) (.cells zCs 83)
  have h1 := h.alloc (Nat.le_refl _) (.cells zCs 83)
  unfold zCs at hr hB h1
  obtain ⟨A1, hsl1, hby1⟩ := slice_take3 A n c K (by omega) hc
  obtain ⟨A2, hsl2, hby2⟩ := slice_mid3 A n c K N k2 k3 hc
  have hlL : (l.take K).length = K := by rw [List.length_take, hln.out]; omega
  replace hlL := Lib.hid hlL
  go_enter Tryd.func50, Tryd.ntmps50
  go_wp2_with fail
  refine (sizes_any _ A n c l (h1.more (by simp)) hc hc2 hn).mono ?_
  rintro e w1 ⟨rfl, hb1⟩
  rw [hsV.out, hnV.out, he.out]
  replace hB := hB.trans (hb1.mono hB.size)
  have hrg0 : w.heap.size < w1.heap.size := (hr.below hb1 hr.lt).lt
  replace hr := hr.below hb1 hr.lt
  have hbL := (hby1 w1 _ l (h.below hB)).more hB.size
  clear h1 hb1
  go_wp2_with fail
  refine (read_any w1 A1 K K (l.take K) _ hbL (Nat.le_refl _) (by omega)).mono ?_
  rintro e w2 ⟨g, rfl, hg2, hs, hb2⟩
  replace hB := hB.trans (hb2.mono hB.size)
  replace hr := hr.below hb2 hr.lt
  have hrg : w.heap.size < g := by omega
  have hrg' : w.heap.size ≤ g := by omega
  rw [← stp_zero] at hs
  clear hb2 hg2 hbL hrg0
  generalize hLL : l.take K = L at *
  replace hLL := Lib.hid hLL
  have hlL' := hlL.out
  go_wp2_with fail
  refine (u8_any w2 g _ hs).mono ?_
  rintro e w3 ⟨rfl, hsN, hgN⟩
  rw [stp_1 (by omega)] at hsN
  replace hB := below_own hB hgN hB.size hrg'
  replace hr := hr.grown hgN (by simp; omega)
  replace hs : Src w3 g (stp L 1) := hsN
  clear hgN hsN
  go_wp2_with fail
  refine (u8_any w3 g _ hs).mono ?_
  rintro e w4 ⟨rfl, hsN, hgN⟩
  rw [stp_1 (by omega)] at hsN
  replace hB := below_own hB hgN hB.size hrg'
  replace hr := hr.grown hgN (by simp; omega)
  replace hs : Src w4 g (stp L 2) := hsN
  clear hgN hsN
  go_wp2_with fail
  have hh := Blk.new w4 83 #[.int .i64 (numV (stp L 1) 1), .int .i64 0, .int .i64 0, .int .i64 0, .int .i64 0, .int .i64 0, .int .u32 0, .int .u32 0, .slice none 0 0]
  replace hB := hB.alloc hB.size (.cells #[.int .i64 (numV (stp L 1) 1), .int .i64 0, .int .i64 0, .int .i64 0, .int .i64 0, .int .i64 0, .int .u32 0, .int .u32 0, .slice none 0 0] 83)
  replace hr := hr.alloc (.cells #[.int .i64 (numV (stp L 1) 1), .int .i64 0, .int .i64 0, .int .i64 0, .int .i64 0, .int .i64 0, .int .u32 0, .int .u32 0, .slice none 0 0] 83)
  have hgh := hs.lt
  replace hs := hs.alloc (.cells #[.int .i64 (numV (stp L 1) 1), .int .i64 0, .int .i64 0, .int .i64 0, .int .i64 0, .int .i64 0, .int .u32 0, .int .u32 0, .slice none 0 0] 83)
  generalize w4.alloc (.cells #[.int .i64 (numV (stp L 1) 1), .int .i64 0, .int .i64 0, .int .i64 0, .int .i64 0, .int .i64 0, .int .u32 0, .int .u32 0, .slice none 0 0] 83) = wh at *
  generalize w4.heap.size = gh at *
  refine (u16_any wh g _ hs).mono ?_
  rintro e w5 ⟨rfl, hsN, hgN⟩
  rw [stp_2 (by omega)] at hsN
  replace hB := below_own hB hgN hB.size hrg'
  replace hr := hr.grown hgN (by simp; omega)
  replace hh := hh.grown hgN (by simp; omega)
  replace hs : Src w5 g (stp L 4) := hsN
  clear hgN hsN
  go_wp2_with fail
  refine (u16_any w5 g _ hs).mono ?_
  rintro e w6 ⟨rfl, hsN, hgN⟩
  rw [stp_2 (by omega)] at hsN
  replace hB := below_own hB hgN hB.size hrg'
  replace hr := hr.grown hgN (by simp; omega)
  replace hh := hh.grown hgN (by simp; omega)
  replace hs : Src w6 g (stp L 6) := hsN
  clear hgN hsN
  have cc1 := hh.cellv 1 (v := .int .i64 0) rfl
  have cf1 := hh.frozen 1
  go_wp2_with fail
  clear cc1 cf1
  have hst := blk_store hh 1 (.int .i64 (numV (stp L 4) 2))
  generalize w6.setCell ⟨gh, 1, none⟩ (.int .i64 (numV (stp L 4) 2)) = w7 at *
  replace hB := below_own hB hst.2 hB.size (by omega)
  replace hr := hr.grown hst.2 (by simp; omega)
  replace hs := hs.grown hst.2 (by omega)
  replace hh := hst.1
  simp only [List.setIfInBounds_toArray, List.set_cons_zero, List.set_cons_succ] at hh
  clear hst
  refine (u16_any w7 g _ hs).mono ?_
  rintro e w8 ⟨rfl, hsN, hgN⟩
  rw [stp_2 (by omega)] at hsN
  replace hB := below_own hB hgN hB.size hrg'
  replace hr := hr.grown hgN (by simp; omega)
  replace hh := hh.grown hgN (by simp; omega)
  replace hs : Src w8 g (stp L 8) := hsN
  clear hgN hsN
  have x1 := numV_lo (stp L (0 + 1 + 1 + 2 + 2)) 2
  have x2 := numV_4 (stp L (0 + 1 + 1 + 2 + 2)) 2 (by omega)
  have cc2 := hh.cellv 2 (v := .int .i64 0) rfl
  have cf2 := hh.frozen 2
  have cc3 := hh.cellv 3 (v := .int .i64 0) rfl
  have cf3 := hh.frozen 3
  go_wp2_with fail
  clear cc2 cf2
  clear cc3 cf3
  have hst := blk_store hh 2 (.int .i64 (numV (stp L 6) 2 / 8192))
  generalize w8.setCell ⟨gh, 2, none⟩ (.int .i64 (numV (stp L 6) 2 / 8192)) = w9 at *
  replace hB := below_own hB hst.2 hB.size (by omega)
  replace hr := hr.grown hst.2 (by simp; omega)
  replace hs := hs.grown hst.2 (by omega)
  replace hh := hst.1
  simp only [List.setIfInBounds_toArray, List.set_cons_zero, List.set_cons_succ] at hh
  clear hst
  have hst := blk_store hh 3 (.int .i64 (numV (stp L 6) 2 % 8192))
  generalize w9.setCell ⟨gh, 3, none⟩ (.int .i64 (numV (stp L 6) 2 % 8192)) = w10 at *
  replace hB := below_own hB hst.2 hB.size (by omega)
  replace hr := hr.grown hst.2 (by simp; omega)
  replace hs := hs.grown hst.2 (by omega)
  replace hh := hst.1
  simp only [List.setIfInBounds_toArray, List.set_cons_zero, List.set_cons_succ] at hh
  clear hst
  clear x1 x2
  refine (u8_any w10 g _ hs).mono ?_
  rintro e w11 ⟨rfl, hsN, hgN⟩
  rw [stp_1 (by omega)] at hsN
  replace hB := below_own hB hgN hB.size hrg'
  replace hr := hr.grown hgN (by simp; omega)
  replace hh := hh.grown hgN (by simp; omega)
  replace hs : Src w11 g (stp L 9) := hsN
  clear hgN hsN
  have cc4 := hh.cellv 4 (v := .int .i64 0) rfl
  have cf4 := hh.frozen 4
  go_wp2_with fail
  clear cc4 cf4
  have hst := blk_store hh 4 (.int .i64 (numV (stp L 8) 1))
  generalize w11.setCell ⟨gh, 4, none⟩ (.int .i64 (numV (stp L 8) 1)) = w12 at *
  replace hB := below_own hB hst.2 hB.size (by omega)
  replace hr := hr.grown hst.2 (by simp; omega)
  replace hs := hs.grown hst.2 (by omega)
  replace hh := hst.1
  simp only [List.setIfInBounds_toArray, List.set_cons_zero, List.set_cons_succ] at hh
  clear hst
  refine (u8_any w12 g _ hs).mono ?_
  rintro e w13 ⟨rfl, hsN, hgN⟩
  rw [stp_1 (by omega)] at hsN
  replace hB := below_own hB hgN hB.size hrg'
  replace hr := hr.grown hgN (by simp; omega)
  replace hh := hh.grown hgN (by simp; omega)
  replace hs : Src w13 g (stp L 10) := hsN
  clear hgN hsN
  have cc5 := hh.cellv 5 (v := .int .i64 0) rfl
  have cf5 := hh.frozen 5
  go_wp2_with fail
  clear cc5 cf5
  have hst := blk_store hh 5 (.int .i64 (numV (stp L 9) 1))
  generalize w13.setCell ⟨gh, 5, none⟩ (.int .i64 (numV (stp L 9) 1)) = w14 at *
  replace hB := below_own hB hst.2 hB.size (by omega)
  replace hr := hr.grown hst.2 (by simp; omega)
  replace hs := hs.grown hst.2 (by omega)
  replace hh := hst.1
  simp only [List.setIfInBounds_toArray, List.set_cons_zero, List.set_cons_succ] at hh
  clear hst
  refine (u16_any w14 g _ hs).mono ?_
  rintro e w15 ⟨rfl, hsN, hgN⟩
  rw [stp_2 (by omega)] at hsN
  replace hB := below_own hB hgN hB.size hrg'
  replace hr := hr.grown hgN (by simp; omega)
  replace hh := hh.grown hgN (by simp; omega)
  replace hs : Src w15 g (stp L 12) := hsN
  clear hgN hsN
  go_wp2_with fail
  refine (u32_any w15 g _ hs).mono ?_
  rintro e w16 ⟨rfl, hsN, hgN⟩
  rw [stp_4 (by omega)] at hsN
  replace hB := below_own hB hgN hB.size hrg'
  replace hr := hr.grown hgN (by simp; omega)
  replace hh := hh.grown hgN (by simp; omega)
  replace hs : Src w16 g (stp L 16) := hsN
  clear hgN hsN
  have cc6 := hh.cellv 6 (v := .int .u32 0) rfl
  have cf6 := hh.frozen 6
  go_wp2_with fail
  clear cc6 cf6
  have hst := blk_store hh 6 (.int .u32 (numV (stp L 12) 4))
  generalize w16.setCell ⟨gh, 6, none⟩ (.int .u32 (numV (stp L 12) 4)) = w17 at *
  replace hB := below_own hB hst.2 hB.size (by omega)
  replace hr := hr.grown hst.2 (by simp; omega)
  replace hs := hs.grown hst.2 (by omega)
  replace hh := hst.1
  simp only [List.setIfInBounds_toArray, List.set_cons_zero, List.set_cons_succ] at hh
  clear hst
  refine (u32_any w17 g _ hs).mono ?_
  rintro e w18 ⟨rfl, hsN, hgN⟩
  rw [stp_4 (by omega)] at hsN
  replace hB := below_own hB hgN hB.size hrg'
  replace hr := hr.grown hgN (by simp; omega)
  replace hh := hh.grown hgN (by simp; omega)
  replace hs : Src w18 g (stp L 20) := hsN
  clear hgN hsN
  have cc7 := hh.cellv 7 (v := .int .u32 0) rfl
  have cf7 := hh.frozen 7
  go_wp2_with fail
  clear cc7 cf7
  have hst := blk_store hh 7 (.int .u32 (numV (stp L 16) 4))
  generalize w18.setCell ⟨gh, 7, none⟩ (.int .u32 (numV (stp L 16) 4)) = w19 at *
  replace hB := below_own hB hst.2 hB.size (by omega)
  replace hr := hr.grown hst.2 (by simp; omega)
  replace hs := hs.grown hst.2 (by omega)
  replace hh := hst.1
  simp only [List.setIfInBounds_toArray, List.set_cons_zero, List.set_cons_succ] at hh
  clear hst
  have hrest := stp_rest L 20 (by omega)
  replace hrest := Lib.hid hrest
  refine (rest_any w19 g _ hs).mono ?_
  rintro e wr ⟨vo, rfl, owno, hsN, hgN⟩
  rw [hrest.out] at owno
  have hd20 : (stp L L.length, L.drop 20).2.length = K - 20 := by simp [hlL']
  rw [hd20] at owno
  replace owno : OwnB wr w19.heap.size vo (K - 20) (L.drop 20) := owno
  have hzr := hB.size
  replace owno := owno.less (base' := gh + 1) (by have := hh.lt; omega)
  replace hB := below_own hB hgN hB.size hrg'
  replace hr := hr.grown hgN (by simp; omega)
  replace hh := hh.grown hgN (by simp; omega)
  clear hs hsN hgN hd20 hrest hzr
  obtain ⟨Ao, co, rfl, hnco, _, hoo⟩ := owno.any
  have cc8 := hh.cellv 8 (v := .slice none 0 0) rfl
  have cf8 := hh.frozen 8
  go_wp2_with fail
  clear cc8 cf8
  have hst := blk_store hh 8 (.slice Ao (K - 20) co)
  generalize wr.setCell ⟨gh, 8, none⟩ (.slice Ao (K - 20) co) = ws at *
  have hzr := hr.lt
  replace hB := below_own hB hst.2 hB.size (by omega)
  replace hr := hr.grown hst.2 (by simp; omega)
  have hghr := hh.lt
  have hoB : ∀ a, (Value.slice Ao (K - 20) co).ownBlock = some a → a ≠ gh := fun a ha => by have := (World.ownsRow.lt owno a ha).1; omega
  replace owno := owno.kept hst.2 (by
    cases hv : (Value.slice Ao (K - 20) co).ownBlock with
    | none => exact .inl rfl
    | some a => exact .inr (by intro e; injection e with e; exact hoB a hv e))
  replace hh := hst.1
  simp only [List.setIfInBounds_toArray, List.set_cons_zero, List.set_cons_succ] at hh
  clear hst hoB hnco
  have hi : (Tryd.prog.info? 83).map (·.size) = some 9 := by kernel_rfl
  have hghne : gh ≠ w.heap.size := by omega
  have hzs := hB.size
  have hzw := hr.lt
  -- region 18: 0 1 2 3 4 5 6C 7M 8 9
  try refine wp_region_noPanic ?_
  have hs1r : ws.grownBy ws.drew (some w.heap.size) := grown_drew (grown_refl _ _)
  refine wp_region_held_drew (S := fun w' => ws.grownBy w' (some w.heap.size)) (by kernel_rfl) hs1r (fun _ => ?_)
  (refine held_takeA 0 (by rfl) ?_ (by kernel_rfl) (fun _ _ _ h => h) hs1r ?_ ?_; rotate_left; (focus (intro wq hSw; refine exec_load_blk (x := .tmp 10) ?_ ?_ (hh.grown hSw (by simp; omega)) _ Tryd.underlying83 rfl (by kernel_rfl) <;> rfl)); simp only [Act.put, List.setIfInBounds_toArray, List.set_cons_zero, List.set_cons_succ])
  (refine held_takeA 1 (by rfl) ?_ (by kernel_rfl) (fun _ _ _ h => h) hs1r ?_ ?_; rotate_left; (focus (intro wq hSw; have hrd : ∀ b o, b < ws.heap.size → b ≠ w.heap.size → wq.cell? ⟨b, o, none⟩ = ws.cell? ⟨b, o, none⟩ := (fun b o h hne => grown_cell hSw h hne); go_simp; try with_reducible rfl; done)); try simp only [Act.put, List.setIfInBounds_toArray, List.set_cons_zero, List.set_cons_succ])
  (refine held_takeA 2 (by rfl) ?_ (by kernel_rfl) (fun _ _ _ h => h) hs1r ?_ ?_; rotate_left; (focus (intro wq hSw; have hrd : ∀ b o, b < ws.heap.size → b ≠ w.heap.size → wq.cell? ⟨b, o, none⟩ = ws.cell? ⟨b, o, none⟩ := (fun b o h hne => grown_cell hSw h hne); go_simp; try with_reducible rfl; done)); try simp only [Act.put, List.setIfInBounds_toArray, List.set_cons_zero, List.set_cons_succ])
  (refine held_takeA 3 (by rfl) ?_ (by kernel_rfl) (fun _ _ _ h => h) hs1r ?_ ?_; rotate_left; (focus (intro wq hSw; have hrd : ∀ b o, b < ws.heap.size → b ≠ w.heap.size → wq.cell? ⟨b, o, none⟩ = ws.cell? ⟨b, o, none⟩ := (fun b o h hne => grown_cell hSw h hne); go_simp; try with_reducible rfl; done)); try simp only [Act.put, List.setIfInBounds_toArray, List.set_cons_zero, List.set_cons_succ])
  (refine held_takeA 4 (by rfl) ?_ (by kernel_rfl) (fun _ _ _ h => h) hs1r ?_ ?_; rotate_left; (focus (intro wq hSw; have hrd : ∀ b o, b < ws.heap.size → b ≠ w.heap.size → wq.cell? ⟨b, o, none⟩ = ws.cell? ⟨b, o, none⟩ := (fun b o h hne => grown_cell hSw h hne); go_simp; try with_reducible rfl; done)); try simp only [Act.put, List.setIfInBounds_toArray, List.set_cons_zero, List.set_cons_succ])
  (refine held_takeA 5 (by rfl) ?_ (by kernel_rfl) (fun _ _ _ h => h) hs1r ?_ ?_; rotate_left; (focus (intro wq hSw; have hrd : ∀ b o, b < ws.heap.size → b ≠ w.heap.size → wq.cell? ⟨b, o, none⟩ = ws.cell? ⟨b, o, none⟩ := (fun b o h hne => grown_cell hSw h hne); go_simp; try with_reducible rfl; done)); try simp only [Act.put, List.setIfInBounds_toArray, List.set_cons_zero, List.set_cons_succ])
  refine held_callA 6 (by rfl) (by kernel_rfl) (by rfl) (fun KQ hKQ => ?_)
  go_simp
  refine (clone_any ws.drew A2 (N - K) (N - K) _ _ ((hby2 ws.drew _ l ((h.below hB).drew)).more hzs) (Nat.le_refl _) (by omega)).mono ?_
  rintro e wt ⟨vp, rfl, ownp, hb9⟩
  refine hKQ.out _ _ (grown_trans hs1r (grown_of hb9 (Nat.le_refl _) _)) (held_mono (S' := fun w' => wt.grownBy w' (some w.heap.size)) (fun w' h => grown_trans (grown_trans hs1r (grown_of hb9 (Nat.le_refl _) _)) h) _ _ _ _ ?_)
  clear hKQ KQ
  replace hh := hh.grown (grown_trans hs1r (grown_of hb9 (Nat.le_refl _) _)) (by simp; omega)
  have hs2r : wt.grownBy wt (some w.heap.size) := grown_refl _ _
  try simp only [Act.put, List.setIfInBounds_toArray, List.set_cons_zero, List.set_cons_succ]
  replace hr := hr.below (((Below.refl ws.heap.size ws).drew).trans hb9) hr.lt
  replace hB := hB.trans ((((Below.refl ws.heap.size ws).drew).trans hb9).mono hzs)
  replace owno := owno.below (((Below.refl ws.heap.size ws).drew).trans hb9)
  refine held_callA 7 (by rfl) (by kernel_rfl) (by rfl) (fun KQ hKQ => ?_)
  refine wp_store_blk hr 83 (.tmp 2) (.tmp 64) (by rfl) (by rfl) (by rfl) (by rfl) (by exact hi) (by simp [Value.oneCell']) ?_
  intro wu hru hgu
  refine hKQ.out _ _ (grown_trans hs2r hgu) (held_mono (S' := fun w' => wu.grownBy w' (some w.heap.size)) (fun w' h => grown_trans (grown_trans hs2r hgu) h) _ _ _ _ ?_)
  clear hKQ KQ
  replace hh := hh.grown (grown_trans hs2r hgu) (by simp; omega)
  have hs3r : wu.grownBy wu (some w.heap.size) := grown_refl _ _
  try simp only [Act.put]
  (refine held_takeA 8 (by rfl) ?_ (by kernel_rfl) (fun _ _ _ h => h) hs3r ?_ ?_; rotate_left; (focus (intro wq hSw; have hrd : ∀ b o, b < wu.heap.size → b ≠ w.heap.size → wq.cell? ⟨b, o, none⟩ = wu.cell? ⟨b, o, none⟩ := (fun b o h hne => grown_cell hSw h hne); go_simp; try with_reducible rfl; done)); try simp only [Act.put, List.setIfInBounds_toArray, List.set_cons_zero, List.set_cons_succ])
  (refine held_takeA 9 (by rfl) ?_ (by kernel_rfl) (fun _ _ _ h => h) hs3r ?_ ?_; rotate_left; (focus (intro wq hSw; have hrd : ∀ b o, b < wu.heap.size → b ≠ w.heap.size → wq.cell? ⟨b, o, none⟩ = wu.cell? ⟨b, o, none⟩ := (fun b o h hne => grown_cell hSw h hne); go_simp; try with_reducible rfl; done)); try simp only [Act.put, List.setIfInBounds_toArray, List.set_cons_zero, List.set_cons_succ])
  refine wpAnyH_done (by kernel_rfl) ?_ _
  try refine NoPanic.normal ?_
  go_wp2_with fail
  have hl2 := hLL.out
  subst hl2
  refine bodyPost_ret (results_ctt rfl _ rfl (load_blk hru Tryd.underlying83 rfl hi)) rfl ?_
  have hle : w.heap.size < gh := by omega
  exact ⟨_, vp, rfl, (owno.grown hgu (by omega)).less (by omega), (ownp.grown hgu (by show w.heap.size < ws.heap.size; omega)).less (by show w.heap.size ≤ ws.heap.size; omega), below_own hB hgu hB.size (Nat.le_refl _)⟩
end Go.Proofs.YthbfnppgaaeilaaDoor
