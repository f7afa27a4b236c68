/- ip: IpBuilds, the walk. ip: sizes. -/
import Derived.Test.YthbfnppgaaeilaaDoorIpI
import Derived.Test.YthbfnppgaaeilaaDoorLib
namespace Go.Proofs.YthbfnppgaaeilaaDoor
set_option linter.unusedVariables false
open Go.RowKit

/-- the packet's bytes; none: it may not be. -/
def buildL (t i f g l p s d : Int) (o pl : List UInt8) : List UInt8 :=
  if goodH t i f g l p o.length = true ∧ pl.length + o.length ≤ 8980 then refL t i f g l p s d o.length (20 + o.length + pl.length) (65535 - csum (refL t i f g l p s d o.length (20 + o.length + pl.length) 0 ++ o)) ++ o ++ pl else []
theorem buildL_yes {t i f g l p s d : Int} {o pl : List UInt8} (h1 : goodH t i f g l p o.length = true) (h2 : pl.length + o.length ≤ 8980) :
    buildL t i f g l p s d o pl = refL t i f g l p s d o.length (20 + o.length + pl.length) (65535 - csum (refL t i f g l p s d o.length (20 + o.length + pl.length) 0 ++ o)) ++ o ++ pl := if_pos ⟨h1, h2⟩
theorem buildL_no {t i f g l p s d : Int} {o pl : List UInt8} (h : ¬ (goodH t i f g l p o.length = true ∧ pl.length + o.length ≤ 8980)) : buildL t i f g l p s d o pl = [] := if_neg h
theorem buildL_len {t i f g l p s d : Int} {o pl : List UInt8} (h1 : goodH t i f g l p o.length = true) (h2 : pl.length + o.length ≤ 8980) : (buildL t i f g l p s d o pl).length = 20 + o.length + pl.length := by
  rw [buildL_yes h1 h2]; simp [refL_len]; omega
theorem ipBuild_any (t i f g l p s d : Int) (A : Option Addr) (n c : Nat) (o : List UInt8) (X : Option Addr) (m k : Nat) (pl : List UInt8) (w : World) (hn : n ≤ 300) (hm : m ≤ 12000)
    (hO : Byt w w.heap.size A n o) (hP : Byt w w.heap.size X m pl) (s0 : 0 ≤ s) (s1 : s ≤ 4294967295) (d0 : 0 ≤ d) (d1 : d ≤ 4294967295) :
    Calls Tryd.prog 55 #[.agg #[.int .i64 t, .int .i64 i, .int .i64 f, .int .i64 g, .int .i64 l, .int .i64 p, .int .u32 s, .int .u32 d, .slice A n c], .slice X m k] w fun e w' => ∃ v, e = .returned v ∧ OwnB w' w.heap.size v (buildL t i f g l p s d o pl).length (buildL t i f g l p s d o pl) ∧ Below w.heap.size w w' := by
  have ho := hO.1
  have hp := hP.1
  by_cases h : goodH t i f g l p n = true ∧ m + n ≤ 8980
  · obtain ⟨h1, h2⟩ := h
    refine (build_yes t i f g l p s d A n c o X m k pl w h1 h2 hO hP s0 s1 d0 d1).mono ?_
    rintro e w' ⟨v, he, hown, hb⟩
    refine ⟨v, he, ?_, hb⟩
    rw [builds_same _ _ _ _ _ _ _ _ _ _ _ _ h1 h2 ho] at hown
    subst ho hp
    rw [buildL_len h1 h2, buildL_yes h1 h2]
    exact hown
  · refine (build_no t i f g l p s d A n c X m k w hn hm (by
      rcases Nat.lt_or_ge 8980 (m + n) with hq | hq
      · exact .inr hq
      · exact .inl (by cases hg : goodH t i f g l p n; rfl; exact absurd ⟨hg, hq⟩ h))).mono ?_
    rintro e w' ⟨he, hb⟩
    subst ho hp
    rw [buildL_no h]
    exact ⟨_, he, OwnB.nil _ _, hb⟩
theorem refBuild_any (t i f g l p s d : Int) (A : Option Addr) (n c : Nat) (o : List UInt8) (X : Option Addr) (m k : Nat) (pl : List UInt8) (w : World) (hn : n ≤ 300) (hm : m ≤ 12000)
    (hO : Byt w w.heap.size A n o) (hP : Byt w w.heap.size X m pl) (s0 : 0 ≤ s) (s1 : s ≤ 4294967295) (d0 : 0 ≤ d) (d1 : d ≤ 4294967295) :
    Calls Tryd.prog 56 #[.agg #[.int .i64 t, .int .i64 i, .int .i64 f, .int .i64 g, .int .i64 l, .int .i64 p, .int .u32 s, .int .u32 d, .slice A n c], .slice X m k] w fun e w' => ∃ v, e = .returned v ∧ OwnB w' w.heap.size v (buildL t i f g l p s d o pl).length (buildL t i f g l p s d o pl) ∧ Below w.heap.size w w' := by
  have ho := hO.1
  have hp := hP.1
  by_cases h : goodH t i f g l p n = true ∧ m + n ≤ 8980
  · obtain ⟨h1, h2⟩ := h
    refine (refBuild_yes t i f g l p s d A n c o X m k pl w h1 h2 hO hP s0 s1 d0 d1).mono ?_
    rintro e w' ⟨v, he, hown, hb⟩
    refine ⟨v, he, ?_, hb⟩
    subst ho hp
    rw [buildL_len h1 h2, buildL_yes h1 h2]
    exact hown
  · refine (refBuild_no t i f g l p s d A n c X m k w hn hm (by
      rcases Nat.lt_or_ge 8980 (m + n) with hq | hq
      · exact .inr hq
      · exact .inl (by cases hg : goodH t i f g l p n; rfl; exact absurd ⟨hg, hq⟩ h))).mono ?_
    rintro e w' ⟨he, hb⟩
    subst ho hp
    rw [buildL_no h]
    exact ⟨_, he, OwnB.nil _ _, hb⟩
theorem lives_good : goodH 0 0 0 0 9 17 ([] : List UInt8).length = true := by decide
theorem lives_len : (buildL 0 0 0 0 9 17 0 0 [] []).length = 20 := buildL_len lives_good (by decide)
theorem lives_first : byAt (buildL 0 0 0 0 9 17 0 0 [] []) 0 = 69 := by
  rw [buildL_yes lives_good (by decide)]
  rfl
end Go.Proofs.YthbfnppgaaeilaaDoor

namespace Go.Proofs.YthbfnppgaaeilaaDoor
set_option linter.unusedVariables false
open Go.RowKit

theorem u8_and15 (n : Int) : bits .and .u8 n 15 = n % 16 := by
  show IntKind.u8.wrap ((BitVec.ofInt 8 n &&& BitVec.ofInt 8 15).toNat : Int) = _
  have h1 : (BitVec.ofInt 8 15).toNat = 2 ^ 4 - 1 := by decide
  rw [BitVec.toNat_and, h1, Nat.and_two_pow_sub_one_eq_mod, BitVec.toNat_ofInt, IntKind.wrap_u8]
  omega
attribute [go_sem] u8_and15
/-- how long a head is, by itself; how long the packet. -/
def szK (l : List UInt8) : Int := 4 * (byAt l 0 % 16)
def lnK (l : List UInt8) : Int := 256 * byAt l 2 + byAt l 3
theorem szK_lo (l : List UInt8) : 0 ≤ szK l ∧ szK l ≤ 60 := by unfold szK; omega
theorem lnK_lo (l : List UInt8) : 0 ≤ lnK l ∧ lnK l ≤ 65535 := by
  have := byAt_lo l 2; have := byAt_hi l 2; have := byAt_lo l 3; have := byAt_hi l 3
  unfold lnK; omega
/-- the first thing that is wrong. -/
def errV (l : List UInt8) : Int :=
  if l.length < 20 then 3 else if byAt l 0 / 16 ≠ 4 ∨ szK l < 20 then 4 else if (l.length : Int) < szK l ∨ (l.length : Int) < lnK l then 3
  else if lnK l < szK l ∨ 9000 < lnK l then 4 else if csum (l.take (szK l).toNat) ≠ 65535 then 5 else 0
def szV (l : List UInt8) : Int := if errV l = 0 then szK l else 0
def lnV (l : List UInt8) : Int := if errV l = 0 then lnK l else 0
theorem errV_ok {l : List UInt8} (h : errV l = 0) : 20 ≤ l.length ∧ byAt l 0 / 16 = 4 ∧ 20 ≤ szK l ∧ szK l ≤ l.length ∧ lnK l ≤ l.length ∧ szK l ≤ lnK l ∧ lnK l ≤ 9000 ∧ csum (l.take (szK l).toNat) = 65535 := by
  unfold errV at h
  split at h
  · omega
  split at h
  · omega
  split at h
  · omega
  split at h
  · omega
  split at h
  · omega
  rename_i h1 h2 h3 h4 h5
  exact ⟨by omega, by omega, by omega, by omega, by omega, by omega, by omega, by simpa using h5⟩
theorem errV_1 {l : List UInt8} (h : l.length < 20) : errV l = 3 := if_pos h
theorem errV_2 {l : List UInt8} (h : 20 ≤ l.length) (h2 : byAt l 0 / 16 ≠ 4 ∨ szK l < 20) : errV l = 4 := by unfold errV; rw [if_neg (by omega), if_pos h2]
theorem errV_3 {l : List UInt8} (h : 20 ≤ l.length) (h2 : byAt l 0 / 16 = 4) (h2' : 20 ≤ szK l) (h3 : (l.length : Int) < szK l ∨ (l.length : Int) < lnK l) : errV l = 3 := by
  unfold errV; rw [if_neg (by omega), if_neg (by omega), if_pos h3]
theorem errV_4 {l : List UInt8} (h : 20 ≤ l.length) (h2 : byAt l 0 / 16 = 4) (h2' : 20 ≤ szK l) (h3 : szK l ≤ l.length) (h3' : lnK l ≤ l.length) (h4 : lnK l < szK l ∨ 9000 < lnK l) : errV l = 4 := by
  unfold errV; rw [if_neg (by omega), if_neg (by omega), if_neg (by omega), if_pos h4]
theorem errV_5 {l : List UInt8} (h : 20 ≤ l.length) (h2 : byAt l 0 / 16 = 4) (h2' : 20 ≤ szK l) (h3 : szK l ≤ l.length) (h3' : lnK l ≤ l.length) (h4 : szK l ≤ lnK l) (h4' : lnK l ≤ 9000) :
    errV l = if csum (l.take (szK l).toNat) ≠ 65535 then 5 else 0 := by
  unfold errV; rw [if_neg (by omega), if_neg (by omega), if_neg (by omega), if_neg (by omega)]
theorem getV_lnK (l : List UInt8) (h : 20 ≤ l.length) : getV l 2 2 = lnK l := by
  have hf : fitsB l.length 2 2 = true := (fitsB_iff _ _ _).2 ⟨by omega, by omega⟩
  unfold getV lnK
  rw [hf]
  simp only [if_true, fromI, getN, byAt_drop]
  simp; omega
theorem tuple3 {a b c a' b' c' : Int} (h1 : a = a') (h2 : b = b') (h3 : c = c') : Ending.returned (.tuple #[.int .i64 a, .int .i64 b, .int .i64 c]) = .returned (.tuple #[.int .i64 a', .int .i64 b', .int .i64 c']) := by rw [h1, h2, h3]

set_option maxHeartbeats 4000000 in
theorem sizes_any (w : World) (A : Option Addr) (n c : Nat) (l : List UInt8) (h : Byt w w.heap.size A n l) (hc : n ≤ c) (hc2 : c ≤ maxLen) (hn : n ≤ 10000000) :
    Calls Tryd.prog 64 #[.slice A n c] w fun e w' => e = .returned (.tuple #[.int .i64 (szV l), .int .i64 (lnV l), .int .i64 (errV l)]) ∧ Below w.heap.size w w' := by
  obtain rfl : l.length = n := h.1
  by_cases h1 : l.length < 20
  · have i1 : (l.length : Int) < 20 := by omega
    have e := Lib.hid (errV_1 h1)
    go_enter Tryd.func64, Tryd.ntmps64
    go_wp2_with fail
    go_ret3
    exact ⟨tuple3 (by rw [szV, e.out]; rfl) (by rw [lnV, e.out]; rfl) e.out.symm, Below.refl _ _⟩
  have i1 : (20 : Int) ≤ l.length := by omega
  replace h1 : 20 ≤ l.length := by omega
  obtain ⟨b, off, rfl, hb, hcell⟩ := h.2 (by omega)
  have c0 := hcell 0 (by omega)
  rw [Nat.add_zero] at c0
  have b0 := byAt_lo l 0
  have b1 := byAt_hi l 0
  have hk := szK_lo l
  have hln := lnK_lo l
  have hgv := Lib.hid (getV_lnK l h1)
  have hfi : fitsB l.length 2 2 = true := (fitsB_iff _ _ _).2 ⟨by omega, by omega⟩
  have hsz : 4 * (byAt l 0 % 16) = szK l := rfl
  clear hcell
  by_cases h2 : byAt l 0 / 16 = 4
  rotate_left
  · have e := Lib.hid (errV_2 h1 (.inl h2))
    have q2 : (byAt l 0 / 16 != 4) = true := by simpa using h2
    go_enter Tryd.func64, Tryd.ntmps64
    go_wp2_with fail
    go_ret3
    exact ⟨tuple3 (by rw [szV, e.out]; rfl) (by rw [lnV, e.out]; rfl) e.out.symm, Below.refl _ _⟩
  by_cases h3 : szK l < 20
  · have e := Lib.hid (errV_2 h1 (.inr h3))
    go_enter Tryd.func64, Tryd.ntmps64
    go_wp2_with fail
    go_ret3
    exact ⟨tuple3 (by rw [szV, e.out]; rfl) (by rw [lnV, e.out]; rfl) e.out.symm, Below.refl _ _⟩
  replace h3 : 20 ≤ szK l := by omega
  by_cases h4 : (l.length : Int) < szK l ∨ (l.length : Int) < lnK l
  · have e := Lib.hid (errV_3 h1 h2 h3 h4)
    have h4' := Lib.hid h4
    clear h4
    by_cases q5 : (l.length : Int) < szK l
    all_goals (try (replace q5 : szK l ≤ l.length := by omega))
    all_goals (try (have q6 : (l.length : Int) < lnK l := by have := h4'.out; omega))
    all_goals go_enter Tryd.func64, Tryd.ntmps64
    all_goals go_wp2_with fail
    all_goals refine (get16_any w _ _ c l _ h hc hc2 2 (by omega)).mono ?_
    all_goals rintro e w' ⟨rfl, rfl⟩
    all_goals rw [hgv.out, hfi]
    all_goals go_wp2_with fail
    all_goals go_ret3
    all_goals exact ⟨tuple3 (by rw [szV, e.out]; rfl) (by rw [lnV, e.out]; rfl) e.out.symm, Below.refl _ _⟩
  have h4a : szK l ≤ l.length := by omega
  have h4b : lnK l ≤ l.length := by omega
  clear h4
  by_cases h5 : lnK l < szK l
  · have e := Lib.hid (errV_4 h1 h2 h3 h4a h4b (.inl h5))
    go_enter Tryd.func64, Tryd.ntmps64
    go_wp2_with fail
    refine (get16_any w _ _ c l _ h hc hc2 2 (by omega)).mono ?_
    rintro e w' ⟨rfl, rfl⟩
    rw [hgv.out, hfi]
    go_wp2_with fail
    go_ret3
    exact ⟨tuple3 (by rw [szV, e.out]; rfl) (by rw [lnV, e.out]; rfl) e.out.symm, Below.refl _ _⟩
  replace h5 : szK l ≤ lnK l := by omega
  by_cases h6 : 9000 < lnK l
  · have e := Lib.hid (errV_4 h1 h2 h3 h4a h4b (.inr h6))
    go_enter Tryd.func64, Tryd.ntmps64
    go_wp2_with fail
    refine (get16_any w _ _ c l _ h hc hc2 2 (by omega)).mono ?_
    rintro e w' ⟨rfl, rfl⟩
    rw [hgv.out, hfi]
    go_wp2_with fail
    go_ret3
    exact ⟨tuple3 (by rw [szV, e.out]; rfl) (by rw [lnV, e.out]; rfl) e.out.symm, Below.refl _ _⟩
  replace h6 : lnK l ≤ 9000 := by omega
  have e := Lib.hid (errV_5 h1 h2 h3 h4a h4b h5 h6)
  have hcut : ((szK l).toNat : Int) = szK l := by omega
  have hle : (szK l).toNat ≤ l.length := by omega
  obtain ⟨A', hsl, hby⟩ := slice_take (some ⟨b, off, none⟩) l.length c (szK l).toNat hle hc
  rw [hcut] at hsl
  replace hcut := Lib.hid hcut
  have hb2 := hby w _ l h
  generalize (szK l).toNat = K at *
  rcases Int.lt_or_le (szK l) (lnK l) with hm | hm
  all_goals
    go_enter Tryd.func64, Tryd.ntmps64
    go_wp2_with fail
    refine (get16_any w _ _ c l _ h hc hc2 2 (by omega)).mono ?_
    rintro e w' ⟨rfl, rfl⟩
    rw [hgv.out, hfi]
    go_wp2_with fail
    try any_goals (exfalso; omega)
    refine (good_any A' K c (l.take K) (by omega) w hb2).mono ?_
    rintro e w1 ⟨rfl, hb3⟩
    by_cases h7 : csum (l.take K) = 65535
    · have h7' : (csum (l.take K) == 65535) = true := by simpa using h7
      rw [h7']
      go_wp2_with fail
      go_ret3
      have e0 : errV l = 0 := by rw [e.out, if_neg (by simpa using h7)]
      exact ⟨tuple3 (by rw [szV, e0]; rfl) (by rw [lnV, e0]; rfl) e0.symm, hb3⟩
    · have h7' : (csum (l.take K) == 65535) = false := by simpa using h7
      rw [h7']
      go_wp2_with fail
      go_ret3
      have e0 : errV l = 5 := by rw [e.out, if_pos (by simpa using h7)]
      exact ⟨tuple3 (by rw [szV, e0]; rfl) (by rw [lnV, e0]; rfl) e0.symm, hb3⟩
end Go.Proofs.YthbfnppgaaeilaaDoor
