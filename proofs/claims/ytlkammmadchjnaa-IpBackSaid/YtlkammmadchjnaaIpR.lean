/- ip: Forward and Rewrite. -/
import Derived.Test.YtlkammmadchjnaaIpQ
namespace Go.Proofs.Ytlkammmadchjnaa
set_option linter.unusedVariables false
open Go.RowKit

def fwdE (l : List UInt8) : Int := if errV l ≠ 0 then errV l else if byAt l 8 ≤ 1 then 9 else 0
def fwdL (l : List UInt8) : List UInt8 := if errV l ≠ 0 then [] else if byAt l 8 ≤ 1 then [] else buildL (fT l) (fI l) (fF l) (fG l) (fL l - 1) (fP l) (fS l) (fD l) (optL l) (payL l)
def rewL (l : List UInt8) (dst : Int) : List UInt8 := if errV l ≠ 0 then [] else buildL (fT l) (fI l) (fF l) (fG l) (fL l) (fP l) (fS l) dst (optL l) (payL l)
theorem tuple2 {v : Value} {a b : Int} (h : a = b) : Ending.returned (.tuple #[v, .int .i64 a]) = .returned (.tuple #[v, .int .i64 b]) := by rw [h]
theorem OwnB.fit {w : World} {base n : Nat} {v : Value} {l l' : List UInt8} (h : OwnB w base v n l) (e : l = l') : OwnB w base v l'.length l' := by
  subst e; rw [h.len]; exact h

set_option maxRecDepth 100000 in
set_option maxHeartbeats 4000000 in
theorem chgF_bad (w : World) (A : Option Addr) (n c : Nat) (l : List UInt8) (h : Byt w w.heap.size A n l) (hc : n ≤ c) (hc2 : c ≤ maxLen) (hn : n ≤ 10000000) (he : errV l ≠ 0) :
    Calls Try.prog 42 #[.slice A n c, .func (.func 43) #[] #[]] w fun e w' => e = .returned (.tuple #[.slice none 0 0, .int .i64 (errV l)]) ∧ Below w.heap.size w w' := by
  have hb : (errV l != 0) = true := by simpa using he
  replace he := Lib.hid he
  go_enter Try.func42, Try.ntmps42
  go_wp2_with fail
  refine (sizes_any _ A n c l h hc hc2 hn).mono ?_
  rintro e w1 ⟨rfl, hb1⟩
  go_wp2_with fail
  go_ret2
  exact ⟨rfl, hb1⟩

set_option maxRecDepth 100000 in
set_option maxHeartbeats 4000000 in
theorem chgF_low (w : World) (A : Option Addr) (n c : Nat) (l : List UInt8) (h : Byt w w.heap.size A n l) (hc : n ≤ c) (hc2 : c ≤ maxLen) (hn : n ≤ 10000000) (he : errV l = 0) (h8 : byAt l 8 ≤ 1) :
    Calls Try.prog 42 #[.slice A n c, .func (.func 43) #[] #[]] w fun e w' => e = .returned (.tuple #[.slice none 0 0, .int .i64 9]) ∧ Below w.heap.size w w' := by
  obtain ⟨e1, e2, e3, e4, e5, e6, e7, e8⟩ := errV_ok he
  have hln := h.1
  have hsV : szV l = ((szK l).toNat : Int) := by unfold szV; rw [if_pos he]; omega
  have hnV : lnV l = ((lnK l).toNat : Int) := by unfold lnV; rw [if_pos he]; omega
  have k1 : 20 ≤ (szK l).toNat := by omega
  have k2 : (szK l).toNat ≤ (lnK l).toNat := by omega
  have k3 : (lnK l).toNat ≤ n := by omega
  have k4 : (lnK l).toNat ≤ 9000 := by omega
  have k8 : byAt (l.take (lnK l).toNat) 8 = byAt l 8 := byAt_take _ _ _ (by omega)
  clear e2 e3 e4 e5 e6 e7 e8
  replace k8 := Lib.hid k8
  replace hsV := Lib.hid hsV
  replace hnV := Lib.hid hnV
  replace hln := Lib.hid hln
  replace he := Lib.hid he
  have hFl : ∀ s : Nat, s ≤ (lnK l).toNat → s ≤ n := fun s hs => by omega
  obtain ⟨A1, hsl1, hby1⟩ := slice_take3 A n c (lnK l).toNat k3 hc
  generalize hKK : (szK l).toNat = KK at *
  generalize hNN : (lnK l).toNat = NN at *
  replace hKK := Lib.hid hKK
  replace hNN := Lib.hid hNN
  clear hFl
  go_enter Try.func42, Try.ntmps42
  go_wp2_with fail
  refine (sizes_any _ A n c l h hc hc2 hn).mono ?_
  rintro e w1 ⟨rfl, hB⟩
  rw [hsV.out, hnV.out, he.out]
  go_wp2_with fail
  refine (clone_any w1 A1 NN NN _ _ ((hby1 w1 _ l (h.below hB)).more hB.size) (Nat.le_refl _) (by omega)).mono ?_
  rintro e w2 ⟨v2, rfl, own2, hb2⟩
  obtain ⟨g, cap, rfl, hg, hgs, hnc, hm⟩ := own2.form (by omega)
  have hB2 := hB.trans (hb2.mono hB.size)
  have hz1 := hB.size
  have hsl2 := slice_hi g 0 NN cap KK (by omega)
  clear hb2
  go_wp2_with fail
  refine (fwd1_no w2 _ g NN cap KK _ own2 k1 k2 (by rw [k8.out]; exact h8)).mono ?_
  rintro e w' ⟨rfl, rfl⟩
  go_wp2_with fail
  go_ret2
  exact ⟨rfl, hB2⟩

set_option maxRecDepth 100000 in
set_option maxHeartbeats 4000000 in
theorem chgF_yes (w : World) (A : Option Addr) (n c : Nat) (l : List UInt8) (h : Byt w w.heap.size A n l) (hc : n ≤ c) (hc2 : c ≤ maxLen) (hn : n ≤ 10000000) (he : errV l = 0) (h8 : 1 < byAt l 8) :
    Calls Try.prog 42 #[.slice A n c, .func (.func 43) #[] #[]] w fun e w' => ∃ v, e = .returned (.tuple #[v, .int .i64 0]) ∧ OwnB w' w.heap.size v (lnK l).toNat (set10 (fwdF l) (sealV (fwdF l) (szK l).toNat)) ∧ Below w.heap.size w w' := by
  obtain ⟨e1, e2, e3, e4, e5, e6, e7, e8⟩ := errV_ok he
  have hln := h.1
  have hsV : szV l = ((szK l).toNat : Int) := by unfold szV; rw [if_pos he]; omega
  have hnV : lnV l = ((lnK l).toNat : Int) := by unfold lnV; rw [if_pos he]; omega
  have k1 : 20 ≤ (szK l).toNat := by omega
  have k2 : (szK l).toNat ≤ (lnK l).toNat := by omega
  have k3 : (lnK l).toNat ≤ n := by omega
  have k4 : (lnK l).toNat ≤ 9000 := by omega
  have k8 : byAt (l.take (lnK l).toNat) 8 = byAt l 8 := byAt_take _ _ _ (by omega)
  clear e2 e3 e4 e5 e6 e7 e8
  replace k8 := Lib.hid k8
  replace hsV := Lib.hid hsV
  replace hnV := Lib.hid hnV
  replace hln := Lib.hid hln
  replace he := Lib.hid he
  have hFl : ∀ s : Nat, s ≤ (lnK l).toNat → s ≤ n := fun s hs => by omega
  obtain ⟨A1, hsl1, hby1⟩ := slice_take3 A n c (lnK l).toNat k3 hc
  generalize hKK : (szK l).toNat = KK at *
  generalize hNN : (lnK l).toNat = NN at *
  replace hKK := Lib.hid hKK
  replace hNN := Lib.hid hNN
  clear hFl
  have hF : (l.take NN).set 8 (byOf (byAt l 8 - 1)) = fwdF l := by unfold fwdF; rw [hNN.out]
  replace hF := Lib.hid hF
  go_enter Try.func42, Try.ntmps42
  go_wp2_with fail
  refine (sizes_any _ A n c l h hc hc2 hn).mono ?_
  rintro e w1 ⟨rfl, hB⟩
  rw [hsV.out, hnV.out, he.out]
  go_wp2_with fail
  refine (clone_any w1 A1 NN NN _ _ ((hby1 w1 _ l (h.below hB)).more hB.size) (Nat.le_refl _) (by omega)).mono ?_
  rintro e w2 ⟨v2, rfl, own2, hb2⟩
  obtain ⟨g, cap, rfl, hg, hgs, hnc, hm⟩ := own2.form (by omega)
  have hB2 := hB.trans (hb2.mono hB.size)
  have hz1 := hB.size
  have hsl2 := slice_hi g 0 NN cap KK (by omega)
  clear hb2
  go_wp2_with fail
  refine (fwd1_yes w2 _ g NN cap KK _ own2 k1 k2 (by rw [k8.out]; exact h8)).mono ?_
  rintro e w3 ⟨rfl, own3, hg3⟩
  rw [k8.out, hF.out] at own3
  have hB3 := below_own hB2 hg3 hB2.size (by omega)
  go_wp2_with fail
  refine (seal_any w3 _ g NN cap _ KK own3 (by omega) k2 (by omega)).mono ?_
  rintro e w4 ⟨rfl, own4, hg4⟩
  have hB4 := below_own hB3 hg4 hB3.size (by omega)
  go_wp2_with fail
  go_ret2
  have := hKK.out; subst this
  have := hNN.out; subst this
  exact ⟨_, rfl, own4.less hz1, hB4⟩

set_option maxRecDepth 100000 in
set_option maxHeartbeats 4000000 in
theorem chgR_bad (w : World) (A : Option Addr) (n c : Nat) (l : List UInt8) (h : Byt w w.heap.size A n l) (hc : n ≤ c) (hc2 : c ≤ maxLen) (hn : n ≤ 10000000) (bx : Nat) (he : errV l ≠ 0) :
    Calls Try.prog 42 #[.slice A n c, .func (.func 45) #[] #[.pointer (some ⟨bx, 0, none⟩)]] w fun e w' => e = .returned (.tuple #[.slice none 0 0, .int .i64 (errV l)]) ∧ Below w.heap.size w w' := by
  have hb : (errV l != 0) = true := by simpa using he
  replace he := Lib.hid he
  go_enter Try.func42, Try.ntmps42
  go_wp2_with fail
  refine (sizes_any _ A n c l h hc hc2 hn).mono ?_
  rintro e w1 ⟨rfl, hb1⟩
  go_wp2_with fail
  go_ret2
  exact ⟨rfl, hb1⟩

set_option maxRecDepth 100000 in
set_option maxHeartbeats 4000000 in
theorem chgR_yes (w : World) (A : Option Addr) (n c : Nat) (l : List UInt8) (h : Byt w w.heap.size A n l) (hc : n ≤ c) (hc2 : c ≤ maxLen) (hn : n ≤ 10000000) (bx : Nat) (he : errV l = 0) (dst : Int) (d0 : 0 ≤ dst) (d1 : dst ≤ 4294967295) (hbx : w.cell? ⟨bx, 0, none⟩ = some (.int .u32 dst)) :
    Calls Try.prog 42 #[.slice A n c, .func (.func 45) #[] #[.pointer (some ⟨bx, 0, none⟩)]] w fun e w' => ∃ v, e = .returned (.tuple #[v, .int .i64 0]) ∧ OwnB w' w.heap.size v (lnK l).toNat (set10 (rewF l dst) (sealV (rewF l dst) (szK l).toNat)) ∧ Below w.heap.size w w' := by
  obtain ⟨e1, e2, e3, e4, e5, e6, e7, e8⟩ := errV_ok he
  have hln := h.1
  have hsV : szV l = ((szK l).toNat : Int) := by unfold szV; rw [if_pos he]; omega
  have hnV : lnV l = ((lnK l).toNat : Int) := by unfold lnV; rw [if_pos he]; omega
  have k1 : 20 ≤ (szK l).toNat := by omega
  have k2 : (szK l).toNat ≤ (lnK l).toNat := by omega
  have k3 : (lnK l).toNat ≤ n := by omega
  have k4 : (lnK l).toNat ≤ 9000 := by omega
  have k8 : byAt (l.take (lnK l).toNat) 8 = byAt l 8 := byAt_take _ _ _ (by omega)
  clear e2 e3 e4 e5 e6 e7 e8
  replace k8 := Lib.hid k8
  replace hsV := Lib.hid hsV
  replace hnV := Lib.hid hnV
  replace hln := Lib.hid hln
  replace he := Lib.hid he
  have hbl := lt_of_cell hbx
  simp only at hbl
  have hFl : ∀ s : Nat, s ≤ (lnK l).toNat → s ≤ n := fun s hs => by omega
  obtain ⟨A1, hsl1, hby1⟩ := slice_take3 A n c (lnK l).toNat k3 hc
  generalize hKK : (szK l).toNat = KK at *
  generalize hNN : (lnK l).toNat = NN at *
  replace hKK := Lib.hid hKK
  replace hNN := Lib.hid hNN
  clear hFl
  have hF : setAt (l.take NN) 16 (be dst 4) = rewF l dst := by unfold rewF; rw [hNN.out]
  replace hF := Lib.hid hF
  go_enter Try.func42, Try.ntmps42
  go_wp2_with fail
  refine (sizes_any _ A n c l h hc hc2 hn).mono ?_
  rintro e w1 ⟨rfl, hB⟩
  rw [hsV.out, hnV.out, he.out]
  go_wp2_with fail
  refine (clone_any w1 A1 NN NN _ _ ((hby1 w1 _ l (h.below hB)).more hB.size) (Nat.le_refl _) (by omega)).mono ?_
  rintro e w2 ⟨v2, rfl, own2, hb2⟩
  obtain ⟨g, cap, rfl, hg, hgs, hnc, hm⟩ := own2.form (by omega)
  have hB2 := hB.trans (hb2.mono hB.size)
  have hz1 := hB.size
  have hsl2 := slice_hi g 0 NN cap KK (by omega)
  clear hb2
  go_wp2_with fail
  have hz2 := hB2.size
  refine (rew1_any w2 _ bx g NN cap KK _ dst own2 k1 k2 (by omega) d0 d1 ((hB2.cell (p := ⟨bx, 0, none⟩) hbl).trans hbx) (by omega) (by omega)).mono ?_
  rintro e w3 ⟨rfl, own3, hg3⟩
  rw [hF.out] at own3
  have hB3 := below_own hB2 hg3 hB2.size (by omega)
  go_wp2_with fail
  refine (seal_any w3 _ g NN cap _ KK own3 (by omega) k2 (by omega)).mono ?_
  rintro e w4 ⟨rfl, own4, hg4⟩
  have hB4 := below_own hB3 hg4 hB3.size (by omega)
  go_wp2_with fail
  go_ret2
  have := hKK.out; subst this
  have := hNN.out; subst this
  exact ⟨_, rfl, own4.less hz1, hB4⟩
theorem ipForward_any (w : World) (A : Option Addr) (n c : Nat) (l : List UInt8) (h : Byt w w.heap.size A n l) (hc : n ≤ c) (hc2 : c ≤ maxLen) (hn : n ≤ 10000000) :
    Calls Try.prog 17 #[.slice A n c] w fun e w' => ∃ v, e = .returned (.tuple #[v, .int .i64 (fwdE l)]) ∧ OwnB w' w.heap.size v (fwdL l).length (fwdL l) ∧ Below w.heap.size w w' := by
  go_enter Try.func17, Try.ntmps17
  go_wp2_with fail
  by_cases he : errV l = 0
  · by_cases h8 : 1 < byAt l 8
    · refine (chgF_yes w A n c l h hc hc2 hn he h8).mono ?_
      rintro e w1 ⟨v, rfl, hown, hb⟩
      rw [fwd_law he h8] at hown
      have e1 : fwdE l = 0 := by unfold fwdE; rw [if_neg (by simpa using he), if_neg (by omega)]
      have e2 : buildL (fT l) (fI l) (fF l) (fG l) (fL l - 1) (fP l) (fS l) (fD l) (optL l) (payL l) = fwdL l := by unfold fwdL; rw [if_neg (by simpa using he), if_neg (by omega)]
      replace e1 := Lib.hid e1
      replace e2 := Lib.hid e2
      replace he := Lib.hid he
      go_wp2_with fail
      go_ret2
      exact ⟨v, tuple2 e1.out.symm, hown.fit e2.out, hb⟩
    · refine (chgF_low w A n c l h hc hc2 hn he (by omega)).mono ?_
      rintro e w1 ⟨rfl, hb⟩
      have e1 : fwdE l = 9 := by unfold fwdE; rw [if_neg (by simpa using he), if_pos (by omega)]
      have e2 : [] = fwdL l := by unfold fwdL; rw [if_neg (by simpa using he), if_pos (by omega)]
      replace e1 := Lib.hid e1
      replace e2 := Lib.hid e2
      replace he := Lib.hid he
      go_wp2_with fail
      go_ret2
      exact ⟨_, tuple2 e1.out.symm, (OwnB.nil _ _).fit e2.out, hb⟩
  · refine (chgF_bad w A n c l h hc hc2 hn he).mono ?_
    rintro e w1 ⟨rfl, hb⟩
    have e1 : fwdE l = errV l := by unfold fwdE; rw [if_pos (by simpa using he)]
    have e2 : [] = fwdL l := by unfold fwdL; rw [if_pos (by simpa using he)]
    replace e1 := Lib.hid e1
    replace e2 := Lib.hid e2
    replace he := Lib.hid he
    go_wp2_with fail
    go_ret2
    exact ⟨_, tuple2 e1.out.symm, (OwnB.nil _ _).fit e2.out, hb⟩
theorem ipRewrite_any (w : World) (A : Option Addr) (n c : Nat) (l : List UInt8) (h : Byt w w.heap.size A n l) (hc : n ≤ c) (hc2 : c ≤ maxLen) (hn : n ≤ 10000000) (dst : Int) (d0 : 0 ≤ dst) (d1 : dst ≤ 4294967295) :
    Calls Try.prog 19 #[.slice A n c, .int .u32 dst] w fun e w' => ∃ v, e = .returned (.tuple #[v, .int .i64 (errV l)]) ∧ OwnB w' w.heap.size v (rewL l dst).length (rewL l dst) ∧ Below w.heap.size w w' := by
  have hbx := (Blk.new w 22 #[.int .u32 dst]).cellv 0 (v := .int .u32 dst) rfl
  have hB := (Below.refl w.heap.size w).alloc (Nat.le_refl _) (.cells #[.int .u32 dst] 22)
  have h1 := (h.below hB).more hB.size
  go_enter Try.func19, Try.ntmps19
  go_wp2_with fail

  generalize w.alloc (.cells #[.int .u32 dst] 22) = w0 at *
  have hz := hB.size
  by_cases he : errV l = 0
  · refine (chgR_yes w0 A n c l h1 hc hc2 hn _ he dst d0 d1 hbx).mono ?_
    rintro e w1 ⟨v, rfl, hown, hb⟩
    rw [rew_law he dst d0 d1] at hown
    have e2 : buildL (fT l) (fI l) (fF l) (fG l) (fL l) (fP l) (fS l) dst (optL l) (payL l) = rewL l dst := by unfold rewL; rw [if_neg (by simpa using he)]
    replace e2 := Lib.hid e2
    replace he := Lib.hid he
    go_wp2_with fail
    go_ret2
    exact ⟨v, tuple2 he.out.symm, (hown.less hz).fit e2.out, hB.trans (hb.mono hz)⟩
  · refine (chgR_bad w0 A n c l h1 hc hc2 hn _ he).mono ?_
    rintro e w1 ⟨rfl, hb⟩
    have e2 : [] = rewL l dst := by unfold rewL; rw [if_pos (by simpa using he)]
    replace e2 := Lib.hid e2
    replace he := Lib.hid he
    go_wp2_with fail
    go_ret2
    exact ⟨_, rfl, (OwnB.nil _ _).fit e2.out, hB.trans (hb.mono hz)⟩
end Go.Proofs.Ytlkammmadchjnaa
