/- tunnel: Is, Depth, the document's examples. -/
import Derived.Test.YtnjbnnceeecekaaTunB
namespace Go.Proofs.Ytnjbnnceeecekaa
set_option linter.unusedVariables false
open Go.RowKit

def depthF : Nat → List UInt8 → Nat
  | 0, _ => 0
  | n + 1, l => if unwE l = 0 then depthF n (unwL l) + 1 else 0
theorem depthF_le (n : Nat) (l : List UInt8) : depthF n l ≤ n := by
  induction n generalizing l with
  | zero => exact Nat.le_refl _
  | succ n ih => unfold depthF; split; have := ih (unwL l); omega; omega
theorem unwL_len (l : List UInt8) : (unwL l).length ≤ 9000 := by
  have := payL_len l
  unfold unwL; split
  · rw [List.length_take]; omega
  · exact Nat.zero_le _
theorem unwL_lenE {l : List UInt8} (h : unwE l = 0) : (unwL l).length = (lnK (payL l)).toNat := by
  unfold unwL; rw [if_pos h]; exact take_ln_len (unwE_ok h).2.2.2.2
set_option maxHeartbeats 1000000 in
theorem is_any (w : World) (A : Option Addr) (n c : Nat) (l : List UInt8) (h : Byt w w.heap.size A n l) (hc : n ≤ c) (hc2 : c ≤ maxLen) (hn : n ≤ 10000000) :
    Calls Try.prog 25 #[.slice A n c] w fun e w' => e = .returned (.bool (unwE l == 0)) ∧ Below w.heap.size w w' := by
  by_cases hu : unwE l = 0
  · go_enter Try.func25, Try.ntmps25
    go_wp2_with fail
    refine (unwrap_yes w A n c l h hc hc2 hn hu).mono ?_
    rintro e w1 ⟨v, Ao1, co1, rfl, own, _, hB⟩
    have e1 : (unwE l == 0) = true := by simpa using hu
    replace hu := Lib.hid hu
    replace e1 := Lib.hid e1
    go_wp2_with fail
    go_ret
    exact ⟨ret_bool e1.out.symm, hB.alloc hB.size _⟩
  · go_enter Try.func25, Try.ntmps25
    go_wp2_with fail
    refine (unwrap_no w A n c l h hc hc2 hn hu).mono ?_
    rintro e w1 ⟨rfl, hB⟩
    unfold zCs
    have e1 : (unwE l == 0) = false := by simpa using hu
    replace hu := Lib.hid hu
    go_wp2_with fail
    go_ret
    exact ⟨ret_bool (by first | rfl | exact e1.symm), hB.alloc hB.size _⟩
def DepRel (w : World) (l : List UInt8) (b k : Value) (wr : World) : Prop :=
  ∃ (j : Nat) (A : Option Addr) (n c : Nat) (l' : List UInt8), j ≤ 8 ∧ k = .int .i64 j ∧ b = .slice A n c ∧ n ≤ c ∧ c ≤ maxLen ∧ n ≤ 10000000 ∧ Byt wr wr.heap.size A n l' ∧ depthF 8 l = j + depthF (8 - j) l' ∧ Below w.heap.size w wr
set_option maxRecDepth 100000 in
set_option maxHeartbeats 4000000 in
theorem depth_any (w : World) (A : Option Addr) (n c : Nat) (l : List UInt8) (h : Byt w w.heap.size A n l) (hc : n ≤ c) (hc2 : c ≤ maxLen) (hn : n ≤ 10000000) :
    Calls Try.prog 26 #[.slice A n c] w fun e w' => e = .returned (.int .i64 (depthF 8 l : Nat)) ∧ Below w.heap.size w w' := by
  go_enter Try.func26, Try.ntmps26
  go_wp2_with fail
  go_step3
  go_wp2_with fail
  go_step3
  go_wp2_with fail
  go_loopw [0, 3, 4, 5, 6] (fun b k _ _ _ wr => DepRel w l b k wr) (fun _ k _ _ _ _ => (8 - intOf k).toNat)
  case atStart => exact ⟨0, A, n, c, l, by omega, rfl, rfl, hc, hc2, hn, h, by simp, Below.refl _ _⟩
  case round =>
  obtain ⟨j, A1, n1, c1, l1, hj, rfl, rfl, hc1, hcm1, hn1, hby, hd, hB⟩ := hrel
  by_cases hj8 : j = 8
  · subst hj8
    have e1 : depthF 8 l = 8 := by rw [hd]; simp [depthF]
    replace e1 := Lib.hid e1
    replace hd := Lib.hid hd
    go_wp2_with fail
    rw [Exit.noGoto_ret]
    go_ret
    exact ⟨ret_int (by rw [e1.out]), hB⟩
  have hji : (j : Int) < 8 := by omega
  have e8 : depthF (8 - j) l1 = if unwE l1 = 0 then depthF (8 - (j + 1)) (unwL l1) + 1 else 0 := by
    rw [show 8 - j = (8 - (j + 1)) + 1 from by omega]; rfl
  by_cases hu : unwE l1 = 0
  · rw [if_pos hu] at e8
    have hfin : depthF 8 l = j + 1 + depthF (8 - (j + 1)) (unwL l1) := by rw [hd, e8]; omega
    replace hfin := Lib.hid hfin
    replace hd := Lib.hid hd
    replace e8 := Lib.hid e8
    go_wp2_with fail
    refine (unwrap_yes wr A1 n1 c1 l1 hby hc1 hcm1 hn1 hu).mono ?_
    rintro e w1 ⟨v, Ao1, co1, rfl, own, _, hb1⟩
    have hul := unwL_lenE hu
    have hul2 := unwL_len l1
    obtain ⟨A2, c2, rfl, hc2', hcm2, hby2, _⟩ := own.any2
    rw [← hul] at hc2' hby2 ⊢
    replace hul := Lib.hid hul
    replace hu := Lib.hid hu
    clear own
    go_wp2_with fail
    refine ⟨⟨j + 1, A2, _, c2, unwL l1, by omega, by go_num, rfl, hc2', hcm2, by omega, (hby2.alloc (Nat.le_refl _) _).more (by simp), hfin.out, hB.trans ((hb1.alloc hb1.size _).mono hB.size)⟩, by simp [intOf]; omega⟩
  · rw [if_neg hu] at e8
    have hfin : depthF 8 l = j := by rw [hd, e8]; omega
    replace hfin := Lib.hid hfin
    replace hd := Lib.hid hd
    replace e8 := Lib.hid e8
    have hb : (unwE l1 != 0) = true := by simpa using hu
    go_wp2_with fail
    refine (unwrap_no wr A1 n1 c1 l1 hby hc1 hcm1 hn1 hu).mono ?_
    rintro e w1 ⟨rfl, hb1⟩
    unfold zCs
    replace hu := Lib.hid hu
    go_wp2_with fail
    rw [Exit.noGoto_ret]
    go_ret
    exact ⟨ret_int (by rw [hfin.out]), hB.trans ((hb1.alloc hb1.size _).mono hB.size)⟩

/-- a packet of nothing, and that within another. -/
theorem udp_len {s d sp dp : Int} {pl : List UInt8} (hg : goodF 17 sp dp = true) (hm : pl.length ≤ 8972) : (udpL s d sp dp pl).length = 28 + pl.length ∧ udpL s d sp dp pl = buildL 0 0 0 0 64 17 s d [] (setAt (udpB sp dp pl) 6 (be (sentV 17 s d (udpB sp dp pl)) 2)) := by
  have hl := udpB_len sp dp pl
  have e : udpL s d sp dp pl = buildL 0 0 0 0 64 17 s d [] (setAt (udpB sp dp pl) 6 (be (sentV 17 s d (udpB sp dp pl)) 2)) := by
    unfold udpL pktL
    rw [if_pos ⟨hg, by omega⟩]
  refine ⟨?_, e⟩
  rw [e, buildL_len (by decide) (by rw [setAt_len _ _ _ (by rw [be_len]; omega)]; simp; omega), setAt_len _ _ _ (by rw [be_len]; omega)]
  simp; omega
theorem udp_long {s d sp dp : Int} {pl : List UInt8} (hm : 8972 < pl.length) : udpL s d sp dp pl = [] := by
  have hl := udpB_len sp dp pl
  unfold udpL pktL
  by_cases h : goodF 17 sp dp = true ∧ (udpB sp dp pl).length ≤ 9000
  · rw [if_pos h]
    refine buildL_no ?_
    rw [setAt_len _ _ _ (by rw [be_len]; omega)]
    simp; omega
  · rw [if_neg h]
theorem udp_built {s d sp dp : Int} {pl : List UInt8} (hg : goodF 17 sp dp = true) (hm : pl.length ≤ 8972) (s0 : 0 ≤ s) (s1 : s ≤ 4294967295) (d0 : 0 ≤ d) (d1 : d ≤ 4294967295) :
    Built 0 0 0 0 64 17 s d [] (setAt (udpB sp dp pl) 6 (be (sentV 17 s d (udpB sp dp pl)) 2)) (udpL s d sp dp pl) := by
  have hl := udpB_len sp dp pl
  rw [(udp_len hg hm).2]
  exact parse_build0 0 0 0 0 64 17 s d [] _ (by decide) (by rw [setAt_len _ _ _ (by rw [be_len]; omega)]; simp; omega) s0 s1 d0 d1
/-- a wrapped packet, and what is behind it. -/
theorem wrap_built {l : List UInt8} (h : errV l = 0) (hl : lnK l ≤ 8980) (s d : Int) (s0 : 0 ≤ s) (s1 : s ≤ 4294967295) (d0 : 0 ≤ d) (d1 : d ≤ 4294967295) (tl : List UInt8) :
    (wrapL l s d).length = 20 + (lnK l).toNat ∧ Built (fT l) (fI l) (flagW l) 0 64 4 s d [] (l.take (lnK l).toNat) (wrapL l s d ++ tl) := by
  have hg := wrap_good h
  have ht := take_ln_len h
  have e : wrapL l s d = buildL (fT l) (fI l) (flagW l) 0 64 4 s d [] (l.take (lnK l).toNat) := if_neg (by simpa using h)
  rw [e]
  have hle : (l.take (lnK l).toNat).length + ([] : List UInt8).length ≤ 8980 := by rw [ht]; simp; omega
  refine ⟨by rw [buildL_len hg hle, ht]; simp, parse_build _ _ _ _ _ _ _ _ _ _ tl hg hle s0 s1 d0 d1⟩
/-- what is looked at of a packet is its own bytes alone. -/
theorem take_err {l : List UInt8} (h : errV l = 0) : errV (l.take (lnK l).toNat) = 0 ∧ lnK (l.take (lnK l).toNat) = lnK l := by
  obtain ⟨e1, e2, e3, e4, e5, e6, e7, e8⟩ := errV_ok h
  have hlen := take_ln_len h
  have h0 : byAt (l.take (lnK l).toNat) 0 = byAt l 0 := byAt_take _ _ _ (by omega)
  have h2 : byAt (l.take (lnK l).toNat) 2 = byAt l 2 := byAt_take _ _ _ (by omega)
  have h3 : byAt (l.take (lnK l).toNat) 3 = byAt l 3 := byAt_take _ _ _ (by omega)
  have hs : szK (l.take (lnK l).toNat) = szK l := by unfold szK; rw [h0]
  have hn : lnK (l.take (lnK l).toNat) = lnK l := by show 256 * byAt (l.take (lnK l).toNat) 2 + byAt (l.take (lnK l).toNat) 3 = 256 * byAt l 2 + byAt l 3; rw [h2, h3]
  refine ⟨?_, hn⟩
  rw [errV_5 (by omega) (by rw [h0]; exact e2) (by rw [hs]; exact e3) (by rw [hs, hlen]; omega) (by rw [hn, hlen]; omega) (by rw [hs, hn]; exact e6) (by rw [hn]; exact e7), hs, List.take_take, Nat.min_eq_left (by omega), e8]
  rfl
theorem wrap_unw {l : List UInt8} (h : errV l = 0) (hl : lnK l ≤ 8980) (s d : Int) (s0 : 0 ≤ s) (s1 : s ≤ 4294967295) (d0 : 0 ≤ d) (d1 : d ≤ 4294967295) (tl : List UInt8) :
    unwE (wrapL l s d ++ tl) = 0 ∧ unwL (wrapL l s d ++ tl) = l.take (lnK l).toNat := by
  obtain ⟨_, b⟩ := wrap_built h hl s d s0 s1 d0 d1 tl
  obtain ⟨t1, t2⟩ := take_err h
  have hfl : flagW l % 2 = 0 := by
    unfold flagW
    have e : bits .and .i64 (fF l) 2 = ((BitVec.ofInt 64 (fF l) &&& BitVec.ofInt 64 2).toNat : Int) := by
      show IntKind.i64.wrap ((BitVec.ofInt 64 (fF l) &&& BitVec.ofInt 64 2).toNat : Int) = _
      have h : (BitVec.ofInt 64 (fF l) &&& BitVec.ofInt 64 2).toNat ≤ 2 := by rw [BitVec.toNat_and]; exact Nat.and_le_right
      rw [IntKind.wrap_i64]; omega
    have h2 : (BitVec.ofInt 64 (fF l) &&& BitVec.ofInt 64 2).toNat % 2 = 0 := by
      rw [BitVec.toNat_and, show (BitVec.ofInt 64 2).toNat = 2 from by decide]
      have := Nat.and_mod_two_pow (a := (BitVec.ofInt 64 (fF l)).toNat) (b := 2) (n := 1)
      simpa using this
    omega
  have hu : unwE (wrapL l s d ++ tl) = 0 := by
    unfold unwE
    rw [if_neg (by simpa using b.err), if_neg (by rw [b.p_]; simp), if_neg (by rw [b.g_, b.f_, hfl]; simp), b.pl_, t1]
  refine ⟨hu, ?_⟩
  unfold unwL
  rw [if_pos hu, b.pl_, t2, List.take_take, Nat.min_self]
end Go.Proofs.Ytnjbnnceeecekaa
