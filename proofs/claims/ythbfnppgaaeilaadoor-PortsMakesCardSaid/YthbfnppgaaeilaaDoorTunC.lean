/- tunnel: Is, Depth, the document's examples. -/
import Derived.Test.YthbfnppgaaeilaaDoorTunB
namespace Go.Proofs.YthbfnppgaaeilaaDoor
set_option linter.unusedVariables false
open Go.RowKit

def depthF : Nat → List UInt8 → Nat
  | 0, _ => 0
  | n + 1, l => if unwE l = 0 then depthF n (unwL l) + 1 else 0
theorem depthF_le (n : Nat) (l : List UInt8) : depthF n l ≤ n := by
  induction n generalizing l with
  | zero => exact Nat.le_refl _
  | succ n ih => unfold depthF; split; have := ih (unwL l); omega; omega
theorem unwL_len (l : List UInt8) : (unwL l).length ≤ 9000 := by
  have := payL_len l
  unfold unwL; split
  · rw [List.length_take]; omega
  · exact Nat.zero_le _
theorem unwL_lenE {l : List UInt8} (h : unwE l = 0) : (unwL l).length = (lnK (payL l)).toNat := by
  unfold unwL; rw [if_pos h]; exact take_ln_len (unwE_ok h).2.2.2.2
def DepRel (w : World) (l : List UInt8) (b k : Value) (wr : World) : Prop :=
  ∃ (j : Nat) (A : Option Addr) (n c : Nat) (l' : List UInt8), j ≤ 8 ∧ k = .int .i64 j ∧ b = .slice A n c ∧ n ≤ c ∧ c ≤ maxLen ∧ n ≤ 10000000 ∧ Byt wr wr.heap.size A n l' ∧ depthF 8 l = j + depthF (8 - j) l' ∧ Below w.heap.size w wr
/-- a packet of nothing, and that within another. -/
theorem udp_len {s d sp dp : Int} {pl : List UInt8} (hg : goodF 17 sp dp = true) (hm : pl.length ≤ 8972) : (udpL s d sp dp pl).length = 28 + pl.length ∧ udpL s d sp dp pl = buildL 0 0 0 0 64 17 s d [] (setAt (udpB sp dp pl) 6 (be (sentV 17 s d (udpB sp dp pl)) 2)) := by
  have hl := udpB_len sp dp pl
  have e : udpL s d sp dp pl = buildL 0 0 0 0 64 17 s d [] (setAt (udpB sp dp pl) 6 (be (sentV 17 s d (udpB sp dp pl)) 2)) := by
    unfold udpL pktL
    rw [if_pos ⟨hg, by omega⟩]
  refine ⟨?_, e⟩
  rw [e, buildL_len (by decide) (by rw [setAt_len _ _ _ (by rw [be_len]; omega)]; simp; omega), setAt_len _ _ _ (by rw [be_len]; omega)]
  simp; omega
theorem udp_long {s d sp dp : Int} {pl : List UInt8} (hm : 8972 < pl.length) : udpL s d sp dp pl = [] := by
  have hl := udpB_len sp dp pl
  unfold udpL pktL
  by_cases h : goodF 17 sp dp = true ∧ (udpB sp dp pl).length ≤ 9000
  · rw [if_pos h]
    refine buildL_no ?_
    rw [setAt_len _ _ _ (by rw [be_len]; omega)]
    simp; omega
  · rw [if_neg h]
theorem udp_built {s d sp dp : Int} {pl : List UInt8} (hg : goodF 17 sp dp = true) (hm : pl.length ≤ 8972) (s0 : 0 ≤ s) (s1 : s ≤ 4294967295) (d0 : 0 ≤ d) (d1 : d ≤ 4294967295) :
    Built 0 0 0 0 64 17 s d [] (setAt (udpB sp dp pl) 6 (be (sentV 17 s d (udpB sp dp pl)) 2)) (udpL s d sp dp pl) := by
  have hl := udpB_len sp dp pl
  rw [(udp_len hg hm).2]
  exact parse_build0 0 0 0 0 64 17 s d [] _ (by decide) (by rw [setAt_len _ _ _ (by rw [be_len]; omega)]; simp; omega) s0 s1 d0 d1
/-- a wrapped packet, and what is behind it. -/
theorem wrap_built {l : List UInt8} (h : errV l = 0) (hl : lnK l ≤ 8980) (s d : Int) (s0 : 0 ≤ s) (s1 : s ≤ 4294967295) (d0 : 0 ≤ d) (d1 : d ≤ 4294967295) (tl : List UInt8) :
    (wrapL l s d).length = 20 + (lnK l).toNat ∧ Built (fT l) (fI l) (flagW l) 0 64 4 s d [] (l.take (lnK l).toNat) (wrapL l s d ++ tl) := by
  have hg := wrap_good h
  have ht := take_ln_len h
  have e : wrapL l s d = buildL (fT l) (fI l) (flagW l) 0 64 4 s d [] (l.take (lnK l).toNat) := if_neg (by simpa using h)
  rw [e]
  have hle : (l.take (lnK l).toNat).length + ([] : List UInt8).length ≤ 8980 := by rw [ht]; simp; omega
  refine ⟨by rw [buildL_len hg hle, ht]; simp, parse_build _ _ _ _ _ _ _ _ _ _ tl hg hle s0 s1 d0 d1⟩
/-- what is looked at of a packet is its own bytes alone. -/
theorem take_err {l : List UInt8} (h : errV l = 0) : errV (l.take (lnK l).toNat) = 0 ∧ lnK (l.take (lnK l).toNat) = lnK l := by
  obtain ⟨e1, e2, e3, e4, e5, e6, e7, e8⟩ := errV_ok h
  have hlen := take_ln_len h
  have h0 : byAt (l.take (lnK l).toNat) 0 = byAt l 0 := byAt_take _ _ _ (by omega)
  have h2 : byAt (l.take (lnK l).toNat) 2 = byAt l 2 := byAt_take _ _ _ (by omega)
  have h3 : byAt (l.take (lnK l).toNat) 3 = byAt l 3 := byAt_take _ _ _ (by omega)
  have hs : szK (l.take (lnK l).toNat) = szK l := by unfold szK; rw [h0]
  have hn : lnK (l.take (lnK l).toNat) = lnK l := by show 256 * byAt (l.take (lnK l).toNat) 2 + byAt (l.take (lnK l).toNat) 3 = 256 * byAt l 2 + byAt l 3; rw [h2, h3]
  refine ⟨?_, hn⟩
  rw [errV_5 (by omega) (by rw [h0]; exact e2) (by rw [hs]; exact e3) (by rw [hs, hlen]; omega) (by rw [hn, hlen]; omega) (by rw [hs, hn]; exact e6) (by rw [hn]; exact e7), hs, List.take_take, Nat.min_eq_left (by omega), e8]
  rfl
theorem wrap_unw {l : List UInt8} (h : errV l = 0) (hl : lnK l ≤ 8980) (s d : Int) (s0 : 0 ≤ s) (s1 : s ≤ 4294967295) (d0 : 0 ≤ d) (d1 : d ≤ 4294967295) (tl : List UInt8) :
    unwE (wrapL l s d ++ tl) = 0 ∧ unwL (wrapL l s d ++ tl) = l.take (lnK l).toNat := by
  obtain ⟨_, b⟩ := wrap_built h hl s d s0 s1 d0 d1 tl
  obtain ⟨t1, t2⟩ := take_err h
  have hfl : flagW l % 2 = 0 := by
    unfold flagW
    have e : bits .and .i64 (fF l) 2 = ((BitVec.ofInt 64 (fF l) &&& BitVec.ofInt 64 2).toNat : Int) := by
      show IntKind.i64.wrap ((BitVec.ofInt 64 (fF l) &&& BitVec.ofInt 64 2).toNat : Int) = _
      have h : (BitVec.ofInt 64 (fF l) &&& BitVec.ofInt 64 2).toNat ≤ 2 := by rw [BitVec.toNat_and]; exact Nat.and_le_right
      rw [IntKind.wrap_i64]; omega
    have h2 : (BitVec.ofInt 64 (fF l) &&& BitVec.ofInt 64 2).toNat % 2 = 0 := by
      rw [BitVec.toNat_and, show (BitVec.ofInt 64 2).toNat = 2 from by decide]
      have := Nat.and_mod_two_pow (a := (BitVec.ofInt 64 (fF l)).toNat) (b := 2) (n := 1)
      simpa using this
    omega
  have hu : unwE (wrapL l s d ++ tl) = 0 := by
    unfold unwE
    rw [if_neg (by simpa using b.err), if_neg (by rw [b.p_]; simp), if_neg (by rw [b.g_, b.f_, hfl]; simp), b.pl_, t1]
  refine ⟨hu, ?_⟩
  unfold unwL
  rw [if_pos hu, b.pl_, t2, List.take_take, Nat.min_self]
end Go.Proofs.YthbfnppgaaeilaaDoor
