/- ip: what was built is parsed as it was: plain. ip: IpGoesOn, the walk. -/
import Derived.Test.YthbfnppgaaeilaaDoorIpS
import Derived.Test.YthbfnppgaaeilaaDoorChk
namespace Go.Proofs.YthbfnppgaaeilaaDoor
set_option linter.unusedVariables false
open Go.RowKit

theorem refL_ex (t i f g u p s d : Int) (n : Nat) (N S : Int) (hN : 0 ≤ N) (hN2 : N ≤ 9000) (i0 : 0 ≤ i) (i1 : i ≤ 65535) (S0 : 0 ≤ S) (S1 : S ≤ 65535) :
    refL t i f g u p s d n N S = [byOf (64 + (20 + (n : Int)) / 4), byOf (t), byOf (N / 256), byOf (N), byOf (i / 256), byOf (i), byOf ((f * 8192 + g) / 256), byOf ((f * 8192 + g)), byOf (u), byOf (p), byOf (S / 256), byOf (S), byOf (s / 16777216), byOf (s / 65536), byOf (s / 256), byOf (s), byOf (d / 16777216), byOf (d / 65536), byOf (d / 256), byOf (d)] := by
  unfold refL
  rw [Int.emod_eq_of_lt (a := N) hN (by omega), Int.emod_eq_of_lt (a := i) i0 (by omega), Int.emod_eq_of_lt (a := S) S0 (by omega)]
  simp [be]
theorem csum_sealed (t i f g u p s d : Int) (n : Nat) (N : Int) (o : List UInt8) (hN : 0 ≤ N) (hN2 : N ≤ 9000) (i0 : 0 ≤ i) (i1 : i ≤ 65535) :
    csum (refL t i f g u p s d n N (65535 - csum (refL t i f g u p s d n N 0 ++ o)) ++ o) = 65535 := by
  have c1 := csum_lo (refL t i f g u p s d n N 0 ++ o)
  have c2 := csum_hi (refL t i f g u p s d n N 0 ++ o)
  generalize hS : 65535 - csum (refL t i f g u p s d n N 0 ++ o) = S at *
  have hlen : 2 * 5 + 1 < (refL t i f g u p s d n N 0 ++ o).length := by rw [List.length_append, refL_len]; omega
  have hw : wordAt (refL t i f g u p s d n N 0 ++ o) 5 = 0 := by
    rw [refL_ex _ _ _ _ _ _ _ _ _ _ _ hN hN2 i0 i1 (by omega) (by omega)]; simp [wordAt, byAt, byOf]
  have hp : refL t i f g u p s d n N S ++ o = putW (refL t i f g u p s d n N 0 ++ o) 5 (S / 256) (S % 256) := by
    rw [refL_ex _ _ _ _ _ _ _ _ _ _ _ hN hN2 i0 i1 (by omega) (by omega), refL_ex _ _ _ _ _ _ _ _ _ _ _ hN hN2 i0 i1 (by omega) (by omega)]
    have e : byOf (S % 256) = byOf S := by unfold byOf; rw [Int.emod_emod]
    unfold putW
    rw [e]
    rfl
  have hc := csum_word (refL t i f g u p s d n N 0 ++ o) 5 hlen
  rw [hw, Int.add_zero] at hc
  rw [hp, csum_put _ 5 _ _ hlen (by omega) (by omega) (by omega) (by omega)]
  have hr := rest_lo (refL t i f g u p s d n N 0 ++ o) 5 hlen
  have := seal_good _ hr
  rw [← hc] at this
  rw [show S / 256 * 256 + S % 256 = S from by omega, ← hS]
  exact this
/-- a packet that was built, and bytes behind it. -/
structure Built (t i f g u p s d : Int) (o pl : List UInt8) (l : List UInt8) : Prop where
  err : errV l = 0
  sz : (szK l).toNat = 20 + o.length
  ln : (lnK l).toNat = 20 + o.length + pl.length
  t_ : fT l = t
  i_ : fI l = i
  f_ : fF l = f
  g_ : fG l = g
  u_ : fL l = u
  p_ : fP l = p
  s_ : fS l = s
  d_ : fD l = d
  o_ : optL l = o
  pl_ : payL l = pl
set_option maxHeartbeats 2000000 in
theorem parse_build (t i f g u p s d : Int) (o pl tl : List UInt8) (hg : goodH t i f g u p o.length = true) (hm : pl.length + o.length ≤ 8980) (s0 : 0 ≤ s) (s1 : s ≤ 4294967295) (d0 : 0 ≤ d) (d1 : d ≤ 4294967295) :
    Built t i f g u p s d o pl (buildL t i f g u p s d o pl ++ tl) := by
  have hb : 0 ≤ t ∧ t ≤ 255 ∧ 0 ≤ u ∧ u ≤ 255 ∧ 0 ≤ p ∧ p ≤ 255 ∧ 0 ≤ i ∧ i ≤ 65535 ∧ 0 ≤ f ∧ f ≤ 7 ∧ 0 ≤ g ∧ g ≤ 8191 ∧ o.length ≤ 40 ∧ o.length % 4 = 0 := by
    have h2 := hg
    simp only [goodH, inH, Bool.and_eq_true, decide_eq_true_eq] at h2; omega
  obtain ⟨t0, t1, u0, u1, p0, p1, i0, i1, f0, f1, g0, g1, o0, o1⟩ := hb
  rw [buildL_yes hg hm]
  have c1 := csum_lo (refL t i f g u p s d o.length (20 + o.length + pl.length) 0 ++ o)
  have c2 := csum_hi (refL t i f g u p s d o.length (20 + o.length + pl.length) 0 ++ o)
  have hcs := csum_sealed t i f g u p s d o.length (20 + o.length + pl.length) o (by omega) (by omega) i0 i1
  obtain ⟨S, hSe⟩ : ∃ S, S = 65535 - csum (refL t i f g u p s d o.length (20 + o.length + pl.length) 0 ++ o) := ⟨_, rfl⟩
  rw [← hSe] at hcs ⊢
  have hN0 : (0 : Int) ≤ 20 + o.length + pl.length := by omega
  have hN1 : (20 : Int) + o.length + pl.length ≤ 9000 := by omega
  have hS : 0 ≤ S ∧ S ≤ 65535 := by omega
  clear hSe c1 c2
  rw [refL_ex _ _ _ _ _ _ _ _ _ _ _ hN0 hN1 i0 i1 hS.1 hS.2] at hcs ⊢
  generalize hN : (20 : Int) + o.length + pl.length = N at *
  have v0 := byOf_val (64 + (20 + (o.length : Int)) / 4)
  generalize byOf (64 + (20 + (o.length : Int)) / 4) = x0 at *
  have v1 := byOf_val (t)
  generalize byOf (t) = x1 at *
  have v2 := byOf_val (N / 256)
  generalize byOf (N / 256) = x2 at *
  have v3 := byOf_val (N)
  generalize byOf (N) = x3 at *
  have v4 := byOf_val (i / 256)
  generalize byOf (i / 256) = x4 at *
  have v5 := byOf_val (i)
  generalize byOf (i) = x5 at *
  have v6 := byOf_val ((f * 8192 + g) / 256)
  generalize byOf ((f * 8192 + g) / 256) = x6 at *
  have v7 := byOf_val ((f * 8192 + g))
  generalize byOf ((f * 8192 + g)) = x7 at *
  have v8 := byOf_val (u)
  generalize byOf (u) = x8 at *
  have v9 := byOf_val (p)
  generalize byOf (p) = x9 at *
  have v10 := byOf_val (S / 256)
  generalize byOf (S / 256) = x10 at *
  have v11 := byOf_val (S)
  generalize byOf (S) = x11 at *
  have v12 := byOf_val (s / 16777216)
  generalize byOf (s / 16777216) = x12 at *
  have v13 := byOf_val (s / 65536)
  generalize byOf (s / 65536) = x13 at *
  have v14 := byOf_val (s / 256)
  generalize byOf (s / 256) = x14 at *
  have v15 := byOf_val (s)
  generalize byOf (s) = x15 at *
  have v16 := byOf_val (d / 16777216)
  generalize byOf (d / 16777216) = x16 at *
  have v17 := byOf_val (d / 65536)
  generalize byOf (d / 65536) = x17 at *
  have v18 := byOf_val (d / 256)
  generalize byOf (d / 256) = x18 at *
  have v19 := byOf_val (d)
  generalize byOf (d) = x19 at *
  have el : [x0, x1, x2, x3, x4, x5, x6, x7, x8, x9, x10, x11, x12, x13, x14, x15, x16, x17, x18, x19] ++ o ++ pl ++ tl = x0 :: x1 :: x2 :: x3 :: x4 :: x5 :: x6 :: x7 :: x8 :: x9 :: x10 :: x11 :: x12 :: x13 :: x14 :: x15 :: x16 :: x17 :: x18 :: x19 :: (o ++ pl ++ tl) := by simp
  rw [el]
  have hsz : szK (x0 :: x1 :: x2 :: x3 :: x4 :: x5 :: x6 :: x7 :: x8 :: x9 :: x10 :: x11 :: x12 :: x13 :: x14 :: x15 :: x16 :: x17 :: x18 :: x19 :: (o ++ pl ++ tl)) = ((o.length + 20 : Nat) : Int) := by rw [szK_ex]; omega
  have hln : lnK (x0 :: x1 :: x2 :: x3 :: x4 :: x5 :: x6 :: x7 :: x8 :: x9 :: x10 :: x11 :: x12 :: x13 :: x14 :: x15 :: x16 :: x17 :: x18 :: x19 :: (o ++ pl ++ tl)) = ((o.length + pl.length + 20 : Nat) : Int) := by rw [lnK_ex]; omega
  have ht : (x0 :: x1 :: x2 :: x3 :: x4 :: x5 :: x6 :: x7 :: x8 :: x9 :: x10 :: x11 :: x12 :: x13 :: x14 :: x15 :: x16 :: x17 :: x18 :: x19 :: (o ++ pl ++ tl)).take (o.length + 20) = x0 :: x1 :: x2 :: x3 :: x4 :: x5 :: x6 :: x7 :: x8 :: x9 :: x10 :: x11 :: x12 :: x13 :: x14 :: x15 :: x16 :: x17 :: x18 :: x19 :: o := by
    have : (x0 :: x1 :: x2 :: x3 :: x4 :: x5 :: x6 :: x7 :: x8 :: x9 :: x10 :: x11 :: x12 :: x13 :: x14 :: x15 :: x16 :: x17 :: x18 :: x19 :: (o ++ pl ++ tl)).take (o.length + 20) = x0 :: x1 :: x2 :: x3 :: x4 :: x5 :: x6 :: x7 :: x8 :: x9 :: x10 :: x11 :: x12 :: x13 :: x14 :: x15 :: x16 :: x17 :: x18 :: x19 :: (o ++ pl ++ tl).take o.length := rfl
    rw [this, List.append_assoc, List.take_left]
  have hdr : (x0 :: x1 :: x2 :: x3 :: x4 :: x5 :: x6 :: x7 :: x8 :: x9 :: x10 :: x11 :: x12 :: x13 :: x14 :: x15 :: x16 :: x17 :: x18 :: x19 :: (o ++ pl ++ tl)).drop (o.length + 20) = pl ++ tl := by
    have : (x0 :: x1 :: x2 :: x3 :: x4 :: x5 :: x6 :: x7 :: x8 :: x9 :: x10 :: x11 :: x12 :: x13 :: x14 :: x15 :: x16 :: x17 :: x18 :: x19 :: (o ++ pl ++ tl)).drop (o.length + 20) = (o ++ pl ++ tl).drop o.length := rfl
    rw [this, List.append_assoc, List.drop_left]
  have hlen : (x0 :: x1 :: x2 :: x3 :: x4 :: x5 :: x6 :: x7 :: x8 :: x9 :: x10 :: x11 :: x12 :: x13 :: x14 :: x15 :: x16 :: x17 :: x18 :: x19 :: (o ++ pl ++ tl)).length = o.length + pl.length + tl.length + 20 := by simp; omega
  have e1 : [x0, x1, x2, x3, x4, x5, x6, x7, x8, x9, x10, x11, x12, x13, x14, x15, x16, x17, x18, x19] ++ o = x0 :: x1 :: x2 :: x3 :: x4 :: x5 :: x6 :: x7 :: x8 :: x9 :: x10 :: x11 :: x12 :: x13 :: x14 :: x15 :: x16 :: x17 :: x18 :: x19 :: o := by simp
  rw [e1] at hcs
  have hby : byAt (x0 :: x1 :: x2 :: x3 :: x4 :: x5 :: x6 :: x7 :: x8 :: x9 :: x10 :: x11 :: x12 :: x13 :: x14 :: x15 :: x16 :: x17 :: x18 :: x19 :: (o ++ pl ++ tl)) 0 / 16 = 4 := by
    have : byAt (x0 :: x1 :: x2 :: x3 :: x4 :: x5 :: x6 :: x7 :: x8 :: x9 :: x10 :: x11 :: x12 :: x13 :: x14 :: x15 :: x16 :: x17 :: x18 :: x19 :: (o ++ pl ++ tl)) 0 = (x0.toNat : Int) := rfl
    rw [this]; omega
  have he : errV (x0 :: x1 :: x2 :: x3 :: x4 :: x5 :: x6 :: x7 :: x8 :: x9 :: x10 :: x11 :: x12 :: x13 :: x14 :: x15 :: x16 :: x17 :: x18 :: x19 :: (o ++ pl ++ tl)) = 0 := by
    rw [errV_5 (by omega) hby (by omega) (by rw [hsz, hlen]; omega) (by rw [hln, hlen]; omega) (by omega) (by omega), hsz, Int.toNat_natCast, ht, hcs]
    rfl
  generalize hL : (x0 :: x1 :: x2 :: x3 :: x4 :: x5 :: x6 :: x7 :: x8 :: x9 :: x10 :: x11 :: x12 :: x13 :: x14 :: x15 :: x16 :: x17 :: x18 :: x19 :: (o ++ pl ++ tl)) = L at *
  have hh : hdL L = x0 :: x1 :: x2 :: x3 :: x4 :: x5 :: x6 :: x7 :: x8 :: x9 :: x10 :: x11 :: x12 :: x13 :: x14 :: x15 :: x16 :: x17 :: x18 :: x19 :: o := by unfold hdL; rw [hsz, Int.toNat_natCast, ht]
  refine ⟨he, by rw [hsz]; omega, by rw [hln]; omega, ?_, ?_, ?_, ?_, ?_, ?_, ?_, ?_, ?_, ?_⟩
  · unfold fT; rw [if_pos he, hh, pT_ex]; omega
  · unfold fI; rw [if_pos he, hh, pI_ex]; omega
  · unfold fF; rw [if_pos he, hh, pW_ex]; omega
  · unfold fG; rw [if_pos he, hh, pW_ex]; omega
  · unfold fL; rw [if_pos he, hh, pL_ex]; omega
  · unfold fP; rw [if_pos he, hh, pP_ex]; omega
  · unfold fS; rw [if_pos he, hh, pS_ex]; omega
  · unfold fD; rw [if_pos he, hh, pD_ex]; omega
  · unfold optL; rw [if_pos he, hh]; rfl
  · unfold payL
    rw [if_pos he, hsz, hln, Int.toNat_natCast, Int.toNat_natCast, hdr, show o.length + pl.length + 20 - (o.length + 20) = pl.length from by omega, List.take_left]
end Go.Proofs.YthbfnppgaaeilaaDoor

namespace Go.Proofs.YthbfnppgaaeilaaDoor
set_option linter.unusedVariables false
open Go.RowKit

theorem goodH_ttl {t i f g l p l' : Int} {n : Nat} (h : goodH t i f g l p n = true) (h0 : 0 ≤ l') (h1 : l' ≤ 255) : goodH t i f g l' p n = true := by
  simp only [goodH, inH, Bool.and_eq_true, decide_eq_true_eq] at h ⊢; omega
theorem fwdE_built {t i f g u p s d : Int} {o pl l : List UInt8} (b : Built t i f g u p s d o pl l) : fwdE l = if u ≤ 1 then 9 else 0 := by
  unfold fwdE
  rw [if_neg (by simpa using b.err), ← fL_by b.err, b.u_]
theorem fwdL_built {t i f g u p s d : Int} {o pl l : List UInt8} (b : Built t i f g u p s d o pl l) (h : 1 < u) : fwdL l = buildL t i f g (u - 1) p s d o pl := by
  unfold fwdL
  rw [if_neg (by simpa using b.err), ← fL_by b.err, b.u_, if_neg (by omega), b.t_, b.i_, b.f_, b.g_, b.p_, b.s_, b.d_, b.o_, b.pl_]
theorem rewL_built {t i f g u p s d : Int} {o pl l : List UInt8} (b : Built t i f g u p s d o pl l) (dst : Int) : rewL l dst = buildL t i f g u p s dst o pl := by
  unfold rewL
  rw [if_neg (by simpa using b.err), b.t_, b.i_, b.f_, b.g_, b.u_, b.p_, b.s_, b.o_, b.pl_]
theorem parsed_built {t i f g u p s d : Int} {o pl l : List UInt8} (b : Built t i f g u p s d o pl l) (vo vp : Value) :
    parsed l vo vp = .tuple #[.agg #[.int .i64 t, .int .i64 i, .int .i64 f, .int .i64 g, .int .i64 u, .int .i64 p, .int .u32 s, .int .u32 d, vo], vp, .int .i64 0] := by
  unfold parsed
  rw [b.err, b.t_, b.i_, b.f_, b.g_, b.u_, b.p_, b.s_, b.d_]
theorem parse_build0 (t i f g u p s d : Int) (o pl : List UInt8) (hg : goodH t i f g u p o.length = true) (hm : pl.length + o.length ≤ 8980) (s0 : 0 ≤ s) (s1 : s ≤ 4294967295) (d0 : 0 ≤ d) (d1 : d ≤ 4294967295) :
    Built t i f g u p s d o pl (buildL t i f g u p s d o pl) := by
  have := parse_build t i f g u p s d o pl [] hg hm s0 s1 d0 d1
  rwa [List.append_nil] at this
/-- where the loop stands. -/
def GoesRel (w : World) (t i f g l p s d : Int) (A : Option Addr) (n c : Nat) (o pl : List UInt8) (b k : Value) (wr : World) : Prop :=
  ∃ (j : Nat) (B : Option Addr) (cb : Nat), (j : Int) ≤ 255 ∧ (j = 0 ∨ (j : Int) < l) ∧ k = .int .i64 j ∧ b = .slice B (20 + o.length + pl.length) cb ∧ 20 + o.length + pl.length ≤ cb ∧ cb ≤ maxLen ∧
    Byt wr wr.heap.size B (20 + o.length + pl.length) (buildL t i f g (l - j) p s d o pl) ∧ Below w.heap.size w wr ∧ Blk wr w.heap.size 83 (hdrCs t i f g l p s d A n c)
end Go.Proofs.YthbfnppgaaeilaaDoor
