/- ip: a packet that is cut; a packet of which one byte of the head is another: plain. -/
import Derived.Test.YtlkammmadchjnaaIpW
namespace Go.Proofs.Ytlkammmadchjnaa
set_option linter.unusedVariables false
open Go.RowKit

theorem cut_short {t i f g u p s d : Int} {o pl L : List UInt8} (b : Built t i f g u p s d o pl L) (hl : L.length = 20 + o.length + pl.length) (c : Nat) (hc : c < L.length) : errV (L.take c) = 3 := by
  obtain ⟨e1, e2, e3, e4, e5, e6, e7, e8⟩ := errV_ok b.err
  have hlen : (L.take c).length = c := by rw [List.length_take]; omega
  have hsz := b.sz
  have hln := b.ln
  by_cases h : c < 20
  · exact errV_1 (by omega)
  · have h0 : byAt (L.take c) 0 = byAt L 0 := byAt_take _ _ _ (by omega)
    have h2 : byAt (L.take c) 2 = byAt L 2 := byAt_take _ _ _ (by omega)
    have h3 : byAt (L.take c) 3 = byAt L 3 := byAt_take _ _ _ (by omega)
    have hs : szK (L.take c) = szK L := by unfold szK; rw [h0]
    have hn : lnK (L.take c) = lnK L := by unfold lnK; rw [h2, h3]
    refine errV_3 (by omega) (by rw [h0]; exact e2) (by rw [hs]; exact e3) (.inr ?_)
    rw [hn, hlen]; omega
theorem fold_same (R a b : Int) (hR : 0 ≤ R) (a0 : 0 ≤ a) (a1 : a ≤ 65535) (b0 : 0 ≤ b) (b1 : b ≤ 65535) (h1 : foldV (R + a) = 65535) (h2 : foldV (R + b) = 65535) : a = b ∨ a - b = 65535 ∨ b - a = 65535 := by
  unfold foldV at h1 h2
  split at h1 <;> split at h2 <;> omega
theorem sum_other (r : List UInt8) (b0 b1 b2 b3 b4 b5 b6 b7 b8 b9 b10 b11 b12 b13 b14 b15 b16 b17 b18 b19 y z : UInt8) (h1 : csum (b0 :: b1 :: b2 :: b3 :: b4 :: b5 :: b6 :: b7 :: b8 :: b9 :: b10 :: b11 :: b12 :: b13 :: b14 :: b15 :: b16 :: b17 :: b18 :: b19 :: r) = 65535) (h2 : csum (b0 :: b1 :: b2 :: b3 :: b4 :: b5 :: b6 :: b7 :: b8 :: b9 :: y :: z :: b12 :: b13 :: b14 :: b15 :: b16 :: b17 :: b18 :: b19 :: r) = 65535) : (y = b10 ∨ z ≠ b11) ∧ (z = b11 ∨ y ≠ b10) := by
  have hlen : 2 * 5 + 1 < (b0 :: b1 :: b2 :: b3 :: b4 :: b5 :: b6 :: b7 :: b8 :: b9 :: b10 :: b11 :: b12 :: b13 :: b14 :: b15 :: b16 :: b17 :: b18 :: b19 :: r).length := by simp
  have hp : b0 :: b1 :: b2 :: b3 :: b4 :: b5 :: b6 :: b7 :: b8 :: b9 :: y :: z :: b12 :: b13 :: b14 :: b15 :: b16 :: b17 :: b18 :: b19 :: r = putW (b0 :: b1 :: b2 :: b3 :: b4 :: b5 :: b6 :: b7 :: b8 :: b9 :: b10 :: b11 :: b12 :: b13 :: b14 :: b15 :: b16 :: b17 :: b18 :: b19 :: r) 5 y.toNat z.toNat := by
    unfold putW
    rw [byOf_nat, byOf_nat]
    rfl
  have hw : wordAt (b0 :: b1 :: b2 :: b3 :: b4 :: b5 :: b6 :: b7 :: b8 :: b9 :: b10 :: b11 :: b12 :: b13 :: b14 :: b15 :: b16 :: b17 :: b18 :: b19 :: r) 5 = (b10.toNat : Int) * 256 + b11.toNat := rfl
  have q1 := b10.toNat_lt; have q2 := b11.toNat_lt; have q3 := y.toNat_lt; have q4 := z.toNat_lt
  rw [csum_word _ 5 hlen, hw] at h1
  rw [hp, csum_put _ 5 _ _ hlen (by omega) (by omega) (by omega) (by omega)] at h2
  have hr := rest_lo (b0 :: b1 :: b2 :: b3 :: b4 :: b5 :: b6 :: b7 :: b8 :: b9 :: b10 :: b11 :: b12 :: b13 :: b14 :: b15 :: b16 :: b17 :: b18 :: b19 :: r) 5 hlen
  have := fold_same _ _ _ hr (by omega) (by omega) (by omega) (by omega) h1 h2
  constructor
  · by_cases e : z = b11
    · left; subst e; apply UInt8.toNat_inj.1; omega
    · exact .inr e
  · by_cases e : y = b10
    · left; subst e; apply UInt8.toNat_inj.1; omega
    · exact .inr e
/-- what a packet that may be is, of which the fields are known. -/
theorem known {t i f g u p s d : Int} {o pl : List UInt8} {x0 x1 x2 x3 x4 x5 x6 x7 x8 x9 x10 x11 x12 x13 x14 x15 x16 x17 x18 x19 : UInt8} {r : List UInt8} (he : errV (x0 :: x1 :: x2 :: x3 :: x4 :: x5 :: x6 :: x7 :: x8 :: x9 :: x10 :: x11 :: x12 :: x13 :: x14 :: x15 :: x16 :: x17 :: x18 :: x19 :: r) = 0)
    (ht : fT (x0 :: x1 :: x2 :: x3 :: x4 :: x5 :: x6 :: x7 :: x8 :: x9 :: x10 :: x11 :: x12 :: x13 :: x14 :: x15 :: x16 :: x17 :: x18 :: x19 :: r) = t) (hi : fI (x0 :: x1 :: x2 :: x3 :: x4 :: x5 :: x6 :: x7 :: x8 :: x9 :: x10 :: x11 :: x12 :: x13 :: x14 :: x15 :: x16 :: x17 :: x18 :: x19 :: r) = i) (hf : fF (x0 :: x1 :: x2 :: x3 :: x4 :: x5 :: x6 :: x7 :: x8 :: x9 :: x10 :: x11 :: x12 :: x13 :: x14 :: x15 :: x16 :: x17 :: x18 :: x19 :: r) = f) (hg : fG (x0 :: x1 :: x2 :: x3 :: x4 :: x5 :: x6 :: x7 :: x8 :: x9 :: x10 :: x11 :: x12 :: x13 :: x14 :: x15 :: x16 :: x17 :: x18 :: x19 :: r) = g) (hu : fL (x0 :: x1 :: x2 :: x3 :: x4 :: x5 :: x6 :: x7 :: x8 :: x9 :: x10 :: x11 :: x12 :: x13 :: x14 :: x15 :: x16 :: x17 :: x18 :: x19 :: r) = u) (hp : fP (x0 :: x1 :: x2 :: x3 :: x4 :: x5 :: x6 :: x7 :: x8 :: x9 :: x10 :: x11 :: x12 :: x13 :: x14 :: x15 :: x16 :: x17 :: x18 :: x19 :: r) = p) (hs : fS (x0 :: x1 :: x2 :: x3 :: x4 :: x5 :: x6 :: x7 :: x8 :: x9 :: x10 :: x11 :: x12 :: x13 :: x14 :: x15 :: x16 :: x17 :: x18 :: x19 :: r) = s) (hd : fD (x0 :: x1 :: x2 :: x3 :: x4 :: x5 :: x6 :: x7 :: x8 :: x9 :: x10 :: x11 :: x12 :: x13 :: x14 :: x15 :: x16 :: x17 :: x18 :: x19 :: r) = d)
    (ho : optL (x0 :: x1 :: x2 :: x3 :: x4 :: x5 :: x6 :: x7 :: x8 :: x9 :: x10 :: x11 :: x12 :: x13 :: x14 :: x15 :: x16 :: x17 :: x18 :: x19 :: r) = o) (hpl : payL (x0 :: x1 :: x2 :: x3 :: x4 :: x5 :: x6 :: x7 :: x8 :: x9 :: x10 :: x11 :: x12 :: x13 :: x14 :: x15 :: x16 :: x17 :: x18 :: x19 :: r) = pl) :
    (x0.toNat : Int) = 64 + (20 + (o.length : Int)) / 4 ∧ (x1.toNat : Int) = t ∧ 256 * (x2.toNat : Int) + x3.toNat = 20 + o.length + pl.length ∧ (x4.toNat : Int) * 256 + x5.toNat = i ∧ (x6.toNat : Int) * 256 + x7.toNat = f * 8192 + g ∧ (x8.toNat : Int) = u ∧ (x9.toNat : Int) = p ∧
      (((x12.toNat : Int) * 256 + x13.toNat) * 256 + x14.toNat) * 256 + x15.toNat = s ∧ (((x16.toNat : Int) * 256 + x17.toNat) * 256 + x18.toNat) * 256 + x19.toNat = d ∧ r.take o.length = o ∧ csum (x0 :: x1 :: x2 :: x3 :: x4 :: x5 :: x6 :: x7 :: x8 :: x9 :: x10 :: x11 :: x12 :: x13 :: x14 :: x15 :: x16 :: x17 :: x18 :: x19 :: o) = 65535 := by
  obtain ⟨e1, e2, e3, e4, e5, e6, e7, e8⟩ := errV_ok he
  rw [szK_ex, lnK_ex] at *
  have e2' : (x0.toNat : Int) / 16 = 4 := e2
  obtain ⟨m, hm⟩ : ∃ m : Nat, 4 * ((x0.toNat : Int) % 16) = ((m + 20 : Nat) : Int) := ⟨(4 * ((x0.toNat : Int) % 16)).toNat - 20, by omega⟩
  obtain ⟨q, hq⟩ : ∃ q : Nat, 256 * (x2.toNat : Int) + (x3.toNat : Int) = ((q + 20 : Nat) : Int) := ⟨(256 * (x2.toNat : Int) + (x3.toNat : Int)).toNat - 20, by omega⟩
  have hrl : q ≤ r.length := by rw [hq] at e5; simp at e5; omega
  have ek : (x0 :: x1 :: x2 :: x3 :: x4 :: x5 :: x6 :: x7 :: x8 :: x9 :: x10 :: x11 :: x12 :: x13 :: x14 :: x15 :: x16 :: x17 :: x18 :: x19 :: r).take (m + 20) = x0 :: x1 :: x2 :: x3 :: x4 :: x5 :: x6 :: x7 :: x8 :: x9 :: x10 :: x11 :: x12 :: x13 :: x14 :: x15 :: x16 :: x17 :: x18 :: x19 :: r.take m := rfl
  have ed : (x0 :: x1 :: x2 :: x3 :: x4 :: x5 :: x6 :: x7 :: x8 :: x9 :: x10 :: x11 :: x12 :: x13 :: x14 :: x15 :: x16 :: x17 :: x18 :: x19 :: r).drop (m + 20) = r.drop m := rfl
  have hh : hdL (x0 :: x1 :: x2 :: x3 :: x4 :: x5 :: x6 :: x7 :: x8 :: x9 :: x10 :: x11 :: x12 :: x13 :: x14 :: x15 :: x16 :: x17 :: x18 :: x19 :: r) = x0 :: x1 :: x2 :: x3 :: x4 :: x5 :: x6 :: x7 :: x8 :: x9 :: x10 :: x11 :: x12 :: x13 :: x14 :: x15 :: x16 :: x17 :: x18 :: x19 :: r.take m := by unfold hdL; rw [szK_ex, hm, Int.toNat_natCast, ek]
  unfold fT at ht; unfold fI at hi; unfold fF at hf; unfold fG at hg; unfold fL at hu; unfold fP at hp; unfold fS at hs; unfold fD at hd; unfold optL at ho; unfold payL at hpl
  rw [if_pos he, hh] at ht hi hf hg hu hp hs hd ho
  rw [if_pos he, szK_ex, lnK_ex, hm, hq, Int.toNat_natCast, Int.toNat_natCast, ed] at hpl
  rw [pT_ex] at ht; rw [pI_ex] at hi; rw [pW_ex] at hf hg; rw [pL_ex] at hu; rw [pP_ex] at hp; rw [pS_ex] at hs; rw [pD_ex] at hd
  have ho' : r.take m = o := ho
  have hol : o.length = m := by rw [← ho', List.length_take]; omega
  have hpl' : pl.length = q - m := by rw [← hpl, List.length_take, List.length_drop]; omega
  rw [hm, Int.toNat_natCast, ek, ho'] at e8
  have hmq : m ≤ q := by omega
  refine ⟨by omega, ht, by omega, hi, by omega, hu, hp, hs, hd, by rw [hol]; exact ho', e8⟩
theorem two_eq {a b c d : UInt8} (h : 256 * (a.toNat : Int) + b.toNat = 256 * (c.toNat : Int) + d.toNat) : a = c ∧ b = d := by
  have := a.toNat_lt; have := b.toNat_lt; have := c.toNat_lt; have := d.toNat_lt
  exact ⟨UInt8.toNat_inj.1 (by omega), UInt8.toNat_inj.1 (by omega)⟩
theorem four_eq {a b c d a' b' c' d' : UInt8} (h : (((a.toNat : Int) * 256 + b.toNat) * 256 + c.toNat) * 256 + d.toNat = (((a'.toNat : Int) * 256 + b'.toNat) * 256 + c'.toNat) * 256 + d'.toNat) : a = a' ∧ b = b' ∧ c = c' ∧ d = d' := by
  have := a.toNat_lt; have := b.toNat_lt; have := c.toNat_lt; have := d.toNat_lt
  have := a'.toNat_lt; have := b'.toNat_lt; have := c'.toNat_lt; have := d'.toNat_lt
  exact ⟨UInt8.toNat_inj.1 (by omega), UInt8.toNat_inj.1 (by omega), UInt8.toNat_inj.1 (by omega), UInt8.toNat_inj.1 (by omega)⟩
set_option maxHeartbeats 2000000 in
theorem turned {t i f g u p s d : Int} {o pl L : List UInt8} (b : Built t i f g u p s d o pl L) (idx : Nat) (y : UInt8) (hidx : idx < 20 + o.length) (hy : L[idx]? ≠ some y)
    (b' : Built t i f g u p s d o pl (L.set idx y)) : False := by
  have e1 := (errV_ok b.err).1
  obtain ⟨b0, b1, b2, b3, b4, b5, b6, b7, b8, b9, b10, b11, b12, b13, b14, b15, b16, b17, b18, b19, r, rfl⟩ := ex20 e1
  obtain ⟨k0, k1, k2, k3, k4, k5, k6, k7, k8, k9, k10⟩ := known b.err b.t_ b.i_ b.f_ b.g_ b.u_ b.p_ b.s_ b.d_ b.o_ b.pl_
  match idx, hidx with
  | 0, _ =>
    replace b' : Built t i f g u p s d o pl (y :: b1 :: b2 :: b3 :: b4 :: b5 :: b6 :: b7 :: b8 :: b9 :: b10 :: b11 :: b12 :: b13 :: b14 :: b15 :: b16 :: b17 :: b18 :: b19 :: r) := b'
    obtain ⟨j0, j1, j2, j3, j4, j5, j6, j7, j8, j9, j10⟩ := known (pl := pl) b'.err b'.t_ b'.i_ b'.f_ b'.g_ b'.u_ b'.p_ b'.s_ b'.d_ b'.o_ b'.pl_
    have hy' : b0 ≠ y := fun q => hy (by rw [q]; rfl)
    exact hy' (UInt8.toNat_inj.1 (by omega))
  | 1, _ =>
    replace b' : Built t i f g u p s d o pl (b0 :: y :: b2 :: b3 :: b4 :: b5 :: b6 :: b7 :: b8 :: b9 :: b10 :: b11 :: b12 :: b13 :: b14 :: b15 :: b16 :: b17 :: b18 :: b19 :: r) := b'
    obtain ⟨j0, j1, j2, j3, j4, j5, j6, j7, j8, j9, j10⟩ := known (pl := pl) b'.err b'.t_ b'.i_ b'.f_ b'.g_ b'.u_ b'.p_ b'.s_ b'.d_ b'.o_ b'.pl_
    have hy' : b1 ≠ y := fun q => hy (by rw [q]; rfl)
    exact hy' (UInt8.toNat_inj.1 (by omega))
  | 2, _ =>
    replace b' : Built t i f g u p s d o pl (b0 :: b1 :: y :: b3 :: b4 :: b5 :: b6 :: b7 :: b8 :: b9 :: b10 :: b11 :: b12 :: b13 :: b14 :: b15 :: b16 :: b17 :: b18 :: b19 :: r) := b'
    obtain ⟨j0, j1, j2, j3, j4, j5, j6, j7, j8, j9, j10⟩ := known (pl := pl) b'.err b'.t_ b'.i_ b'.f_ b'.g_ b'.u_ b'.p_ b'.s_ b'.d_ b'.o_ b'.pl_
    have hy' : b2 ≠ y := fun q => hy (by rw [q]; rfl)
    exact hy' (two_eq (k2.trans j2.symm)).1
  | 3, _ =>
    replace b' : Built t i f g u p s d o pl (b0 :: b1 :: b2 :: y :: b4 :: b5 :: b6 :: b7 :: b8 :: b9 :: b10 :: b11 :: b12 :: b13 :: b14 :: b15 :: b16 :: b17 :: b18 :: b19 :: r) := b'
    obtain ⟨j0, j1, j2, j3, j4, j5, j6, j7, j8, j9, j10⟩ := known (pl := pl) b'.err b'.t_ b'.i_ b'.f_ b'.g_ b'.u_ b'.p_ b'.s_ b'.d_ b'.o_ b'.pl_
    have hy' : b3 ≠ y := fun q => hy (by rw [q]; rfl)
    exact hy' (two_eq (k2.trans j2.symm)).2
  | 4, _ =>
    replace b' : Built t i f g u p s d o pl (b0 :: b1 :: b2 :: b3 :: y :: b5 :: b6 :: b7 :: b8 :: b9 :: b10 :: b11 :: b12 :: b13 :: b14 :: b15 :: b16 :: b17 :: b18 :: b19 :: r) := b'
    obtain ⟨j0, j1, j2, j3, j4, j5, j6, j7, j8, j9, j10⟩ := known (pl := pl) b'.err b'.t_ b'.i_ b'.f_ b'.g_ b'.u_ b'.p_ b'.s_ b'.d_ b'.o_ b'.pl_
    have hy' : b4 ≠ y := fun q => hy (by rw [q]; rfl)
    exact hy' (UInt8.toNat_inj.1 (by have := y.toNat_lt; have := b4.toNat_lt; omega))
  | 5, _ =>
    replace b' : Built t i f g u p s d o pl (b0 :: b1 :: b2 :: b3 :: b4 :: y :: b6 :: b7 :: b8 :: b9 :: b10 :: b11 :: b12 :: b13 :: b14 :: b15 :: b16 :: b17 :: b18 :: b19 :: r) := b'
    obtain ⟨j0, j1, j2, j3, j4, j5, j6, j7, j8, j9, j10⟩ := known (pl := pl) b'.err b'.t_ b'.i_ b'.f_ b'.g_ b'.u_ b'.p_ b'.s_ b'.d_ b'.o_ b'.pl_
    have hy' : b5 ≠ y := fun q => hy (by rw [q]; rfl)
    exact hy' (UInt8.toNat_inj.1 (by have := y.toNat_lt; have := b5.toNat_lt; omega))
  | 6, _ =>
    replace b' : Built t i f g u p s d o pl (b0 :: b1 :: b2 :: b3 :: b4 :: b5 :: y :: b7 :: b8 :: b9 :: b10 :: b11 :: b12 :: b13 :: b14 :: b15 :: b16 :: b17 :: b18 :: b19 :: r) := b'
    obtain ⟨j0, j1, j2, j3, j4, j5, j6, j7, j8, j9, j10⟩ := known (pl := pl) b'.err b'.t_ b'.i_ b'.f_ b'.g_ b'.u_ b'.p_ b'.s_ b'.d_ b'.o_ b'.pl_
    have hy' : b6 ≠ y := fun q => hy (by rw [q]; rfl)
    exact hy' (UInt8.toNat_inj.1 (by have := y.toNat_lt; have := b6.toNat_lt; omega))
  | 7, _ =>
    replace b' : Built t i f g u p s d o pl (b0 :: b1 :: b2 :: b3 :: b4 :: b5 :: b6 :: y :: b8 :: b9 :: b10 :: b11 :: b12 :: b13 :: b14 :: b15 :: b16 :: b17 :: b18 :: b19 :: r) := b'
    obtain ⟨j0, j1, j2, j3, j4, j5, j6, j7, j8, j9, j10⟩ := known (pl := pl) b'.err b'.t_ b'.i_ b'.f_ b'.g_ b'.u_ b'.p_ b'.s_ b'.d_ b'.o_ b'.pl_
    have hy' : b7 ≠ y := fun q => hy (by rw [q]; rfl)
    exact hy' (UInt8.toNat_inj.1 (by have := y.toNat_lt; have := b7.toNat_lt; omega))
  | 8, _ =>
    replace b' : Built t i f g u p s d o pl (b0 :: b1 :: b2 :: b3 :: b4 :: b5 :: b6 :: b7 :: y :: b9 :: b10 :: b11 :: b12 :: b13 :: b14 :: b15 :: b16 :: b17 :: b18 :: b19 :: r) := b'
    obtain ⟨j0, j1, j2, j3, j4, j5, j6, j7, j8, j9, j10⟩ := known (pl := pl) b'.err b'.t_ b'.i_ b'.f_ b'.g_ b'.u_ b'.p_ b'.s_ b'.d_ b'.o_ b'.pl_
    have hy' : b8 ≠ y := fun q => hy (by rw [q]; rfl)
    exact hy' (UInt8.toNat_inj.1 (by omega))
  | 9, _ =>
    replace b' : Built t i f g u p s d o pl (b0 :: b1 :: b2 :: b3 :: b4 :: b5 :: b6 :: b7 :: b8 :: y :: b10 :: b11 :: b12 :: b13 :: b14 :: b15 :: b16 :: b17 :: b18 :: b19 :: r) := b'
    obtain ⟨j0, j1, j2, j3, j4, j5, j6, j7, j8, j9, j10⟩ := known (pl := pl) b'.err b'.t_ b'.i_ b'.f_ b'.g_ b'.u_ b'.p_ b'.s_ b'.d_ b'.o_ b'.pl_
    have hy' : b9 ≠ y := fun q => hy (by rw [q]; rfl)
    exact hy' (UInt8.toNat_inj.1 (by omega))
  | 10, _ =>
    replace b' : Built t i f g u p s d o pl (b0 :: b1 :: b2 :: b3 :: b4 :: b5 :: b6 :: b7 :: b8 :: b9 :: y :: b11 :: b12 :: b13 :: b14 :: b15 :: b16 :: b17 :: b18 :: b19 :: r) := b'
    obtain ⟨j0, j1, j2, j3, j4, j5, j6, j7, j8, j9, j10⟩ := known (pl := pl) b'.err b'.t_ b'.i_ b'.f_ b'.g_ b'.u_ b'.p_ b'.s_ b'.d_ b'.o_ b'.pl_
    have hy' : b10 ≠ y := fun q => hy (by rw [q]; rfl)
    exact hy' ((sum_other o b0 b1 b2 b3 b4 b5 b6 b7 b8 b9 b10 b11 b12 b13 b14 b15 b16 b17 b18 b19 y b11 k10 j10).1.resolve_right (by simp)).symm
  | 11, _ =>
    replace b' : Built t i f g u p s d o pl (b0 :: b1 :: b2 :: b3 :: b4 :: b5 :: b6 :: b7 :: b8 :: b9 :: b10 :: y :: b12 :: b13 :: b14 :: b15 :: b16 :: b17 :: b18 :: b19 :: r) := b'
    obtain ⟨j0, j1, j2, j3, j4, j5, j6, j7, j8, j9, j10⟩ := known (pl := pl) b'.err b'.t_ b'.i_ b'.f_ b'.g_ b'.u_ b'.p_ b'.s_ b'.d_ b'.o_ b'.pl_
    have hy' : b11 ≠ y := fun q => hy (by rw [q]; rfl)
    exact hy' ((sum_other o b0 b1 b2 b3 b4 b5 b6 b7 b8 b9 b10 b11 b12 b13 b14 b15 b16 b17 b18 b19 b10 y k10 j10).2.resolve_right (by simp)).symm
  | 12, _ =>
    replace b' : Built t i f g u p s d o pl (b0 :: b1 :: b2 :: b3 :: b4 :: b5 :: b6 :: b7 :: b8 :: b9 :: b10 :: b11 :: y :: b13 :: b14 :: b15 :: b16 :: b17 :: b18 :: b19 :: r) := b'
    obtain ⟨j0, j1, j2, j3, j4, j5, j6, j7, j8, j9, j10⟩ := known (pl := pl) b'.err b'.t_ b'.i_ b'.f_ b'.g_ b'.u_ b'.p_ b'.s_ b'.d_ b'.o_ b'.pl_
    have hy' : b12 ≠ y := fun q => hy (by rw [q]; rfl)
    exact hy' (four_eq (k7.trans j7.symm)).1
  | 13, _ =>
    replace b' : Built t i f g u p s d o pl (b0 :: b1 :: b2 :: b3 :: b4 :: b5 :: b6 :: b7 :: b8 :: b9 :: b10 :: b11 :: b12 :: y :: b14 :: b15 :: b16 :: b17 :: b18 :: b19 :: r) := b'
    obtain ⟨j0, j1, j2, j3, j4, j5, j6, j7, j8, j9, j10⟩ := known (pl := pl) b'.err b'.t_ b'.i_ b'.f_ b'.g_ b'.u_ b'.p_ b'.s_ b'.d_ b'.o_ b'.pl_
    have hy' : b13 ≠ y := fun q => hy (by rw [q]; rfl)
    exact hy' (four_eq (k7.trans j7.symm)).2.1
  | 14, _ =>
    replace b' : Built t i f g u p s d o pl (b0 :: b1 :: b2 :: b3 :: b4 :: b5 :: b6 :: b7 :: b8 :: b9 :: b10 :: b11 :: b12 :: b13 :: y :: b15 :: b16 :: b17 :: b18 :: b19 :: r) := b'
    obtain ⟨j0, j1, j2, j3, j4, j5, j6, j7, j8, j9, j10⟩ := known (pl := pl) b'.err b'.t_ b'.i_ b'.f_ b'.g_ b'.u_ b'.p_ b'.s_ b'.d_ b'.o_ b'.pl_
    have hy' : b14 ≠ y := fun q => hy (by rw [q]; rfl)
    exact hy' (four_eq (k7.trans j7.symm)).2.2.1
  | 15, _ =>
    replace b' : Built t i f g u p s d o pl (b0 :: b1 :: b2 :: b3 :: b4 :: b5 :: b6 :: b7 :: b8 :: b9 :: b10 :: b11 :: b12 :: b13 :: b14 :: y :: b16 :: b17 :: b18 :: b19 :: r) := b'
    obtain ⟨j0, j1, j2, j3, j4, j5, j6, j7, j8, j9, j10⟩ := known (pl := pl) b'.err b'.t_ b'.i_ b'.f_ b'.g_ b'.u_ b'.p_ b'.s_ b'.d_ b'.o_ b'.pl_
    have hy' : b15 ≠ y := fun q => hy (by rw [q]; rfl)
    exact hy' (four_eq (k7.trans j7.symm)).2.2.2
  | 16, _ =>
    replace b' : Built t i f g u p s d o pl (b0 :: b1 :: b2 :: b3 :: b4 :: b5 :: b6 :: b7 :: b8 :: b9 :: b10 :: b11 :: b12 :: b13 :: b14 :: b15 :: y :: b17 :: b18 :: b19 :: r) := b'
    obtain ⟨j0, j1, j2, j3, j4, j5, j6, j7, j8, j9, j10⟩ := known (pl := pl) b'.err b'.t_ b'.i_ b'.f_ b'.g_ b'.u_ b'.p_ b'.s_ b'.d_ b'.o_ b'.pl_
    have hy' : b16 ≠ y := fun q => hy (by rw [q]; rfl)
    exact hy' (four_eq (k8.trans j8.symm)).1
  | 17, _ =>
    replace b' : Built t i f g u p s d o pl (b0 :: b1 :: b2 :: b3 :: b4 :: b5 :: b6 :: b7 :: b8 :: b9 :: b10 :: b11 :: b12 :: b13 :: b14 :: b15 :: b16 :: y :: b18 :: b19 :: r) := b'
    obtain ⟨j0, j1, j2, j3, j4, j5, j6, j7, j8, j9, j10⟩ := known (pl := pl) b'.err b'.t_ b'.i_ b'.f_ b'.g_ b'.u_ b'.p_ b'.s_ b'.d_ b'.o_ b'.pl_
    have hy' : b17 ≠ y := fun q => hy (by rw [q]; rfl)
    exact hy' (four_eq (k8.trans j8.symm)).2.1
  | 18, _ =>
    replace b' : Built t i f g u p s d o pl (b0 :: b1 :: b2 :: b3 :: b4 :: b5 :: b6 :: b7 :: b8 :: b9 :: b10 :: b11 :: b12 :: b13 :: b14 :: b15 :: b16 :: b17 :: y :: b19 :: r) := b'
    obtain ⟨j0, j1, j2, j3, j4, j5, j6, j7, j8, j9, j10⟩ := known (pl := pl) b'.err b'.t_ b'.i_ b'.f_ b'.g_ b'.u_ b'.p_ b'.s_ b'.d_ b'.o_ b'.pl_
    have hy' : b18 ≠ y := fun q => hy (by rw [q]; rfl)
    exact hy' (four_eq (k8.trans j8.symm)).2.2.1
  | 19, _ =>
    replace b' : Built t i f g u p s d o pl (b0 :: b1 :: b2 :: b3 :: b4 :: b5 :: b6 :: b7 :: b8 :: b9 :: b10 :: b11 :: b12 :: b13 :: b14 :: b15 :: b16 :: b17 :: b18 :: y :: r) := b'
    obtain ⟨j0, j1, j2, j3, j4, j5, j6, j7, j8, j9, j10⟩ := known (pl := pl) b'.err b'.t_ b'.i_ b'.f_ b'.g_ b'.u_ b'.p_ b'.s_ b'.d_ b'.o_ b'.pl_
    have hy' : b19 ≠ y := fun q => hy (by rw [q]; rfl)
    exact hy' (four_eq (k8.trans j8.symm)).2.2.2
  | j + 20, hj =>
    replace b' : Built t i f g u p s d o pl (b0 :: b1 :: b2 :: b3 :: b4 :: b5 :: b6 :: b7 :: b8 :: b9 :: b10 :: b11 :: b12 :: b13 :: b14 :: b15 :: b16 :: b17 :: b18 :: b19 :: r.set j y) := b'
    obtain ⟨j0, j1, j2, j3, j4, j5, j6, j7, j8, j9, j10⟩ := known (pl := pl) b'.err b'.t_ b'.i_ b'.f_ b'.g_ b'.u_ b'.p_ b'.s_ b'.d_ b'.o_ b'.pl_
    have hjo : j < o.length := by omega
    have hrl : o.length ≤ r.length := by have := congrArg List.length k9; rw [List.length_take] at this; omega
    have q1 : (r.take o.length)[j]? = ((r.set j y).take o.length)[j]? := by rw [k9, j9]
    rw [List.getElem?_take_of_lt hjo, List.getElem?_take_of_lt hjo, List.getElem?_set_self (by omega)] at q1
    exact hy (by simpa using q1)
end Go.Proofs.Ytlkammmadchjnaa
