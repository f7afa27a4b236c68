/- ip: what a packet's bytes are, field by field: plain. ip: the parsed packet, and what goes on: plain. ip: what Forward and Rewrite do to a head. -/
import Derived.Test.YthbfnppgaaeilaaDoorIpN
import Derived.Test.YthbfnppgaaeilaaDoorIpM
namespace Go.Proofs.YthbfnppgaaeilaaDoor
set_option linter.unusedVariables false
open Go.RowKit

theorem byOf_nat (a : UInt8) : byOf (a.toNat : Int) = a := by
  have := a.toNat_lt
  unfold byOf
  rw [Int.emod_eq_of_lt (by omega) (by omega)]
  simp
theorem byOf_eq {n : Int} {a : UInt8} (h : n % 256 = (a.toNat : Int)) : byOf n = a := by
  unfold byOf; rw [h]; simp
theorem be2_get (a b : UInt8) : be ((a.toNat : Int) * 256 + b.toNat) 2 = [a, b] := by
  have := a.toNat_lt; have := b.toNat_lt
  simp only [be]
  rw [byOf_eq (a := a) (by omega), byOf_eq (a := b) (by omega)]
theorem be4_get (a b c d : UInt8) : be ((((a.toNat : Int) * 256 + b.toNat) * 256 + c.toNat) * 256 + d.toNat) 4 = [a, b, c, d] := by
  have := a.toNat_lt; have := b.toNat_lt; have := c.toNat_lt; have := d.toNat_lt
  simp only [be]
  rw [byOf_eq (a := a) (by omega), byOf_eq (a := b) (by omega), byOf_eq (a := c) (by omega), byOf_eq (a := d) (by omega)]
theorem numV_stp {L : List UInt8} {p m : Nat} (h : p + m ≤ L.length) : numV (stp L p) m = getN ((L.drop p).take m) m := by
  unfold numV
  rw [stp_tk h, if_neg (by simp; omega)]
theorem ex20 {l : List UInt8} (h : 20 ≤ l.length) : ∃ x0 x1 x2 x3 x4 x5 x6 x7 x8 x9 x10 x11 x12 x13 x14 x15 x16 x17 x18 x19 r, l = (x0 :: x1 :: x2 :: x3 :: x4 :: x5 :: x6 :: x7 :: x8 :: x9 :: x10 :: x11 :: x12 :: x13 :: x14 :: x15 :: x16 :: x17 :: x18 :: x19 :: r) := by
  obtain _ | ⟨x0, l⟩ := l
  · simp at h
  obtain _ | ⟨x1, l⟩ := l
  · simp at h
  obtain _ | ⟨x2, l⟩ := l
  · simp at h
  obtain _ | ⟨x3, l⟩ := l
  · simp at h
  obtain _ | ⟨x4, l⟩ := l
  · simp at h
  obtain _ | ⟨x5, l⟩ := l
  · simp at h
  obtain _ | ⟨x6, l⟩ := l
  · simp at h
  obtain _ | ⟨x7, l⟩ := l
  · simp at h
  obtain _ | ⟨x8, l⟩ := l
  · simp at h
  obtain _ | ⟨x9, l⟩ := l
  · simp at h
  obtain _ | ⟨x10, l⟩ := l
  · simp at h
  obtain _ | ⟨x11, l⟩ := l
  · simp at h
  obtain _ | ⟨x12, l⟩ := l
  · simp at h
  obtain _ | ⟨x13, l⟩ := l
  · simp at h
  obtain _ | ⟨x14, l⟩ := l
  · simp at h
  obtain _ | ⟨x15, l⟩ := l
  · simp at h
  obtain _ | ⟨x16, l⟩ := l
  · simp at h
  obtain _ | ⟨x17, l⟩ := l
  · simp at h
  obtain _ | ⟨x18, l⟩ := l
  · simp at h
  obtain _ | ⟨x19, l⟩ := l
  · simp at h
  exact ⟨x0, x1, x2, x3, x4, x5, x6, x7, x8, x9, x10, x11, x12, x13, x14, x15, x16, x17, x18, x19, l, rfl⟩
section
variable (x0 x1 x2 x3 x4 x5 x6 x7 x8 x9 x10 x11 x12 x13 x14 x15 x16 x17 x18 x19 : UInt8) (r : List UInt8)
theorem pT_ex : pT (x0 :: x1 :: x2 :: x3 :: x4 :: x5 :: x6 :: x7 :: x8 :: x9 :: x10 :: x11 :: x12 :: x13 :: x14 :: x15 :: x16 :: x17 :: x18 :: x19 :: r) = (x1.toNat : Int) := by
  unfold pT
  rw [show (1 : Nat) = 1 from rfl, numV_stp (by simp)]
  simp [getN, byAt]
theorem pI_ex : pI (x0 :: x1 :: x2 :: x3 :: x4 :: x5 :: x6 :: x7 :: x8 :: x9 :: x10 :: x11 :: x12 :: x13 :: x14 :: x15 :: x16 :: x17 :: x18 :: x19 :: r) = (x4.toNat : Int) * 256 + (x5.toNat : Int) := by
  unfold pI
  rw [show (2 : Nat) = 2 from rfl, numV_stp (by simp)]
  simp [getN, byAt]
theorem pW_ex : pW (x0 :: x1 :: x2 :: x3 :: x4 :: x5 :: x6 :: x7 :: x8 :: x9 :: x10 :: x11 :: x12 :: x13 :: x14 :: x15 :: x16 :: x17 :: x18 :: x19 :: r) = (x6.toNat : Int) * 256 + (x7.toNat : Int) := by
  unfold pW
  rw [show (2 : Nat) = 2 from rfl, numV_stp (by simp)]
  simp [getN, byAt]
theorem pL_ex : pL (x0 :: x1 :: x2 :: x3 :: x4 :: x5 :: x6 :: x7 :: x8 :: x9 :: x10 :: x11 :: x12 :: x13 :: x14 :: x15 :: x16 :: x17 :: x18 :: x19 :: r) = (x8.toNat : Int) := by
  unfold pL
  rw [show (1 : Nat) = 1 from rfl, numV_stp (by simp)]
  simp [getN, byAt]
theorem pP_ex : pP (x0 :: x1 :: x2 :: x3 :: x4 :: x5 :: x6 :: x7 :: x8 :: x9 :: x10 :: x11 :: x12 :: x13 :: x14 :: x15 :: x16 :: x17 :: x18 :: x19 :: r) = (x9.toNat : Int) := by
  unfold pP
  rw [show (1 : Nat) = 1 from rfl, numV_stp (by simp)]
  simp [getN, byAt]
theorem pS_ex : pS (x0 :: x1 :: x2 :: x3 :: x4 :: x5 :: x6 :: x7 :: x8 :: x9 :: x10 :: x11 :: x12 :: x13 :: x14 :: x15 :: x16 :: x17 :: x18 :: x19 :: r) = (((x12.toNat : Int) * 256 + (x13.toNat : Int)) * 256 + (x14.toNat : Int)) * 256 + (x15.toNat : Int) := by
  unfold pS
  rw [show (4 : Nat) = 4 from rfl, numV_stp (by simp)]
  simp [getN, byAt]
theorem pD_ex : pD (x0 :: x1 :: x2 :: x3 :: x4 :: x5 :: x6 :: x7 :: x8 :: x9 :: x10 :: x11 :: x12 :: x13 :: x14 :: x15 :: x16 :: x17 :: x18 :: x19 :: r) = (((x16.toNat : Int) * 256 + (x17.toNat : Int)) * 256 + (x18.toNat : Int)) * 256 + (x19.toNat : Int) := by
  unfold pD
  rw [show (4 : Nat) = 4 from rfl, numV_stp (by simp)]
  simp [getN, byAt]
theorem szK_ex : szK (x0 :: x1 :: x2 :: x3 :: x4 :: x5 :: x6 :: x7 :: x8 :: x9 :: x10 :: x11 :: x12 :: x13 :: x14 :: x15 :: x16 :: x17 :: x18 :: x19 :: r) = 4 * ((x0.toNat : Int) % 16) := rfl
theorem lnK_ex : lnK (x0 :: x1 :: x2 :: x3 :: x4 :: x5 :: x6 :: x7 :: x8 :: x9 :: x10 :: x11 :: x12 :: x13 :: x14 :: x15 :: x16 :: x17 :: x18 :: x19 :: r) = 256 * (x2.toNat : Int) + (x3.toNat : Int) := rfl
/-- a packet's bytes with another sum, by its fields. -/
theorem set_ref (n N : Nat) (s : Int) (h0 : (x0.toNat : Int) / 16 = 4) (hn : 4 * ((x0.toNat : Int) % 16) = 20 + n) (hN : 256 * (x2.toNat : Int) + (x3.toNat : Int) = N) (s0 : 0 ≤ s) (s1 : s ≤ 65535) :
    set10 (x0 :: x1 :: x2 :: x3 :: x4 :: x5 :: x6 :: x7 :: x8 :: x9 :: x10 :: x11 :: x12 :: x13 :: x14 :: x15 :: x16 :: x17 :: x18 :: x19 :: r) s = refL (x1.toNat : Int) ((x4.toNat : Int) * 256 + (x5.toNat : Int)) (((x6.toNat : Int) * 256 + (x7.toNat : Int)) / 8192) (((x6.toNat : Int) * 256 + (x7.toNat : Int)) % 8192) (x8.toNat : Int) (x9.toNat : Int) ((((x12.toNat : Int) * 256 + (x13.toNat : Int)) * 256 + (x14.toNat : Int)) * 256 + (x15.toNat : Int)) ((((x16.toNat : Int) * 256 + (x17.toNat : Int)) * 256 + (x18.toNat : Int)) * 256 + (x19.toNat : Int)) n N s ++ r := by
  have b0 := x0.toNat_lt
  have b1 := x1.toNat_lt
  have b2 := x2.toNat_lt
  have b3 := x3.toNat_lt
  have b4 := x4.toNat_lt
  have b5 := x5.toNat_lt
  have b6 := x6.toNat_lt
  have b7 := x7.toNat_lt
  have b8 := x8.toNat_lt
  have b9 := x9.toNat_lt
  have b10 := x10.toNat_lt
  have b11 := x11.toNat_lt
  have b12 := x12.toNat_lt
  have b13 := x13.toNat_lt
  have b14 := x14.toNat_lt
  have b15 := x15.toNat_lt
  have b16 := x16.toNat_lt
  have b17 := x17.toNat_lt
  have b18 := x18.toNat_lt
  have b19 := x19.toNat_lt
  unfold refL set10
  rw [byOf_eq (n := 64 + (20 + (n : Int)) / 4) (a := x0) (by omega), byOf_nat x1, byOf_nat x8, byOf_nat x9, Int.emod_eq_of_lt (a := s) s0 (by omega), Int.emod_eq_of_lt (a := (N : Int)) (by omega) (by omega),
    Int.emod_eq_of_lt (a := (x4.toNat : Int) * 256 + (x5.toNat : Int)) (by omega) (by omega), be2_get, be4_get, be4_get,
    show (((x6.toNat : Int) * 256 + (x7.toNat : Int)) / 8192 * 8192 + ((x6.toNat : Int) * 256 + (x7.toNat : Int)) % 8192) = (x6.toNat : Int) * 256 + (x7.toNat : Int) from by omega, be2_get, ← hN, Int.mul_comm 256, be2_get]
  simp
theorem good_ex (m : Nat) (h0 : (x0.toNat : Int) / 16 = 4) (hm : 4 * ((x0.toNat : Int) % 16) = 20 + m) : goodH (x1.toNat : Int) ((x4.toNat : Int) * 256 + (x5.toNat : Int)) (((x6.toNat : Int) * 256 + (x7.toNat : Int)) / 8192) (((x6.toNat : Int) * 256 + (x7.toNat : Int)) % 8192) (x8.toNat : Int) (x9.toNat : Int) m = true := by
  have b0 := x0.toNat_lt
  have b1 := x1.toNat_lt
  have b4 := x4.toNat_lt
  have b5 := x5.toNat_lt
  have b6 := x6.toNat_lt
  have b7 := x7.toNat_lt
  have b8 := x8.toNat_lt
  have b9 := x9.toNat_lt
  unfold goodH inH
  simp only [Bool.and_eq_true, decide_eq_true_eq]
  omega
theorem seal_build (m : Nat) (h0 : (x0.toNat : Int) / 16 = 4) (hm : 4 * ((x0.toNat : Int) % 16) = 20 + m) (hN : 256 * (x2.toNat : Int) + (x3.toNat : Int) = ((20 + r.length : Nat) : Int)) (hr : m ≤ r.length) (h9 : r.length ≤ 8980) :
    set10 (x0 :: x1 :: x2 :: x3 :: x4 :: x5 :: x6 :: x7 :: x8 :: x9 :: x10 :: x11 :: x12 :: x13 :: x14 :: x15 :: x16 :: x17 :: x18 :: x19 :: r) (sealV (x0 :: x1 :: x2 :: x3 :: x4 :: x5 :: x6 :: x7 :: x8 :: x9 :: x10 :: x11 :: x12 :: x13 :: x14 :: x15 :: x16 :: x17 :: x18 :: x19 :: r) (20 + m)) = buildL (x1.toNat : Int) ((x4.toNat : Int) * 256 + (x5.toNat : Int)) (((x6.toNat : Int) * 256 + (x7.toNat : Int)) / 8192) (((x6.toNat : Int) * 256 + (x7.toNat : Int)) % 8192) (x8.toNat : Int) (x9.toNat : Int) ((((x12.toNat : Int) * 256 + (x13.toNat : Int)) * 256 + (x14.toNat : Int)) * 256 + (x15.toNat : Int)) ((((x16.toNat : Int) * 256 + (x17.toNat : Int)) * 256 + (x18.toNat : Int)) * 256 + (x19.toNat : Int)) (r.take m) (r.drop m) := by
  have hl : (r.take m).length = m := by rw [List.length_take]; omega
  have hd : (r.drop m).length = r.length - m := List.length_drop
  have hg := good_ex x0 x1 x4 x5 x6 x7 x8 x9 m h0 hm
  have eN : (20 : Int) + ((r.take m).length : Int) + ((r.drop m).length : Int) = ((20 + r.length : Nat) : Int) := by rw [hl, hd]; omega
  rw [buildL_yes (by rw [hl]; exact hg) (by rw [hl, hd]; omega), eN, hl]
  have hs := fun s s0 s1 => set_ref x0 x1 x2 x3 x4 x5 x6 x7 x8 x9 x10 x11 x12 x13 x14 x15 x16 x17 x18 x19 r m (20 + r.length) s h0 (by omega) hN s0 s1
  have c1 := csum_lo (refL (x1.toNat : Int) ((x4.toNat : Int) * 256 + (x5.toNat : Int)) (((x6.toNat : Int) * 256 + (x7.toNat : Int)) / 8192) (((x6.toNat : Int) * 256 + (x7.toNat : Int)) % 8192) (x8.toNat : Int) (x9.toNat : Int) ((((x12.toNat : Int) * 256 + (x13.toNat : Int)) * 256 + (x14.toNat : Int)) * 256 + (x15.toNat : Int)) ((((x16.toNat : Int) * 256 + (x17.toNat : Int)) * 256 + (x18.toNat : Int)) * 256 + (x19.toNat : Int)) m ((20 + r.length : Nat) : Int) 0 ++ r.take m)
  have c2 := csum_hi (refL (x1.toNat : Int) ((x4.toNat : Int) * 256 + (x5.toNat : Int)) (((x6.toNat : Int) * 256 + (x7.toNat : Int)) / 8192) (((x6.toNat : Int) * 256 + (x7.toNat : Int)) % 8192) (x8.toNat : Int) (x9.toNat : Int) ((((x12.toNat : Int) * 256 + (x13.toNat : Int)) * 256 + (x14.toNat : Int)) * 256 + (x15.toNat : Int)) ((((x16.toNat : Int) * 256 + (x17.toNat : Int)) * 256 + (x18.toNat : Int)) * 256 + (x19.toNat : Int)) m ((20 + r.length : Nat) : Int) 0 ++ r.take m)
  have he : sealV (x0 :: x1 :: x2 :: x3 :: x4 :: x5 :: x6 :: x7 :: x8 :: x9 :: x10 :: x11 :: x12 :: x13 :: x14 :: x15 :: x16 :: x17 :: x18 :: x19 :: r) (20 + m) = 65535 - csum (refL (x1.toNat : Int) ((x4.toNat : Int) * 256 + (x5.toNat : Int)) (((x6.toNat : Int) * 256 + (x7.toNat : Int)) / 8192) (((x6.toNat : Int) * 256 + (x7.toNat : Int)) % 8192) (x8.toNat : Int) (x9.toNat : Int) ((((x12.toNat : Int) * 256 + (x13.toNat : Int)) * 256 + (x14.toNat : Int)) * 256 + (x15.toNat : Int)) ((((x16.toNat : Int) * 256 + (x17.toNat : Int)) * 256 + (x18.toNat : Int)) * 256 + (x19.toNat : Int)) m ((20 + r.length : Nat) : Int) 0 ++ r.take m) := by
    unfold sealV
    rw [hs 0 (by omega) (by omega), List.take_append, refL_len, List.take_of_length_le (by rw [refL_len]; omega), Nat.add_sub_cancel_left]
  rw [he, hs _ (by omega) (by omega), List.append_assoc, List.take_append_drop]
end
end Go.Proofs.YthbfnppgaaeilaaDoor

namespace Go.Proofs.YthbfnppgaaeilaaDoor
set_option linter.unusedVariables false
open Go.RowKit

def hdL (l : List UInt8) : List UInt8 := l.take (szK l).toNat
def fT (l : List UInt8) : Int := if errV l = 0 then pT (hdL l) else 0
def fI (l : List UInt8) : Int := if errV l = 0 then pI (hdL l) else 0
def fF (l : List UInt8) : Int := if errV l = 0 then pW (hdL l) / 8192 else 0
def fG (l : List UInt8) : Int := if errV l = 0 then pW (hdL l) % 8192 else 0
def fL (l : List UInt8) : Int := if errV l = 0 then pL (hdL l) else 0
def fP (l : List UInt8) : Int := if errV l = 0 then pP (hdL l) else 0
def fS (l : List UInt8) : Int := if errV l = 0 then pS (hdL l) else 0
def fD (l : List UInt8) : Int := if errV l = 0 then pD (hdL l) else 0
def optL (l : List UInt8) : List UInt8 := if errV l = 0 then (hdL l).drop 20 else []
def payL (l : List UInt8) : List UInt8 := if errV l = 0 then (l.drop (szK l).toNat).take ((lnK l).toNat - (szK l).toNat) else []
def parsed (l : List UInt8) (vo vp : Value) : Value := .tuple #[.agg #[.int .i64 (fT l), .int .i64 (fI l), .int .i64 (fF l), .int .i64 (fG l), .int .i64 (fL l), .int .i64 (fP l), .int .u32 (fS l), .int .u32 (fD l), vo], vp, .int .i64 (errV l)]
theorem parsed_no {l : List UInt8} (h : errV l ≠ 0) : parsed l (.slice none 0 0) (.slice none 0 0) = .tuple #[.agg zCs, .slice none 0 0, .int .i64 (errV l)] := by
  simp [parsed, fT, fI, fF, fG, fL, fP, fS, fD, h, zCs]
theorem parsed_yes {l : List UInt8} (h : errV l = 0) (vo vp : Value) : parsed l vo vp = .tuple #[.agg (hdCs (l.take (szK l).toNat) vo), vp, .int .i64 0] := by
  simp [parsed, fT, fI, fF, fG, fL, fP, fS, fD, h, hdCs, hdL]
theorem ipParse_any (w : World) (A : Option Addr) (n c : Nat) (l : List UInt8) (h : Byt w w.heap.size A n l) (hc : n ≤ c) (hc2 : c ≤ maxLen) (hn : n ≤ 10000000) :
    Calls Tryd.prog 50 #[.slice A n c] w fun e w' => ∃ vo vp, e = .returned (parsed l vo vp) ∧ OwnB w' w.heap.size vo (optL l).length (optL l) ∧ OwnB w' w.heap.size vp (payL l).length (payL l) ∧ Below w.heap.size w w' := by
  by_cases he : errV l = 0
  · refine (parse_yes w A n c l h hc hc2 hn he).mono ?_
    rintro e w' ⟨vo, vp, he2, h1, h2, hb⟩
    refine ⟨vo, vp, by rw [parsed_yes he]; exact he2, ?_, ?_, hb⟩
    · have e1 : optL l = (l.take (szK l).toNat).drop 20 := by unfold optL hdL; rw [if_pos he]
      rw [e1, h1.len]; exact h1
    · have e1 : payL l = (l.drop (szK l).toNat).take ((lnK l).toNat - (szK l).toNat) := by unfold payL; rw [if_pos he]
      rw [e1, h2.len]; exact h2
  · refine (parse_no w A n c l h hc hc2 hn he).mono ?_
    rintro e w' ⟨he2, hb⟩
    have e1 : optL l = [] := by unfold optL; rw [if_neg he]
    have e2 : payL l = [] := by unfold payL; rw [if_neg he]
    refine ⟨.slice none 0 0, .slice none 0 0, by rw [parsed_no he]; exact he2, ?_, ?_, hb⟩
    · rw [e1]; exact OwnB.nil _ _
    · rw [e2]; exact OwnB.nil _ _
/-- bytes laid over a list at a place. -/
def setAt (l : List UInt8) (p : Nat) (x : List UInt8) : List UInt8 := l.take p ++ (x ++ l.drop (p + x.length))
/-- the packet that goes on, ahead of its seal; the one that goes elsewhere. -/
def fwdF (l : List UInt8) : List UInt8 := (l.take (lnK l).toNat).set 8 (byOf (byAt l 8 - 1))
def rewF (l : List UInt8) (dst : Int) : List UInt8 := setAt (l.take (lnK l).toNat) 16 (be dst 4)
theorem fL_by {l : List UInt8} (he : errV l = 0) : fL l = byAt l 8 := by
  obtain ⟨e1, e2, e3, e4, e5, e6, e7, e8⟩ := errV_ok he
  unfold fL hdL
  rw [if_pos he]
  obtain ⟨x0, x1, x2, x3, x4, x5, x6, x7, x8, x9, x10, x11, x12, x13, x14, x15, x16, x17, x18, x19, r, rfl⟩ := ex20 e1
  rw [szK_ex] at *
  obtain ⟨m, hm⟩ : ∃ m : Nat, 4 * ((x0.toNat : Int) % 16) = ((m + 20 : Nat) : Int) := ⟨(4 * ((x0.toNat : Int) % 16)).toNat - 20, by omega⟩
  rw [hm, Int.toNat_natCast]
  have e : ((x0 :: x1 :: x2 :: x3 :: x4 :: x5 :: x6 :: x7 :: x8 :: x9 :: x10 :: x11 :: x12 :: x13 :: x14 :: x15 :: x16 :: x17 :: x18 :: x19 :: r).take (m + 20)) = (x0 :: x1 :: x2 :: x3 :: x4 :: x5 :: x6 :: x7 :: x8 :: x9 :: x10 :: x11 :: x12 :: x13 :: x14 :: x15 :: x16 :: x17 :: x18 :: x19 :: r.take m) := rfl
  rw [e, pL_ex]; rfl
set_option maxHeartbeats 1000000 in
theorem fwd_law {l : List UInt8} (he : errV l = 0) (h1 : 1 < byAt l 8) : set10 (fwdF l) (sealV (fwdF l) (szK l).toNat) = buildL (fT l) (fI l) (fF l) (fG l) (fL l - 1) (fP l) (fS l) (fD l) (optL l) (payL l) := by
  obtain ⟨e1, e2, e3, e4, e5, e6, e7, e8⟩ := errV_ok he
  unfold fT fI fF fG fL fP fS fD optL payL hdL fwdF
  simp only [if_pos he]
  obtain ⟨x0, x1, x2, x3, x4, x5, x6, x7, x8, x9, x10, x11, x12, x13, x14, x15, x16, x17, x18, x19, r, rfl⟩ := ex20 e1
  rw [szK_ex, lnK_ex] at *
  obtain ⟨m, hm⟩ : ∃ m : Nat, 4 * ((x0.toNat : Int) % 16) = ((m + 20 : Nat) : Int) := ⟨(4 * ((x0.toNat : Int) % 16)).toNat - 20, by omega⟩
  obtain ⟨q, hq⟩ : ∃ q : Nat, 256 * (x2.toNat : Int) + (x3.toNat : Int) = ((q + 20 : Nat) : Int) := ⟨(256 * (x2.toNat : Int) + (x3.toNat : Int)).toNat - 20, by omega⟩
  rw [hm, hq, Int.toNat_natCast, Int.toNat_natCast]
  have hrl : q ≤ r.length := by rw [hq] at e5; simp at e5; omega
  have hmq : m ≤ q := by omega
  have ek : ((x0 :: x1 :: x2 :: x3 :: x4 :: x5 :: x6 :: x7 :: x8 :: x9 :: x10 :: x11 :: x12 :: x13 :: x14 :: x15 :: x16 :: x17 :: x18 :: x19 :: r).take (m + 20)) = (x0 :: x1 :: x2 :: x3 :: x4 :: x5 :: x6 :: x7 :: x8 :: x9 :: x10 :: x11 :: x12 :: x13 :: x14 :: x15 :: x16 :: x17 :: x18 :: x19 :: r.take m) := rfl
  have en : ((x0 :: x1 :: x2 :: x3 :: x4 :: x5 :: x6 :: x7 :: x8 :: x9 :: x10 :: x11 :: x12 :: x13 :: x14 :: x15 :: x16 :: x17 :: x18 :: x19 :: r).take (q + 20)) = (x0 :: x1 :: x2 :: x3 :: x4 :: x5 :: x6 :: x7 :: x8 :: x9 :: x10 :: x11 :: x12 :: x13 :: x14 :: x15 :: x16 :: x17 :: x18 :: x19 :: r.take q) := rfl
  have ed : ((x0 :: x1 :: x2 :: x3 :: x4 :: x5 :: x6 :: x7 :: x8 :: x9 :: x10 :: x11 :: x12 :: x13 :: x14 :: x15 :: x16 :: x17 :: x18 :: x19 :: r).drop (m + 20)) = r.drop m := rfl
  rw [ek, en, ed, pT_ex, pI_ex, pW_ex, pL_ex, pP_ex, pS_ex, pD_ex]
  have e8' : byAt (x0 :: x1 :: x2 :: x3 :: x4 :: x5 :: x6 :: x7 :: x8 :: x9 :: x10 :: x11 :: x12 :: x13 :: x14 :: x15 :: x16 :: x17 :: x18 :: x19 :: r) 8 = (x8.toNat : Int) := rfl
  rw [e8'] at h1 ⊢
  have hx8 := x8.toNat_lt
  obtain ⟨y, hy⟩ : ∃ y, y = byOf ((x8.toNat : Int) - 1) := ⟨_, rfl⟩
  have hyv : (y.toNat : Int) = (x8.toNat : Int) - 1 := by rw [hy, byOf_val]; omega
  rw [← hy]
  have hl : (r.take q).length = q := by rw [List.length_take]; omega
  have hs := seal_build x0 x1 x2 x3 x4 x5 x6 x7 y x9 x10 x11 x12 x13 x14 x15 x16 x17 x18 x19 (r.take q) m e2 (by omega) (by rw [hl]; omega) (by omega) (by omega)
  rw [hyv, List.take_take, Nat.min_eq_left hmq, List.drop_take, Nat.add_comm 20 m] at hs
  have eo : (x0 :: x1 :: x2 :: x3 :: x4 :: x5 :: x6 :: x7 :: x8 :: x9 :: x10 :: x11 :: x12 :: x13 :: x14 :: x15 :: x16 :: x17 :: x18 :: x19 :: r.take m).drop 20 = r.take m := rfl
  have eqm : q + 20 - (m + 20) = q - m := by omega
  rw [eo, eqm]
  exact hs
set_option maxHeartbeats 1000000 in
theorem rew_law {l : List UInt8} (he : errV l = 0) (dst : Int) (d0 : 0 ≤ dst) (d1 : dst ≤ 4294967295) : set10 (rewF l dst) (sealV (rewF l dst) (szK l).toNat) = buildL (fT l) (fI l) (fF l) (fG l) (fL l) (fP l) (fS l) dst (optL l) (payL l) := by
  obtain ⟨e1, e2, e3, e4, e5, e6, e7, e8⟩ := errV_ok he
  unfold fT fI fF fG fL fP fS optL payL hdL rewF
  simp only [if_pos he]
  obtain ⟨x0, x1, x2, x3, x4, x5, x6, x7, x8, x9, x10, x11, x12, x13, x14, x15, x16, x17, x18, x19, r, rfl⟩ := ex20 e1
  rw [szK_ex, lnK_ex] at *
  obtain ⟨m, hm⟩ : ∃ m : Nat, 4 * ((x0.toNat : Int) % 16) = ((m + 20 : Nat) : Int) := ⟨(4 * ((x0.toNat : Int) % 16)).toNat - 20, by omega⟩
  obtain ⟨q, hq⟩ : ∃ q : Nat, 256 * (x2.toNat : Int) + (x3.toNat : Int) = ((q + 20 : Nat) : Int) := ⟨(256 * (x2.toNat : Int) + (x3.toNat : Int)).toNat - 20, by omega⟩
  rw [hm, hq, Int.toNat_natCast, Int.toNat_natCast]
  have hrl : q ≤ r.length := by rw [hq] at e5; simp at e5; omega
  have hmq : m ≤ q := by omega
  have ek : ((x0 :: x1 :: x2 :: x3 :: x4 :: x5 :: x6 :: x7 :: x8 :: x9 :: x10 :: x11 :: x12 :: x13 :: x14 :: x15 :: x16 :: x17 :: x18 :: x19 :: r).take (m + 20)) = (x0 :: x1 :: x2 :: x3 :: x4 :: x5 :: x6 :: x7 :: x8 :: x9 :: x10 :: x11 :: x12 :: x13 :: x14 :: x15 :: x16 :: x17 :: x18 :: x19 :: r.take m) := rfl
  have en : ((x0 :: x1 :: x2 :: x3 :: x4 :: x5 :: x6 :: x7 :: x8 :: x9 :: x10 :: x11 :: x12 :: x13 :: x14 :: x15 :: x16 :: x17 :: x18 :: x19 :: r).take (q + 20)) = (x0 :: x1 :: x2 :: x3 :: x4 :: x5 :: x6 :: x7 :: x8 :: x9 :: x10 :: x11 :: x12 :: x13 :: x14 :: x15 :: x16 :: x17 :: x18 :: x19 :: r.take q) := rfl
  have ed : ((x0 :: x1 :: x2 :: x3 :: x4 :: x5 :: x6 :: x7 :: x8 :: x9 :: x10 :: x11 :: x12 :: x13 :: x14 :: x15 :: x16 :: x17 :: x18 :: x19 :: r).drop (m + 20)) = r.drop m := rfl
  rw [ek, en, ed, pT_ex, pI_ex, pW_ex, pL_ex, pP_ex, pS_ex]
  obtain ⟨y0, y1, y2, y3, hb, hv⟩ : ∃ y0 y1 y2 y3 : UInt8, be dst 4 = [y0, y1, y2, y3] ∧ (((y0.toNat : Int) * 256 + y1.toNat) * 256 + y2.toNat) * 256 + y3.toNat = dst := by
    refine ⟨_, _, _, _, rfl, ?_⟩
    simp only [byOf_val]
    omega
  have es : setAt (x0 :: x1 :: x2 :: x3 :: x4 :: x5 :: x6 :: x7 :: x8 :: x9 :: x10 :: x11 :: x12 :: x13 :: x14 :: x15 :: x16 :: x17 :: x18 :: x19 :: r.take q) 16 (be dst 4) = x0 :: x1 :: x2 :: x3 :: x4 :: x5 :: x6 :: x7 :: x8 :: x9 :: x10 :: x11 :: x12 :: x13 :: x14 :: x15 :: y0 :: y1 :: y2 :: y3 :: r.take q := by
    rw [hb]; rfl
  rw [es]
  have hl : (r.take q).length = q := by rw [List.length_take]; omega
  have hs := seal_build x0 x1 x2 x3 x4 x5 x6 x7 x8 x9 x10 x11 x12 x13 x14 x15 y0 y1 y2 y3 (r.take q) m e2 (by omega) (by rw [hl]; omega) (by omega) (by omega)
  rw [hv, List.take_take, Nat.min_eq_left hmq, List.drop_take, Nat.add_comm 20 m] at hs
  have eo : (x0 :: x1 :: x2 :: x3 :: x4 :: x5 :: x6 :: x7 :: x8 :: x9 :: x10 :: x11 :: x12 :: x13 :: x14 :: x15 :: x16 :: x17 :: x18 :: x19 :: r.take m).drop 20 = r.take m := rfl
  have eqm : q + 20 - (m + 20) = q - m := by omega
  rw [eo, eqm]
  exact hs
end Go.Proofs.YthbfnppgaaeilaaDoor

namespace Go.Proofs.YthbfnppgaaeilaaDoor
set_option linter.unusedVariables false
open Go.RowKit

theorem setAt_len (l : List UInt8) (p : Nat) (x : List UInt8) (h : p + x.length ≤ l.length) : (setAt l p x).length = l.length := by
  simp [setAt]; omega
theorem take_three' {α : Type} (A B C : List α) (n p m : Nat) (hA : A.length = p) (hB : B.length = m) (hn : p + m ≤ n) : (A ++ (B ++ C)).take n = A ++ (B ++ C.take (n - (p + m))) := by
  rw [← List.append_assoc, ← List.append_assoc, List.take_append, List.take_of_length_le (by simp; omega)]
  congr 2
  simp; omega
theorem row_setAt {w w' : World} {base g n cap : Nat} {l : List UInt8} (p : Nat) (x : List UInt8) (hp : p + x.length ≤ n) (cur : Array Value)
    (h : OwnB w base (.slice (some ⟨g, 0, none⟩) n cap) n l) (hs : cur.size = cap) (ht : cur.toList.take n = bvs l) (hm : cap ≤ maxLen) (hb : base ≤ g) (hnc : n ≤ cap)
    (hw' : w'.heap[g]? = some (.cells (splice cur.toList p (bvs x)).toArray 5 (0, 0))) : OwnB w' base (.slice (some ⟨g, 0, none⟩) n cap) n (setAt l p x) := by
  have hl : l.length = n := h.len
  have h2 : (bvs x).length = x.length := bvs_len x
  have hcl : cur.toList.length = cap := by simpa using hs
  refine ⟨by rw [bvs_len, setAt_len _ _ _ (by omega)]; omega, .inr ⟨g, cap, _, rfl, hb, hw', hnc, hm, ?_, ?_⟩⟩
  · have := length_splice cur.toList p (bvs x) (by omega)
    simp only [List.size_toArray, this]; omega
  · simp only [Nat.mul_one]
    unfold splice setAt
    rw [bvs_app, bvs_app, h2]
    have e1 : bvs (l.take p) = cur.toList.take p := by
      rw [show bvs (l.take p) = (bvs l).take p from by simp [bvs, List.map_take], ← ht, List.take_take]
      congr 1; omega
    have e2 : bvs (l.drop (p + x.length)) = (cur.toList.drop (p + x.length)).take (n - (p + x.length)) := by
      rw [show bvs (l.drop (p + x.length)) = (bvs l).drop (p + x.length) from by simp [bvs, List.map_drop], ← ht, List.drop_take]
    rw [e1, e2, take_three' _ _ _ n p x.length (by simp; omega) h2 hp]

end Go.Proofs.YthbfnppgaaeilaaDoor
