/- ip: the parsed packet, and what goes on: plain. -/
import Derived.Test.YtlkammmadchjnaaIpO
namespace Go.Proofs.Ytlkammmadchjnaa
set_option linter.unusedVariables false
open Go.RowKit

def hdL (l : List UInt8) : List UInt8 := l.take (szK l).toNat
def fT (l : List UInt8) : Int := if errV l = 0 then pT (hdL l) else 0
def fI (l : List UInt8) : Int := if errV l = 0 then pI (hdL l) else 0
def fF (l : List UInt8) : Int := if errV l = 0 then pW (hdL l) / 8192 else 0
def fG (l : List UInt8) : Int := if errV l = 0 then pW (hdL l) % 8192 else 0
def fL (l : List UInt8) : Int := if errV l = 0 then pL (hdL l) else 0
def fP (l : List UInt8) : Int := if errV l = 0 then pP (hdL l) else 0
def fS (l : List UInt8) : Int := if errV l = 0 then pS (hdL l) else 0
def fD (l : List UInt8) : Int := if errV l = 0 then pD (hdL l) else 0
def optL (l : List UInt8) : List UInt8 := if errV l = 0 then (hdL l).drop 20 else []
def payL (l : List UInt8) : List UInt8 := if errV l = 0 then (l.drop (szK l).toNat).take ((lnK l).toNat - (szK l).toNat) else []
def parsed (l : List UInt8) (vo vp : Value) : Value := .tuple #[.agg #[.int .i64 (fT l), .int .i64 (fI l), .int .i64 (fF l), .int .i64 (fG l), .int .i64 (fL l), .int .i64 (fP l), .int .u32 (fS l), .int .u32 (fD l), vo], vp, .int .i64 (errV l)]
theorem parsed_no {l : List UInt8} (h : errV l ≠ 0) : parsed l (.slice none 0 0) (.slice none 0 0) = .tuple #[.agg zCs, .slice none 0 0, .int .i64 (errV l)] := by
  simp [parsed, fT, fI, fF, fG, fL, fP, fS, fD, h, zCs]
theorem parsed_yes {l : List UInt8} (h : errV l = 0) (vo vp : Value) : parsed l vo vp = .tuple #[.agg (hdCs (l.take (szK l).toNat) vo), vp, .int .i64 0] := by
  simp [parsed, fT, fI, fF, fG, fL, fP, fS, fD, h, hdCs, hdL]
theorem ipParse_any (w : World) (A : Option Addr) (n c : Nat) (l : List UInt8) (h : Byt w w.heap.size A n l) (hc : n ≤ c) (hc2 : c ≤ maxLen) (hn : n ≤ 10000000) :
    Calls Try.prog 15 #[.slice A n c] w fun e w' => ∃ vo vp, e = .returned (parsed l vo vp) ∧ OwnB w' w.heap.size vo (optL l).length (optL l) ∧ OwnB w' w.heap.size vp (payL l).length (payL l) ∧ Below w.heap.size w w' := by
  by_cases he : errV l = 0
  · refine (parse_yes w A n c l h hc hc2 hn he).mono ?_
    rintro e w' ⟨vo, vp, he2, h1, h2, hb⟩
    refine ⟨vo, vp, by rw [parsed_yes he]; exact he2, ?_, ?_, hb⟩
    · have e1 : optL l = (l.take (szK l).toNat).drop 20 := by unfold optL hdL; rw [if_pos he]
      rw [e1, h1.len]; exact h1
    · have e1 : payL l = (l.drop (szK l).toNat).take ((lnK l).toNat - (szK l).toNat) := by unfold payL; rw [if_pos he]
      rw [e1, h2.len]; exact h2
  · refine (parse_no w A n c l h hc hc2 hn he).mono ?_
    rintro e w' ⟨he2, hb⟩
    have e1 : optL l = [] := by unfold optL; rw [if_neg he]
    have e2 : payL l = [] := by unfold payL; rw [if_neg he]
    refine ⟨.slice none 0 0, .slice none 0 0, by rw [parsed_no he]; exact he2, ?_, ?_, hb⟩
    · rw [e1]; exact OwnB.nil _ _
    · rw [e2]; exact OwnB.nil _ _
theorem refParse_any (w : World) (A : Option Addr) (n c : Nat) (l : List UInt8) (h : Byt w w.heap.size A n l) (hc : n ≤ c) (hc2 : c ≤ maxLen) (hn : n ≤ 10000000) :
    Calls Try.prog 16 #[.slice A n c] w fun e w' => ∃ vo vp, e = .returned (parsed l vo vp) ∧ OwnB w' w.heap.size vo (optL l).length (optL l) ∧ OwnB w' w.heap.size vp (payL l).length (payL l) ∧ Below w.heap.size w w' := by
  by_cases he : errV l = 0
  · refine (refParse_yes w A n c l h hc hc2 hn he).mono ?_
    rintro e w' ⟨vo, vp, he2, h1, h2, hb⟩
    refine ⟨vo, vp, by rw [parsed_yes he]; exact he2, ?_, ?_, hb⟩
    · have e1 : optL l = (l.take (szK l).toNat).drop 20 := by unfold optL hdL; rw [if_pos he]
      rw [e1, h1.len]; exact h1
    · have e1 : payL l = (l.drop (szK l).toNat).take ((lnK l).toNat - (szK l).toNat) := by unfold payL; rw [if_pos he]
      rw [e1, h2.len]; exact h2
  · refine (refParse_no w A n c l h hc hc2 hn he).mono ?_
    rintro e w' ⟨he2, hb⟩
    have e1 : optL l = [] := by unfold optL; rw [if_neg he]
    have e2 : payL l = [] := by unfold payL; rw [if_neg he]
    refine ⟨.slice none 0 0, .slice none 0 0, by rw [parsed_no he]; exact he2, ?_, ?_, hb⟩
    · rw [e1]; exact OwnB.nil _ _
    · rw [e2]; exact OwnB.nil _ _

/-- bytes laid over a list at a place. -/
def setAt (l : List UInt8) (p : Nat) (x : List UInt8) : List UInt8 := l.take p ++ (x ++ l.drop (p + x.length))
/-- the packet that goes on, ahead of its seal; the one that goes elsewhere. -/
def fwdF (l : List UInt8) : List UInt8 := (l.take (lnK l).toNat).set 8 (byOf (byAt l 8 - 1))
def rewF (l : List UInt8) (dst : Int) : List UInt8 := setAt (l.take (lnK l).toNat) 16 (be dst 4)
theorem fL_by {l : List UInt8} (he : errV l = 0) : fL l = byAt l 8 := by
  obtain ⟨e1, e2, e3, e4, e5, e6, e7, e8⟩ := errV_ok he
  unfold fL hdL
  rw [if_pos he]
  obtain ⟨x0, x1, x2, x3, x4, x5, x6, x7, x8, x9, x10, x11, x12, x13, x14, x15, x16, x17, x18, x19, r, rfl⟩ := ex20 e1
  rw [szK_ex] at *
  obtain ⟨m, hm⟩ : ∃ m : Nat, 4 * ((x0.toNat : Int) % 16) = ((m + 20 : Nat) : Int) := ⟨(4 * ((x0.toNat : Int) % 16)).toNat - 20, by omega⟩
  rw [hm, Int.toNat_natCast]
  have e : ((x0 :: x1 :: x2 :: x3 :: x4 :: x5 :: x6 :: x7 :: x8 :: x9 :: x10 :: x11 :: x12 :: x13 :: x14 :: x15 :: x16 :: x17 :: x18 :: x19 :: r).take (m + 20)) = (x0 :: x1 :: x2 :: x3 :: x4 :: x5 :: x6 :: x7 :: x8 :: x9 :: x10 :: x11 :: x12 :: x13 :: x14 :: x15 :: x16 :: x17 :: x18 :: x19 :: r.take m) := rfl
  rw [e, pL_ex]; rfl
set_option maxHeartbeats 1000000 in
theorem fwd_law {l : List UInt8} (he : errV l = 0) (h1 : 1 < byAt l 8) : set10 (fwdF l) (sealV (fwdF l) (szK l).toNat) = buildL (fT l) (fI l) (fF l) (fG l) (fL l - 1) (fP l) (fS l) (fD l) (optL l) (payL l) := by
  obtain ⟨e1, e2, e3, e4, e5, e6, e7, e8⟩ := errV_ok he
  unfold fT fI fF fG fL fP fS fD optL payL hdL fwdF
  simp only [if_pos he]
  obtain ⟨x0, x1, x2, x3, x4, x5, x6, x7, x8, x9, x10, x11, x12, x13, x14, x15, x16, x17, x18, x19, r, rfl⟩ := ex20 e1
  rw [szK_ex, lnK_ex] at *
  obtain ⟨m, hm⟩ : ∃ m : Nat, 4 * ((x0.toNat : Int) % 16) = ((m + 20 : Nat) : Int) := ⟨(4 * ((x0.toNat : Int) % 16)).toNat - 20, by omega⟩
  obtain ⟨q, hq⟩ : ∃ q : Nat, 256 * (x2.toNat : Int) + (x3.toNat : Int) = ((q + 20 : Nat) : Int) := ⟨(256 * (x2.toNat : Int) + (x3.toNat : Int)).toNat - 20, by omega⟩
  rw [hm, hq, Int.toNat_natCast, Int.toNat_natCast]
  have hrl : q ≤ r.length := by rw [hq] at e5; simp at e5; omega
  have hmq : m ≤ q := by omega
  have ek : ((x0 :: x1 :: x2 :: x3 :: x4 :: x5 :: x6 :: x7 :: x8 :: x9 :: x10 :: x11 :: x12 :: x13 :: x14 :: x15 :: x16 :: x17 :: x18 :: x19 :: r).take (m + 20)) = (x0 :: x1 :: x2 :: x3 :: x4 :: x5 :: x6 :: x7 :: x8 :: x9 :: x10 :: x11 :: x12 :: x13 :: x14 :: x15 :: x16 :: x17 :: x18 :: x19 :: r.take m) := rfl
  have en : ((x0 :: x1 :: x2 :: x3 :: x4 :: x5 :: x6 :: x7 :: x8 :: x9 :: x10 :: x11 :: x12 :: x13 :: x14 :: x15 :: x16 :: x17 :: x18 :: x19 :: r).take (q + 20)) = (x0 :: x1 :: x2 :: x3 :: x4 :: x5 :: x6 :: x7 :: x8 :: x9 :: x10 :: x11 :: x12 :: x13 :: x14 :: x15 :: x16 :: x17 :: x18 :: x19 :: r.take q) := rfl
  have ed : ((x0 :: x1 :: x2 :: x3 :: x4 :: x5 :: x6 :: x7 :: x8 :: x9 :: x10 :: x11 :: x12 :: x13 :: x14 :: x15 :: x16 :: x17 :: x18 :: x19 :: r).drop (m + 20)) = r.drop m := rfl
  rw [ek, en, ed, pT_ex, pI_ex, pW_ex, pL_ex, pP_ex, pS_ex, pD_ex]
  have e8' : byAt (x0 :: x1 :: x2 :: x3 :: x4 :: x5 :: x6 :: x7 :: x8 :: x9 :: x10 :: x11 :: x12 :: x13 :: x14 :: x15 :: x16 :: x17 :: x18 :: x19 :: r) 8 = (x8.toNat : Int) := rfl
  rw [e8'] at h1 ⊢
  have hx8 := x8.toNat_lt
  obtain ⟨y, hy⟩ : ∃ y, y = byOf ((x8.toNat : Int) - 1) := ⟨_, rfl⟩
  have hyv : (y.toNat : Int) = (x8.toNat : Int) - 1 := by rw [hy, byOf_val]; omega
  rw [← hy]
  have hl : (r.take q).length = q := by rw [List.length_take]; omega
  have hs := seal_build x0 x1 x2 x3 x4 x5 x6 x7 y x9 x10 x11 x12 x13 x14 x15 x16 x17 x18 x19 (r.take q) m e2 (by omega) (by rw [hl]; omega) (by omega) (by omega)
  rw [hyv, List.take_take, Nat.min_eq_left hmq, List.drop_take, Nat.add_comm 20 m] at hs
  have eo : (x0 :: x1 :: x2 :: x3 :: x4 :: x5 :: x6 :: x7 :: x8 :: x9 :: x10 :: x11 :: x12 :: x13 :: x14 :: x15 :: x16 :: x17 :: x18 :: x19 :: r.take m).drop 20 = r.take m := rfl
  have eqm : q + 20 - (m + 20) = q - m := by omega
  rw [eo, eqm]
  exact hs
set_option maxHeartbeats 1000000 in
theorem rew_law {l : List UInt8} (he : errV l = 0) (dst : Int) (d0 : 0 ≤ dst) (d1 : dst ≤ 4294967295) : set10 (rewF l dst) (sealV (rewF l dst) (szK l).toNat) = buildL (fT l) (fI l) (fF l) (fG l) (fL l) (fP l) (fS l) dst (optL l) (payL l) := by
  obtain ⟨e1, e2, e3, e4, e5, e6, e7, e8⟩ := errV_ok he
  unfold fT fI fF fG fL fP fS optL payL hdL rewF
  simp only [if_pos he]
  obtain ⟨x0, x1, x2, x3, x4, x5, x6, x7, x8, x9, x10, x11, x12, x13, x14, x15, x16, x17, x18, x19, r, rfl⟩ := ex20 e1
  rw [szK_ex, lnK_ex] at *
  obtain ⟨m, hm⟩ : ∃ m : Nat, 4 * ((x0.toNat : Int) % 16) = ((m + 20 : Nat) : Int) := ⟨(4 * ((x0.toNat : Int) % 16)).toNat - 20, by omega⟩
  obtain ⟨q, hq⟩ : ∃ q : Nat, 256 * (x2.toNat : Int) + (x3.toNat : Int) = ((q + 20 : Nat) : Int) := ⟨(256 * (x2.toNat : Int) + (x3.toNat : Int)).toNat - 20, by omega⟩
  rw [hm, hq, Int.toNat_natCast, Int.toNat_natCast]
  have hrl : q ≤ r.length := by rw [hq] at e5; simp at e5; omega
  have hmq : m ≤ q := by omega
  have ek : ((x0 :: x1 :: x2 :: x3 :: x4 :: x5 :: x6 :: x7 :: x8 :: x9 :: x10 :: x11 :: x12 :: x13 :: x14 :: x15 :: x16 :: x17 :: x18 :: x19 :: r).take (m + 20)) = (x0 :: x1 :: x2 :: x3 :: x4 :: x5 :: x6 :: x7 :: x8 :: x9 :: x10 :: x11 :: x12 :: x13 :: x14 :: x15 :: x16 :: x17 :: x18 :: x19 :: r.take m) := rfl
  have en : ((x0 :: x1 :: x2 :: x3 :: x4 :: x5 :: x6 :: x7 :: x8 :: x9 :: x10 :: x11 :: x12 :: x13 :: x14 :: x15 :: x16 :: x17 :: x18 :: x19 :: r).take (q + 20)) = (x0 :: x1 :: x2 :: x3 :: x4 :: x5 :: x6 :: x7 :: x8 :: x9 :: x10 :: x11 :: x12 :: x13 :: x14 :: x15 :: x16 :: x17 :: x18 :: x19 :: r.take q) := rfl
  have ed : ((x0 :: x1 :: x2 :: x3 :: x4 :: x5 :: x6 :: x7 :: x8 :: x9 :: x10 :: x11 :: x12 :: x13 :: x14 :: x15 :: x16 :: x17 :: x18 :: x19 :: r).drop (m + 20)) = r.drop m := rfl
  rw [ek, en, ed, pT_ex, pI_ex, pW_ex, pL_ex, pP_ex, pS_ex]
  obtain ⟨y0, y1, y2, y3, hb, hv⟩ : ∃ y0 y1 y2 y3 : UInt8, be dst 4 = [y0, y1, y2, y3] ∧ (((y0.toNat : Int) * 256 + y1.toNat) * 256 + y2.toNat) * 256 + y3.toNat = dst := by
    refine ⟨_, _, _, _, rfl, ?_⟩
    simp only [byOf_val]
    omega
  have es : setAt (x0 :: x1 :: x2 :: x3 :: x4 :: x5 :: x6 :: x7 :: x8 :: x9 :: x10 :: x11 :: x12 :: x13 :: x14 :: x15 :: x16 :: x17 :: x18 :: x19 :: r.take q) 16 (be dst 4) = x0 :: x1 :: x2 :: x3 :: x4 :: x5 :: x6 :: x7 :: x8 :: x9 :: x10 :: x11 :: x12 :: x13 :: x14 :: x15 :: y0 :: y1 :: y2 :: y3 :: r.take q := by
    rw [hb]; rfl
  rw [es]
  have hl : (r.take q).length = q := by rw [List.length_take]; omega
  have hs := seal_build x0 x1 x2 x3 x4 x5 x6 x7 x8 x9 x10 x11 x12 x13 x14 x15 y0 y1 y2 y3 (r.take q) m e2 (by omega) (by rw [hl]; omega) (by omega) (by omega)
  rw [hv, List.take_take, Nat.min_eq_left hmq, List.drop_take, Nat.add_comm 20 m] at hs
  have eo : (x0 :: x1 :: x2 :: x3 :: x4 :: x5 :: x6 :: x7 :: x8 :: x9 :: x10 :: x11 :: x12 :: x13 :: x14 :: x15 :: x16 :: x17 :: x18 :: x19 :: r.take m).drop 20 = r.take m := rfl
  have eqm : q + 20 - (m + 20) = q - m := by omega
  rw [eo, eqm]
  exact hs
end Go.Proofs.Ytlkammmadchjnaa
