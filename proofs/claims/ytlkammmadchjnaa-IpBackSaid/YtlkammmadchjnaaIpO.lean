/- ip: what a packet's bytes are, field by field: plain. -/
import Derived.Test.YtlkammmadchjnaaIpN
namespace Go.Proofs.Ytlkammmadchjnaa
set_option linter.unusedVariables false
open Go.RowKit

theorem byOf_nat (a : UInt8) : byOf (a.toNat : Int) = a := by
  have := a.toNat_lt
  unfold byOf
  rw [Int.emod_eq_of_lt (by omega) (by omega)]
  simp
theorem byOf_eq {n : Int} {a : UInt8} (h : n % 256 = (a.toNat : Int)) : byOf n = a := by
  unfold byOf; rw [h]; simp
theorem be2_get (a b : UInt8) : be ((a.toNat : Int) * 256 + b.toNat) 2 = [a, b] := by
  have := a.toNat_lt; have := b.toNat_lt
  simp only [be]
  rw [byOf_eq (a := a) (by omega), byOf_eq (a := b) (by omega)]
theorem be4_get (a b c d : UInt8) : be ((((a.toNat : Int) * 256 + b.toNat) * 256 + c.toNat) * 256 + d.toNat) 4 = [a, b, c, d] := by
  have := a.toNat_lt; have := b.toNat_lt; have := c.toNat_lt; have := d.toNat_lt
  simp only [be]
  rw [byOf_eq (a := a) (by omega), byOf_eq (a := b) (by omega), byOf_eq (a := c) (by omega), byOf_eq (a := d) (by omega)]
theorem numV_stp {L : List UInt8} {p m : Nat} (h : p + m ≤ L.length) : numV (stp L p) m = getN ((L.drop p).take m) m := by
  unfold numV
  rw [stp_tk h, if_neg (by simp; omega)]
theorem ex20 {l : List UInt8} (h : 20 ≤ l.length) : ∃ x0 x1 x2 x3 x4 x5 x6 x7 x8 x9 x10 x11 x12 x13 x14 x15 x16 x17 x18 x19 r, l = (x0 :: x1 :: x2 :: x3 :: x4 :: x5 :: x6 :: x7 :: x8 :: x9 :: x10 :: x11 :: x12 :: x13 :: x14 :: x15 :: x16 :: x17 :: x18 :: x19 :: r) := by
  obtain _ | ⟨x0, l⟩ := l
  · simp at h
  obtain _ | ⟨x1, l⟩ := l
  · simp at h
  obtain _ | ⟨x2, l⟩ := l
  · simp at h
  obtain _ | ⟨x3, l⟩ := l
  · simp at h
  obtain _ | ⟨x4, l⟩ := l
  · simp at h
  obtain _ | ⟨x5, l⟩ := l
  · simp at h
  obtain _ | ⟨x6, l⟩ := l
  · simp at h
  obtain _ | ⟨x7, l⟩ := l
  · simp at h
  obtain _ | ⟨x8, l⟩ := l
  · simp at h
  obtain _ | ⟨x9, l⟩ := l
  · simp at h
  obtain _ | ⟨x10, l⟩ := l
  · simp at h
  obtain _ | ⟨x11, l⟩ := l
  · simp at h
  obtain _ | ⟨x12, l⟩ := l
  · simp at h
  obtain _ | ⟨x13, l⟩ := l
  · simp at h
  obtain _ | ⟨x14, l⟩ := l
  · simp at h
  obtain _ | ⟨x15, l⟩ := l
  · simp at h
  obtain _ | ⟨x16, l⟩ := l
  · simp at h
  obtain _ | ⟨x17, l⟩ := l
  · simp at h
  obtain _ | ⟨x18, l⟩ := l
  · simp at h
  obtain _ | ⟨x19, l⟩ := l
  · simp at h
  exact ⟨x0, x1, x2, x3, x4, x5, x6, x7, x8, x9, x10, x11, x12, x13, x14, x15, x16, x17, x18, x19, l, rfl⟩
section
variable (x0 x1 x2 x3 x4 x5 x6 x7 x8 x9 x10 x11 x12 x13 x14 x15 x16 x17 x18 x19 : UInt8) (r : List UInt8)
theorem pT_ex : pT (x0 :: x1 :: x2 :: x3 :: x4 :: x5 :: x6 :: x7 :: x8 :: x9 :: x10 :: x11 :: x12 :: x13 :: x14 :: x15 :: x16 :: x17 :: x18 :: x19 :: r) = (x1.toNat : Int) := by
  unfold pT
  rw [show (1 : Nat) = 1 from rfl, numV_stp (by simp)]
  simp [getN, byAt]
theorem pI_ex : pI (x0 :: x1 :: x2 :: x3 :: x4 :: x5 :: x6 :: x7 :: x8 :: x9 :: x10 :: x11 :: x12 :: x13 :: x14 :: x15 :: x16 :: x17 :: x18 :: x19 :: r) = (x4.toNat : Int) * 256 + (x5.toNat : Int) := by
  unfold pI
  rw [show (2 : Nat) = 2 from rfl, numV_stp (by simp)]
  simp [getN, byAt]
theorem pW_ex : pW (x0 :: x1 :: x2 :: x3 :: x4 :: x5 :: x6 :: x7 :: x8 :: x9 :: x10 :: x11 :: x12 :: x13 :: x14 :: x15 :: x16 :: x17 :: x18 :: x19 :: r) = (x6.toNat : Int) * 256 + (x7.toNat : Int) := by
  unfold pW
  rw [show (2 : Nat) = 2 from rfl, numV_stp (by simp)]
  simp [getN, byAt]
theorem pL_ex : pL (x0 :: x1 :: x2 :: x3 :: x4 :: x5 :: x6 :: x7 :: x8 :: x9 :: x10 :: x11 :: x12 :: x13 :: x14 :: x15 :: x16 :: x17 :: x18 :: x19 :: r) = (x8.toNat : Int) := by
  unfold pL
  rw [show (1 : Nat) = 1 from rfl, numV_stp (by simp)]
  simp [getN, byAt]
theorem pP_ex : pP (x0 :: x1 :: x2 :: x3 :: x4 :: x5 :: x6 :: x7 :: x8 :: x9 :: x10 :: x11 :: x12 :: x13 :: x14 :: x15 :: x16 :: x17 :: x18 :: x19 :: r) = (x9.toNat : Int) := by
  unfold pP
  rw [show (1 : Nat) = 1 from rfl, numV_stp (by simp)]
  simp [getN, byAt]
theorem pS_ex : pS (x0 :: x1 :: x2 :: x3 :: x4 :: x5 :: x6 :: x7 :: x8 :: x9 :: x10 :: x11 :: x12 :: x13 :: x14 :: x15 :: x16 :: x17 :: x18 :: x19 :: r) = (((x12.toNat : Int) * 256 + (x13.toNat : Int)) * 256 + (x14.toNat : Int)) * 256 + (x15.toNat : Int) := by
  unfold pS
  rw [show (4 : Nat) = 4 from rfl, numV_stp (by simp)]
  simp [getN, byAt]
theorem pD_ex : pD (x0 :: x1 :: x2 :: x3 :: x4 :: x5 :: x6 :: x7 :: x8 :: x9 :: x10 :: x11 :: x12 :: x13 :: x14 :: x15 :: x16 :: x17 :: x18 :: x19 :: r) = (((x16.toNat : Int) * 256 + (x17.toNat : Int)) * 256 + (x18.toNat : Int)) * 256 + (x19.toNat : Int) := by
  unfold pD
  rw [show (4 : Nat) = 4 from rfl, numV_stp (by simp)]
  simp [getN, byAt]
theorem szK_ex : szK (x0 :: x1 :: x2 :: x3 :: x4 :: x5 :: x6 :: x7 :: x8 :: x9 :: x10 :: x11 :: x12 :: x13 :: x14 :: x15 :: x16 :: x17 :: x18 :: x19 :: r) = 4 * ((x0.toNat : Int) % 16) := rfl
theorem lnK_ex : lnK (x0 :: x1 :: x2 :: x3 :: x4 :: x5 :: x6 :: x7 :: x8 :: x9 :: x10 :: x11 :: x12 :: x13 :: x14 :: x15 :: x16 :: x17 :: x18 :: x19 :: r) = 256 * (x2.toNat : Int) + (x3.toNat : Int) := rfl
/-- a packet's bytes with another sum, by its fields. -/
theorem set_ref (n N : Nat) (s : Int) (h0 : (x0.toNat : Int) / 16 = 4) (hn : 4 * ((x0.toNat : Int) % 16) = 20 + n) (hN : 256 * (x2.toNat : Int) + (x3.toNat : Int) = N) (s0 : 0 ≤ s) (s1 : s ≤ 65535) :
    set10 (x0 :: x1 :: x2 :: x3 :: x4 :: x5 :: x6 :: x7 :: x8 :: x9 :: x10 :: x11 :: x12 :: x13 :: x14 :: x15 :: x16 :: x17 :: x18 :: x19 :: r) s = refL (x1.toNat : Int) ((x4.toNat : Int) * 256 + (x5.toNat : Int)) (((x6.toNat : Int) * 256 + (x7.toNat : Int)) / 8192) (((x6.toNat : Int) * 256 + (x7.toNat : Int)) % 8192) (x8.toNat : Int) (x9.toNat : Int) ((((x12.toNat : Int) * 256 + (x13.toNat : Int)) * 256 + (x14.toNat : Int)) * 256 + (x15.toNat : Int)) ((((x16.toNat : Int) * 256 + (x17.toNat : Int)) * 256 + (x18.toNat : Int)) * 256 + (x19.toNat : Int)) n N s ++ r := by
  have b0 := x0.toNat_lt
  have b1 := x1.toNat_lt
  have b2 := x2.toNat_lt
  have b3 := x3.toNat_lt
  have b4 := x4.toNat_lt
  have b5 := x5.toNat_lt
  have b6 := x6.toNat_lt
  have b7 := x7.toNat_lt
  have b8 := x8.toNat_lt
  have b9 := x9.toNat_lt
  have b10 := x10.toNat_lt
  have b11 := x11.toNat_lt
  have b12 := x12.toNat_lt
  have b13 := x13.toNat_lt
  have b14 := x14.toNat_lt
  have b15 := x15.toNat_lt
  have b16 := x16.toNat_lt
  have b17 := x17.toNat_lt
  have b18 := x18.toNat_lt
  have b19 := x19.toNat_lt
  unfold refL set10
  rw [byOf_eq (n := 64 + (20 + (n : Int)) / 4) (a := x0) (by omega), byOf_nat x1, byOf_nat x8, byOf_nat x9, Int.emod_eq_of_lt (a := s) s0 (by omega), Int.emod_eq_of_lt (a := (N : Int)) (by omega) (by omega),
    Int.emod_eq_of_lt (a := (x4.toNat : Int) * 256 + (x5.toNat : Int)) (by omega) (by omega), be2_get, be4_get, be4_get,
    show (((x6.toNat : Int) * 256 + (x7.toNat : Int)) / 8192 * 8192 + ((x6.toNat : Int) * 256 + (x7.toNat : Int)) % 8192) = (x6.toNat : Int) * 256 + (x7.toNat : Int) from by omega, be2_get, ← hN, Int.mul_comm 256, be2_get]
  simp
theorem good_ex (m : Nat) (h0 : (x0.toNat : Int) / 16 = 4) (hm : 4 * ((x0.toNat : Int) % 16) = 20 + m) : goodH (x1.toNat : Int) ((x4.toNat : Int) * 256 + (x5.toNat : Int)) (((x6.toNat : Int) * 256 + (x7.toNat : Int)) / 8192) (((x6.toNat : Int) * 256 + (x7.toNat : Int)) % 8192) (x8.toNat : Int) (x9.toNat : Int) m = true := by
  have b0 := x0.toNat_lt
  have b1 := x1.toNat_lt
  have b4 := x4.toNat_lt
  have b5 := x5.toNat_lt
  have b6 := x6.toNat_lt
  have b7 := x7.toNat_lt
  have b8 := x8.toNat_lt
  have b9 := x9.toNat_lt
  unfold goodH inH
  simp only [Bool.and_eq_true, decide_eq_true_eq]
  omega
theorem seal_build (m : Nat) (h0 : (x0.toNat : Int) / 16 = 4) (hm : 4 * ((x0.toNat : Int) % 16) = 20 + m) (hN : 256 * (x2.toNat : Int) + (x3.toNat : Int) = ((20 + r.length : Nat) : Int)) (hr : m ≤ r.length) (h9 : r.length ≤ 8980) :
    set10 (x0 :: x1 :: x2 :: x3 :: x4 :: x5 :: x6 :: x7 :: x8 :: x9 :: x10 :: x11 :: x12 :: x13 :: x14 :: x15 :: x16 :: x17 :: x18 :: x19 :: r) (sealV (x0 :: x1 :: x2 :: x3 :: x4 :: x5 :: x6 :: x7 :: x8 :: x9 :: x10 :: x11 :: x12 :: x13 :: x14 :: x15 :: x16 :: x17 :: x18 :: x19 :: r) (20 + m)) = buildL (x1.toNat : Int) ((x4.toNat : Int) * 256 + (x5.toNat : Int)) (((x6.toNat : Int) * 256 + (x7.toNat : Int)) / 8192) (((x6.toNat : Int) * 256 + (x7.toNat : Int)) % 8192) (x8.toNat : Int) (x9.toNat : Int) ((((x12.toNat : Int) * 256 + (x13.toNat : Int)) * 256 + (x14.toNat : Int)) * 256 + (x15.toNat : Int)) ((((x16.toNat : Int) * 256 + (x17.toNat : Int)) * 256 + (x18.toNat : Int)) * 256 + (x19.toNat : Int)) (r.take m) (r.drop m) := by
  have hl : (r.take m).length = m := by rw [List.length_take]; omega
  have hd : (r.drop m).length = r.length - m := List.length_drop
  have hg := good_ex x0 x1 x4 x5 x6 x7 x8 x9 m h0 hm
  have eN : (20 : Int) + ((r.take m).length : Int) + ((r.drop m).length : Int) = ((20 + r.length : Nat) : Int) := by rw [hl, hd]; omega
  rw [buildL_yes (by rw [hl]; exact hg) (by rw [hl, hd]; omega), eN, hl]
  have hs := fun s s0 s1 => set_ref x0 x1 x2 x3 x4 x5 x6 x7 x8 x9 x10 x11 x12 x13 x14 x15 x16 x17 x18 x19 r m (20 + r.length) s h0 (by omega) hN s0 s1
  have c1 := csum_lo (refL (x1.toNat : Int) ((x4.toNat : Int) * 256 + (x5.toNat : Int)) (((x6.toNat : Int) * 256 + (x7.toNat : Int)) / 8192) (((x6.toNat : Int) * 256 + (x7.toNat : Int)) % 8192) (x8.toNat : Int) (x9.toNat : Int) ((((x12.toNat : Int) * 256 + (x13.toNat : Int)) * 256 + (x14.toNat : Int)) * 256 + (x15.toNat : Int)) ((((x16.toNat : Int) * 256 + (x17.toNat : Int)) * 256 + (x18.toNat : Int)) * 256 + (x19.toNat : Int)) m ((20 + r.length : Nat) : Int) 0 ++ r.take m)
  have c2 := csum_hi (refL (x1.toNat : Int) ((x4.toNat : Int) * 256 + (x5.toNat : Int)) (((x6.toNat : Int) * 256 + (x7.toNat : Int)) / 8192) (((x6.toNat : Int) * 256 + (x7.toNat : Int)) % 8192) (x8.toNat : Int) (x9.toNat : Int) ((((x12.toNat : Int) * 256 + (x13.toNat : Int)) * 256 + (x14.toNat : Int)) * 256 + (x15.toNat : Int)) ((((x16.toNat : Int) * 256 + (x17.toNat : Int)) * 256 + (x18.toNat : Int)) * 256 + (x19.toNat : Int)) m ((20 + r.length : Nat) : Int) 0 ++ r.take m)
  have he : sealV (x0 :: x1 :: x2 :: x3 :: x4 :: x5 :: x6 :: x7 :: x8 :: x9 :: x10 :: x11 :: x12 :: x13 :: x14 :: x15 :: x16 :: x17 :: x18 :: x19 :: r) (20 + m) = 65535 - csum (refL (x1.toNat : Int) ((x4.toNat : Int) * 256 + (x5.toNat : Int)) (((x6.toNat : Int) * 256 + (x7.toNat : Int)) / 8192) (((x6.toNat : Int) * 256 + (x7.toNat : Int)) % 8192) (x8.toNat : Int) (x9.toNat : Int) ((((x12.toNat : Int) * 256 + (x13.toNat : Int)) * 256 + (x14.toNat : Int)) * 256 + (x15.toNat : Int)) ((((x16.toNat : Int) * 256 + (x17.toNat : Int)) * 256 + (x18.toNat : Int)) * 256 + (x19.toNat : Int)) m ((20 + r.length : Nat) : Int) 0 ++ r.take m) := by
    unfold sealV
    rw [hs 0 (by omega) (by omega), List.take_append, refL_len, List.take_of_length_le (by rw [refL_len]; omega), Nat.add_sub_cancel_left]
  rw [he, hs _ (by omega) (by omega), List.append_assoc, List.take_append_drop]
end
end Go.Proofs.Ytlkammmadchjnaa
