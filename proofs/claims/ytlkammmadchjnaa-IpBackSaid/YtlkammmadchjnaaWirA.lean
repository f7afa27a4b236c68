/- wire: get, put and the document's. -/
import Derived.Test.YtlkammmadchjnaaRows
import Derived.Test.YtlkammmadchjnaaBytes
import Derived.Laws.BytesArg
import Derived.Laws.CopyOwn
import Derived.BigGuardPart
import Derived.Lib.Hide
namespace Go.Proofs.Ytlkammmadchjnaa
set_option linter.unusedVariables false
open Go.RowKit

theorem shl8_or64 (x y : Int) (hx : 0 ≤ x) (hx2 : x ≤ 16777215) (hy : 0 ≤ y) (hy2 : y ≤ 255) : bits .or .u64 (x * 256) y = x * 256 + y := by
  obtain ⟨a, rfl⟩ := Int.eq_ofNat_of_zero_le hx
  obtain ⟨b, rfl⟩ := Int.eq_ofNat_of_zero_le hy
  show IntKind.u64.wrap ((BitVec.ofInt 64 ((a : Int) * 256) ||| BitVec.ofInt 64 (b : Int)).toNat : Int) = _
  have ha : (BitVec.ofInt 64 ((a : Int) * 256)).toNat = a * 256 := by rw [BitVec.toNat_ofInt]; omega
  have hb : (BitVec.ofInt 64 (b : Int)).toNat = b := by rw [BitVec.toNat_ofInt]; omega
  rw [BitVec.toNat_or, ha, hb, IntKind.wrap_u64]
  have h2 : a * 256 ||| b = a * 256 + b := by
    have := Nat.two_pow_add_eq_or_of_lt (i := 8) (b := b) (by omega) a
    rw [Nat.mul_comm] at this
    exact this.symm
  rw [h2]; omega

/-- the number that bytes are. -/
def getN (l : List UInt8) : Nat → Int
  | 0 => 0
  | k + 1 => getN l k * 256 + byAt l k
theorem getN_lo (l : List UInt8) (k : Nat) : 0 ≤ getN l k := by
  induction k with
  | zero => exact Int.le_refl _
  | succ k ih => have := byAt_lo l k; unfold getN; omega
theorem getN_3 (l : List UInt8) (k : Nat) (h : k ≤ 3) : getN l k ≤ 16777215 := by
  have h0 := byAt_hi l 0; have h1 := byAt_hi l 1; have h2 := byAt_hi l 2
  match k, h with
  | 0, _ => simp [getN]
  | 1, _ => simp [getN]; omega
  | 2, _ => simp [getN]; omega
  | 3, _ => simp [getN]; omega
theorem getN_4 (l : List UInt8) (k : Nat) (h : k ≤ 4) : getN l k ≤ 4294967295 := by
  match k, h with
  | 0, _ => simp [getN]
  | k + 1, h => have := getN_3 l k (by omega); have := byAt_hi l k; unfold getN; omega
theorem getN_2 (l : List UInt8) (k : Nat) (h : k ≤ 2) : getN l k ≤ 65535 := by
  have h0 := byAt_hi l 0; have h1 := byAt_hi l 1
  match k, h with
  | 0, _ => simp [getN]
  | 1, _ => simp [getN]; omega
  | 2, _ => simp [getN]; omega

set_option maxHeartbeats 400000 in
theorem get_any (w : World) (A : Option Addr) (n c : Nat) (l : List UInt8) (B : Nat) (h : Byt w B A n l) (hc : n ≤ c) (hc2 : c ≤ maxLen) (size : Nat) (h1 : 0 < size) (h4 : size ≤ 4) (hs : size ≤ n) :
    Calls Try.prog 61 #[.slice A n c, .int .i64 (size : Int)] w fun e w' => e = .returned (.int .u64 (getN l size)) ∧ w = w' := by
  obtain ⟨b, off, rfl, hb, hcell⟩ := h.2 (by omega)
  have hsl := slice_hi b off n c size (by omega)
  unfold maxLen at hc2
  go_enter Try.func61, Try.ntmps61
  go_wp2_with fail
  go_loop [5, 12] (fun u v => ∃ k : Nat, k ≤ size ∧ u = .int .u64 (getN l k) ∧ v = .int .i64 (k : Int)) (fun _ v => size - (intOf v).toNat)
  case atStart => exact ⟨0, by omega, rfl, rfl⟩
  case round =>
    obtain ⟨k, hk, rfl, rfl⟩ := hrel
    by_cases hlt : k < size
    · have hce := hcell k (by omega)
      have g1 := getN_lo l k
      have g2 := getN_3 l k (by omega)
      have b1 := byAt_lo l k
      have b2 := byAt_hi l k
      have hor := shl8_or64 (getN l k) (byAt l k) g1 g2 b1 b2
      go_wp2_with fail
      go_round
      case rel => exact ⟨k + 1, by omega, by simp [getN], by go_num⟩
      case measure => simp [intOf]; omega
    · obtain rfl : k = size := by omega
      go_wp2_with fail
      go_ret
      exact ⟨rfl, rfl⟩

end Go.Proofs.Ytlkammmadchjnaa
