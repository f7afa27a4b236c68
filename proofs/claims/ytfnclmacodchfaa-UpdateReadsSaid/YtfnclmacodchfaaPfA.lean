/- prefix: masks. -/
import Derived.Test.YtfnclmacodchfaaAtP
namespace Go.Proofs.Ytfnclmacodchfaa
set_option linter.unusedVariables false
open Go.RowKit

theorem nat_mask (a j : Nat) (hj : j ≤ 32) (ha : a < 2 ^ 32) : a &&& ((2 ^ (32 - j) - 1) * 2 ^ j) = a / 2 ^ j * 2 ^ j := by
  apply Nat.eq_of_testBit_eq
  intro i
  rw [Nat.testBit_and, Nat.testBit_mul_two_pow, Nat.testBit_mul_two_pow, Nat.testBit_two_pow_sub_one, Nat.testBit_div_two_pow]
  by_cases h : j ≤ i
  · rw [show i - j + j = i by omega]
    by_cases h2 : i - j < 32 - j
    · simp [h, h2]
    · have : a.testBit i = false := Nat.testBit_lt_two_pow (Nat.lt_of_lt_of_le ha (Nat.pow_le_pow_right (by decide) (by omega)))
      simp [this]
  · simp [h]
/-- a length within its bounds. -/
def clampN (n : Int) : Nat := if n < 0 then 0 else if 32 < n then 32 else n.toNat
theorem clampN_le (n : Int) : clampN n ≤ 32 := by
  unfold clampN; split
  · omega
  · split <;> omega
/-- so many bits. -/
def mskV (k : Nat) : Int := 4294967296 - 2 ^ (32 - k)
/-- what so many bits leave of an address. -/
def cutA (a : Int) (k : Nat) : Int := a / 2 ^ (32 - k) * 2 ^ (32 - k)
theorem pow_bd (k : Nat) (hk : k ≤ 32) : (1 : Int) ≤ 2 ^ (32 - k) ∧ (2 : Int) ^ (32 - k) ≤ 4294967296 := by
  have h1 : 1 ≤ 2 ^ (32 - k) := Nat.one_le_two_pow
  have h2 : 2 ^ (32 - k) ≤ 2 ^ 32 := Nat.pow_le_pow_right (by decide) (by omega)
  have e : ((2 ^ (32 - k) : Nat) : Int) = (2 : Int) ^ (32 - k) := by simp
  rw [← e]
  omega
theorem and_mask (a : Int) (k : Nat) (hk : k ≤ 32) (hk1 : 1 ≤ k) (h0 : 0 ≤ a) (h1 : a ≤ 4294967295) : bits .and .u32 a (mskV k) = cutA a k := by
  obtain ⟨x, rfl⟩ := Int.eq_ofNat_of_zero_le h0
  have hx : x < 2 ^ 32 := by omega
  have hp := pow_bd k hk
  have hp2 : (2 : Int) ^ (32 - k) ≤ 2147483648 := by
    have h2 : 2 ^ (32 - k) ≤ 2 ^ 31 := Nat.pow_le_pow_right (by decide) (by omega)
    have e : ((2 ^ (32 - k) : Nat) : Int) = (2 : Int) ^ (32 - k) := by simp
    rw [← e]; omega
  show IntKind.u32.wrap ((BitVec.ofInt 32 (x : Int) &&& BitVec.ofInt 32 (mskV k)).toNat : Int) = _
  have e1 : (BitVec.ofInt 32 (x : Int)).toNat = x := by rw [BitVec.toNat_ofInt]; omega
  have em : mskV k = (((2 ^ k - 1) * 2 ^ (32 - k) : Nat) : Int) := by
    have h3 : (2 ^ k - 1) * 2 ^ (32 - k) = 2 ^ 32 - 2 ^ (32 - k) := by
      rw [Nat.sub_mul, ← Nat.pow_add, show k + (32 - k) = 32 by omega, Nat.one_mul]
    rw [h3]
    have h4 : 2 ^ (32 - k) ≤ 2 ^ 32 := Nat.pow_le_pow_right (by decide) (by omega)
    have e : ((2 ^ (32 - k) : Nat) : Int) = (2 : Int) ^ (32 - k) := by simp
    unfold mskV
    rw [← e]
    omega
  have e2 : (BitVec.ofInt 32 (mskV k)).toNat = (2 ^ k - 1) * 2 ^ (32 - k) := by
    have hb : mskV k < 4294967296 := by unfold mskV; omega
    have hb0 : 0 ≤ mskV k := by unfold mskV; omega
    rw [BitVec.toNat_ofInt]
    rw [em] at hb hb0 ⊢
    omega
  rw [BitVec.toNat_and, e1, e2, IntKind.wrap_u32]
  have h5 := nat_mask x (32 - k) (by omega) hx
  rw [show 32 - (32 - k) = k by omega] at h5
  rw [h5]
  unfold cutA
  have e6 : ((x / 2 ^ (32 - k) * 2 ^ (32 - k) : Nat) : Int) = (x : Int) / 2 ^ (32 - k) * 2 ^ (32 - k) := by simp
  rw [e6]
  have h7 : x / 2 ^ (32 - k) * 2 ^ (32 - k) ≤ x := Nat.div_mul_le_self _ _
  have h8 : ((x / 2 ^ (32 - k) * 2 ^ (32 - k) : Nat) : Int) ≤ x := by exact_mod_cast h7
  rw [e6] at h8
  have h9 : (0 : Int) ≤ (x : Int) / 2 ^ (32 - k) * 2 ^ (32 - k) := by rw [← e6]; omega
  omega
theorem and_zero (a : Int) : bits .and .u32 a 0 = 0 := by
  show IntKind.u32.wrap ((BitVec.ofInt 32 a &&& BitVec.ofInt 32 0).toNat : Int) = _
  rw [show BitVec.ofInt 32 0 = 0#32 from rfl, BitVec.and_zero]
  rfl
theorem and_cut (a : Int) (k : Nat) (hk : k ≤ 32) (h0 : 0 ≤ a) (h1 : a ≤ 4294967295) : bits .and .u32 a (mskV k) = cutA a k := by
  by_cases hk1 : 1 ≤ k
  · exact and_mask a k hk hk1 h0 h1
  · obtain rfl : k = 0 := by omega
    have e : mskV 0 = 0 := rfl
    rw [e, and_zero]
    unfold cutA
    have : a / 2 ^ (32 - 0) = 0 := by
      have : (2 : Int) ^ (32 - 0) = 4294967296 := rfl
      rw [this]; omega
    rw [this]; simp
set_option maxHeartbeats 1000000 in
theorem mask_in (k : Nat) (hk : k ≤ 32) (w : World) : Calls Try.prog 94 #[.int .i64 (k : Int)] w fun e w' => e = .returned (.int .u32 (mskV k)) ∧ w = w' := by
  have hp := pow_bd k hk
  go_enter Try.func94, Try.ntmps94
  have hki : (k : Int) ≤ 32 := by omega
  --@a show
  go_wp2_with fail
  --@b show
  go_ret
  exact ⟨rfl, rfl⟩
end Go.Proofs.Ytfnclmacodchfaa
