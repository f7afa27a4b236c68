/- the document's Mask and Good of prefixes. -/
import Derived.Test.YtfnclmacodchfaaPfC
import Derived.LoopTactic
namespace Go.Proofs.Ytfnclmacodchfaa
set_option linter.unusedVariables false
open Go.RowKit

theorem mskV_nat (k : Nat) (hk : k ≤ 32) : mskV k = (((2 ^ k - 1) * 2 ^ (32 - k) : Nat) : Int) := by
  have h3 : (2 ^ k - 1) * 2 ^ (32 - k) = 2 ^ 32 - 2 ^ (32 - k) := by
    rw [Nat.sub_mul, ← Nat.pow_add, show k + (32 - k) = 32 by omega, Nat.one_mul]
  rw [h3]
  have h4 : 2 ^ (32 - k) ≤ 2 ^ 32 := Nat.pow_le_pow_right (by decide) (by omega)
  have e : ((2 ^ (32 - k) : Nat) : Int) = (2 : Int) ^ (32 - k) := by simp
  unfold mskV
  rw [← e]
  omega
theorem mskV_bd (k : Nat) (hk : k ≤ 32) : 0 ≤ mskV k ∧ mskV k ≤ 4294967295 := by
  have := pow_bd k hk
  unfold mskV
  omega
theorem or_mask (k : Nat) (hk : k < 32) : bits .or .u32 (mskV k) (2 ^ (31 - k)) = mskV (k + 1) := by
  have hb := mskV_bd k (by omega)
  have e2 : ((2 ^ (31 - k) : Nat) : Int) = (2 : Int) ^ (31 - k) := by simp
  have hp : 2 ^ (31 - k) ≤ 2 ^ 31 := Nat.pow_le_pow_right (by decide) (by omega)
  show IntKind.u32.wrap ((BitVec.ofInt 32 (mskV k) ||| BitVec.ofInt 32 (2 ^ (31 - k))).toNat : Int) = _
  rw [mskV_nat k (by omega)] at hb ⊢
  rw [← e2]
  have t1 : (BitVec.ofInt 32 (((2 ^ k - 1) * 2 ^ (32 - k) : Nat) : Int)).toNat = (2 ^ k - 1) * 2 ^ (32 - k) := by rw [BitVec.toNat_ofInt]; omega
  have t2 : (BitVec.ofInt 32 ((2 ^ (31 - k) : Nat) : Int)).toNat = 2 ^ (31 - k) := by
    rw [BitVec.toNat_ofInt]
    generalize 2 ^ (31 - k) = p at hp ⊢
    omega
  rw [BitVec.toNat_or, t1, t2, IntKind.wrap_u32]
  have h5 : 2 ^ (32 - k) * (2 ^ k - 1) + 2 ^ (31 - k) = 2 ^ (32 - k) * (2 ^ k - 1) ||| 2 ^ (31 - k) := Nat.two_pow_add_eq_or_of_lt (i := 32 - k) (b := 2 ^ (31 - k)) (Nat.pow_lt_pow_right (by decide) (by omega)) (2 ^ k - 1)
  rw [Nat.mul_comm (2 ^ k - 1), ← h5]
  have hb2 := mskV_bd (k + 1) (by omega)
  have e6 : mskV (k + 1) = ((2 ^ (32 - k) * (2 ^ k - 1) + 2 ^ (31 - k) : Nat) : Int) := by
    have h7 := mskV_nat k (by omega)
    rw [Nat.mul_comm] at h7
    have h8 : (2 : Int) ^ (32 - k) = 2 * 2 ^ (31 - k) := by rw [show 32 - k = (31 - k) + 1 by omega, Int.pow_succ]; omega
    have h9 : mskV (k + 1) = mskV k + 2 ^ (31 - k) := by
      unfold mskV
      rw [show 32 - (k + 1) = 31 - k by omega, h8]; omega
    rw [h9, h7, Int.natCast_add, e2]
  rw [← e6]
  omega
set_option maxHeartbeats 2000000 in
theorem refMask_any (n : Int) (w : World) : Calls Try.prog 65 #[.int .i64 n] w fun e w' => e = .returned (.int .u32 (mskV (clampN n))) ∧ w = w' := by
  go_enter Try.func65, Try.ntmps65
  go_wp2_with fail
  go_loop [3, 4] (fun m i => ∃ k : Nat, k ≤ 32 ∧ (k : Int) ≤ max n 0 ∧ i = .int .i64 (k : Int) ∧ m = .int .u32 (mskV k)) (fun _ i => 32 - (intOf i).toNat)
  case atStart => exact ⟨0, by omega, by omega, rfl, rfl⟩
  case round =>
    obtain ⟨k, hk, hkn, rfl, rfl⟩ := hrel
    have hb := mskV_bd k hk
    by_cases hlt : (k : Int) < n
    · by_cases h32 : k < 32
      · have h32' : (k : Int) < 32 := by omega
        have hor := or_mask k h32
        have hb2 := mskV_bd (k + 1) (by omega)
        have hp2 : (31 - (k : Int)).toNat = 31 - k := by omega
        have hpm : (2 : Int) ^ (31 - k) % 4294967296 = 2 ^ (31 - k) := by
          have e2 : ((2 ^ (31 - k) : Nat) : Int) = (2 : Int) ^ (31 - k) := by simp
          have hp : 2 ^ (31 - k) ≤ 2 ^ 31 := Nat.pow_le_pow_right (by decide) (by omega)
          rw [← e2]
          generalize 2 ^ (31 - k) = p at hp ⊢
          omega
        replace hor := Lib.hid hor
        replace hpm := Lib.hid hpm
        --@a show
        go_wp2_with fail
        --@b show
        go_round
        case rel => exact ⟨k + 1, by omega, by omega, by go_num, by rw [hpm.out, hor.out]⟩
        case measure => simp [intOf]; omega
      · obtain rfl : k = 32 := by omega
        have e : clampN n = 32 := by unfold clampN; split <;> (try split) <;> omega
        replace e := Lib.hid e
        go_wp2_with fail
        go_ret
        exact ⟨ret_int (by rw [e.out]), rfl⟩
    · have e : clampN n = k := by unfold clampN; split <;> (try split) <;> omega
      have hle : n ≤ k := by omega
      replace e := Lib.hid e
      go_wp2_with fail
      go_ret
      exact ⟨ret_int (by rw [e.out]), rfl⟩
end Go.Proofs.Ytfnclmacodchfaa
