/- Plain facts on the bit operations of int (i64) by masks, and small helpers. -/
import Derived.WalkKit
import Derived.WalkSpells
import Derived.WalkLawsBesides
import Derived.Laws.BitsAllLaws
import Derived.Laws.BitsLemmas
namespace Go.Proofs.Ytlkammmadchjnaa
set_option linter.unusedVariables false
open Go.RowKit

theorem and16 (n : Int) : bits .and .i64 n 65535 = n % 65536 := by
  show IntKind.i64.wrap ((BitVec.ofInt 64 n &&& BitVec.ofInt 64 65535).toNat : Int) = _
  have h1 : (BitVec.ofInt 64 65535).toNat = 2 ^ 16 - 1 := by decide
  rw [BitVec.toNat_and, h1, Nat.and_two_pow_sub_one_eq_mod, BitVec.toNat_ofInt, IntKind.wrap_i64]
  omega
theorem andNot16 (n : Int) : bits .andNot .i64 65535 n = 65535 - n % 65536 := by
  show IntKind.i64.wrap ((BitVec.ofInt 64 65535 &&& ~~~ BitVec.ofInt 64 n).toNat : Int) = _
  have h1 : (BitVec.ofInt 64 65535).toNat = 2 ^ 16 - 1 := by decide
  rw [BitVec.toNat_and, h1, Nat.and_comm, Nat.and_two_pow_sub_one_eq_mod, BitVec.toNat_not, BitVec.toNat_ofInt, IntKind.wrap_i64]
  omega
theorem u32_and16 (n : Int) : bits .and .u32 n 65535 = n % 65536 := by
  show IntKind.u32.wrap ((BitVec.ofInt 32 n &&& BitVec.ofInt 32 65535).toNat : Int) = _
  have h1 : (BitVec.ofInt 32 65535).toNat = 2 ^ 16 - 1 := by decide
  rw [BitVec.toNat_and, h1, Nat.and_two_pow_sub_one_eq_mod, BitVec.toNat_ofInt, IntKind.wrap_u32]
  omega
theorem u32_and8 (n : Int) : bits .and .u32 n 255 = n % 256 := by
  show IntKind.u32.wrap ((BitVec.ofInt 32 n &&& BitVec.ofInt 32 255).toNat : Int) = _
  have h1 : (BitVec.ofInt 32 255).toNat = 2 ^ 8 - 1 := by decide
  rw [BitVec.toNat_and, h1, Nat.and_two_pow_sub_one_eq_mod, BitVec.toNat_ofInt, IntKind.wrap_u32]
  omega
attribute [go_sem] and16 andNot16 u32_and16 u32_and8
/-- a number's lowest byte. -/
def byOf (n : Int) : UInt8 := UInt8.ofNat (n % 256).toNat
theorem byOf_val (n : Int) : ((byOf n).toNat : Int) = n % 256 := by
  unfold byOf; rw [UInt8.toNat_ofNat']; omega
theorem shl8_or (x y : Int) (hx : 0 ≤ x) (hx2 : x ≤ 255) (hy : 0 ≤ y) (hy2 : y ≤ 255) : bits .or .i64 (x * 256) y = x * 256 + y := by
  obtain ⟨a, rfl⟩ := Int.eq_ofNat_of_zero_le hx
  obtain ⟨b, rfl⟩ := Int.eq_ofNat_of_zero_le hy
  show IntKind.i64.wrap ((BitVec.ofInt 64 ((a : Int) * 256) ||| BitVec.ofInt 64 (b : Int)).toNat : Int) = _
  have ha : (BitVec.ofInt 64 ((a : Int) * 256)).toNat = a * 256 := by rw [BitVec.toNat_ofInt]; omega
  have hb : (BitVec.ofInt 64 (b : Int)).toNat = b := by rw [BitVec.toNat_ofInt]; omega
  rw [BitVec.toNat_or, ha, hb, IntKind.wrap_i64]
  have h2 : a * 256 ||| b = a * 256 + b := by
    have := Nat.two_pow_add_eq_or_of_lt (i := 8) (b := b) (by omega) a
    rw [Nat.mul_comm] at this
    exact this.symm
  rw [h2]; omega
theorem ret_int {k : IntKind} {a b : Int} (h : a = b) : Ending.returned (.int k a) = .returned (.int k b) := by rw [h]
theorem ret_bool {a b : Bool} (h : a = b) : Ending.returned (.bool a) = .returned (.bool b) := by rw [h]

end Go.Proofs.Ytlkammmadchjnaa
