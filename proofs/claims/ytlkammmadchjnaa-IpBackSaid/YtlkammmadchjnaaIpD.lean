/- ip: Build. -/
import Derived.Test.YtlkammmadchjnaaIpC
import Derived.Test.YtlkammmadchjnaaWirR
namespace Go.Proofs.Ytlkammmadchjnaa
set_option linter.unusedVariables false
open Go.RowKit

theorem or64 (x : Int) (h0 : 0 ≤ x) (h1 : x ≤ 63) : bits .or .i64 64 x = 64 + x := by
  obtain ⟨a, rfl⟩ := Int.eq_ofNat_of_zero_le h0
  show IntKind.i64.wrap ((BitVec.ofInt 64 64 ||| BitVec.ofInt 64 (a : Int)).toNat : Int) = _
  have hb : (BitVec.ofInt 64 (a : Int)).toNat = a := by rw [BitVec.toNat_ofInt]; omega
  have ha : (BitVec.ofInt 64 64).toNat = 64 := by decide
  rw [BitVec.toNat_or, ha, hb, IntKind.wrap_i64]
  have h2 : 64 ||| a = 64 + a := by
    have := Nat.two_pow_add_eq_or_of_lt (i := 6) (b := a) (by omega) 1
    simpa using this.symm
  rw [h2]; omega
theorem or13 (f g : Int) (f0 : 0 ≤ f) (f1 : f ≤ 7) (g0 : 0 ≤ g) (g1 : g ≤ 8191) : bits .or .i64 (f * 8192) g = f * 8192 + g := by
  obtain ⟨a, rfl⟩ := Int.eq_ofNat_of_zero_le f0
  obtain ⟨b, rfl⟩ := Int.eq_ofNat_of_zero_le g0
  show IntKind.i64.wrap ((BitVec.ofInt 64 ((a : Int) * 8192) ||| BitVec.ofInt 64 (b : Int)).toNat : Int) = _
  have ha : (BitVec.ofInt 64 ((a : Int) * 8192)).toNat = a * 8192 := by rw [BitVec.toNat_ofInt]; omega
  have hb : (BitVec.ofInt 64 (b : Int)).toNat = b := by rw [BitVec.toNat_ofInt]; omega
  rw [BitVec.toNat_or, ha, hb, IntKind.wrap_i64]
  have h2 : a * 8192 ||| b = a * 8192 + b := by
    have := Nat.two_pow_add_eq_or_of_lt (i := 13) (b := b) (by omega) a
    rw [Nat.mul_comm] at this
    exact this.symm
  rw [h2]; omega

def Hdr (t i f g l p s d : Int) (A : Option Addr) (n c : Nat) : Value := .agg #[.int .i64 t, .int .i64 i, .int .i64 f, .int .i64 g, .int .i64 l, .int .i64 p, .int .u32 s, .int .u32 d, .slice A n c]
set_option maxHeartbeats 2000000 in
theorem build_no (t i f g l p s d : Int) (A : Option Addr) (n c : Nat) (X : Option Addr) (m k : Nat) (w : World) (hn : n ≤ 300) (hm : m ≤ 12000) (hno : goodH t i f g l p n = false ∨ 8980 < m + n) :
    Calls Try.prog 11 #[.agg #[.int .i64 t, .int .i64 i, .int .i64 f, .int .i64 g, .int .i64 l, .int .i64 p, .int .u32 s, .int .u32 d, .slice A n c], .slice X m k] w fun e w' => e = .returned (.slice none 0 0) ∧ Below w.heap.size w w' := by
  have hk := Blk.new w 25 (hdrCs t i f g l p s d A n c)
  have hB := (Below.refl w.heap.size w).alloc (Nat.le_refl _) (.cells (hdrCs t i f g l p s d A n c) 25)
  go_enter Try.func11, Try.ntmps11
  go_wp2_with fail
  refine (ipGood_any t i f g l p s d A n c _ hn).mono ?_
  rintro e w1 ⟨rfl, hb⟩
  cases hg : goodH t i f g l p n with
  | false =>
    go_wp2_with fail
    go_ret
    exact ⟨rfl, hB.trans (hb.mono hB.size)⟩
  | true =>
    have hlt : 8980 < m + n := by
      rcases hno with h | h
      · rw [hg] at h; cases h
      · exact h
    have hlt' : (9000 : Int) - (20 + n) < (m : Int) := by omega
    go_wp2_with fail
    go_ret
    exact ⟨rfl, hB.trans (hb.mono hB.size)⟩

end Go.Proofs.Ytlkammmadchjnaa
