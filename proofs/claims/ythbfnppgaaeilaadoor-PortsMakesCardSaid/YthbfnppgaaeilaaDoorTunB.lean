/- tunnel: Unwrap, Is. -/
import Derived.Test.YthbfnppgaaeilaaDoorTunA
namespace Go.Proofs.YthbfnppgaaeilaaDoor
set_option linter.unusedVariables false
open Go.RowKit

theorem and1 (n : Int) : bits .and .i64 n 1 = n % 2 := by
  show IntKind.i64.wrap ((BitVec.ofInt 64 n &&& BitVec.ofInt 64 1).toNat : Int) = _
  have h1 : (BitVec.ofInt 64 1).toNat = 2 ^ 1 - 1 := by decide
  rw [BitVec.toNat_and, h1, Nat.and_two_pow_sub_one_eq_mod, BitVec.toNat_ofInt, IntKind.wrap_i64]
  omega
attribute [go_sem] and1
theorem results_tct {P : Program} {fn : Func} {a u u2 : Tmp} {ty : TypeId} {w : World} {ad : Addr} {v : Value} (h : fn.results = #[.tmp u, .cell a ty, .tmp u2]) (tmps : Array Value) (ha : tmps.getD a undef = .pointer (some ad)) (hl : (loadVar ty ad).run P w = .ok v w) :
    (results fn tmps).run P w = .ok (.tuple #[tmps.getD u undef, v, tmps.getD u2 undef]) w := by
  have ha2 := ha
  simp only [Array.getD_eq_getD_getElem?] at ha2
  simp [results, h, ha2, asAddr, hl]
def unwE (l : List UInt8) : Int := if errV l ≠ 0 then errV l else if fP l ≠ 4 then 7 else if 0 < fG l ∨ fF l % 2 ≠ 0 then 8 else errV (payL l)
def unwL (l : List UInt8) : List UInt8 := if unwE l = 0 then (payL l).take (lnK (payL l)).toNat else []
theorem unwE_ok {l : List UInt8} (h : unwE l = 0) : errV l = 0 ∧ fP l = 4 ∧ fG l ≤ 0 ∧ fF l % 2 = 0 ∧ errV (payL l) = 0 := by
  unfold unwE at h
  split at h
  · omega
  split at h
  · omega
  split at h
  · omega
  rename_i h1 h2 h3
  exact ⟨by omega, by omega, by omega, by omega, h⟩
end Go.Proofs.YthbfnppgaaeilaaDoor
