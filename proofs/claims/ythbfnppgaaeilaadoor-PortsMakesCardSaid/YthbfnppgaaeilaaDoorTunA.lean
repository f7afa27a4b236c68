/- tunnel: alone, Wrap. -/
import Derived.Test.YthbfnppgaaeilaaDoorPrtC
namespace Go.Proofs.YthbfnppgaaeilaaDoor
set_option linter.unusedVariables false
open Go.RowKit

theorem and2_bd (n : Int) : 0 ≤ bits .and .i64 n 2 ∧ bits .and .i64 n 2 ≤ 2 := by
  have e : bits .and .i64 n 2 = ((BitVec.ofInt 64 n &&& BitVec.ofInt 64 2).toNat : Int) := by
    show IntKind.i64.wrap ((BitVec.ofInt 64 n &&& BitVec.ofInt 64 2).toNat : Int) = _
    have h : (BitVec.ofInt 64 n &&& BitVec.ofInt 64 2).toNat ≤ 2 := by
      rw [BitVec.toNat_and]; exact Nat.and_le_right
    rw [IntKind.wrap_i64]; omega
  have h : (BitVec.ofInt 64 n &&& BitVec.ofInt 64 2).toNat ≤ 2 := by
    rw [BitVec.toNat_and]; exact Nat.and_le_right
  omega
def flagW (l : List UInt8) : Int := bits .and .i64 (fF l) 2
def wrapE (l : List UInt8) : Int := if errV l ≠ 0 then errV l else if 8980 < lnK l then 10 else 0
def wrapL (l : List UInt8) (s d : Int) : List UInt8 := if errV l ≠ 0 then [] else buildL (fT l) (fI l) (flagW l) 0 64 4 s d [] (l.take (lnK l).toNat)
theorem wrap_good {l : List UInt8} (h : errV l = 0) : goodH (fT l) (fI l) (flagW l) 0 64 4 0 = true := by
  have h2 := and2_bd (fF l)
  have e1 := (errV_ok h).1
  have ht : 0 ≤ fT l ∧ fT l ≤ 255 := by
    unfold fT pT; rw [if_pos h]
    exact ⟨numV_lo _ _, by unfold numV; split; omega; simp only [getN]; have := byAt_hi (tk (stp (hdL l) 1) ((1 : Nat) : Int)).2 0; omega⟩
  have hi : 0 ≤ fI l ∧ fI l ≤ 65535 := by
    unfold fI pI; rw [if_pos h]
    exact ⟨numV_lo _ _, by unfold numV; split; omega; exact getN_2 _ _ (by omega)⟩
  simp [goodH, inH, flagW]
  exact ⟨⟨ht, hi⟩, decide_eq_true h2.1, decide_eq_true (by omega)⟩
theorem take_ln_len {l : List UInt8} (h : errV l = 0) : (l.take (lnK l).toNat).length = (lnK l).toNat := by
  have := errV_ok h
  rw [List.length_take]; omega
end Go.Proofs.YthbfnppgaaeilaaDoor
