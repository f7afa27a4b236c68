/- ip: both builds are the same bytes; Same. -/
import Derived.Test.YthbfnppgaaeilaaDoorIpG
import Derived.BigGuardPart
namespace Go.Proofs.YthbfnppgaaeilaaDoor
set_option linter.unusedVariables false
open Go.RowKit

theorem be_one (x : Int) : be x 1 = [byOf x] := by simp [be]
theorem head_ref (t i f g l p s d : Int) (n m : Nat) (hgd : goodH t i f g l p n = true) (hmn : m + n ≤ 8980) : headL t i f g l p s d n m = refL t i f g l p s d n (20 + n + m) 0 := by
  have hb : 0 ≤ t ∧ t ≤ 255 ∧ 0 ≤ l ∧ l ≤ 255 ∧ 0 ≤ p ∧ p ≤ 255 ∧ 0 ≤ i ∧ i ≤ 65535 ∧ n ≤ 40 := by simp [goodH, inH] at hgd; omega
  unfold headL refL
  rw [be_one, be_one, be_one, be_one, Int.emod_eq_of_lt (a := 20 + (n : Int) + m) (by omega) (by omega), Int.emod_eq_of_lt (a := i) (by omega) (by omega), Int.emod_eq_of_lt (a := 0) (by omega) (by omega)]
  simp [List.append_assoc]
theorem refL_len (t i f g l p s d : Int) (n : Nat) (N sum : Int) : (refL t i f g l p s d n N sum).length = 20 := by simp [refL, be_len]
theorem refL_set (t i f g l p s d : Int) (n : Nat) (N sum x : Int) (o : List UInt8) (h0 : 0 ≤ x) (h1 : x ≤ 65535) : set10 (refL t i f g l p s d n N sum ++ o) x = refL t i f g l p s d n N x ++ o := by
  have e : ∀ y, refL t i f g l p s d n N y ++ o = ([byOf (64 + (20 + (n : Int)) / 4), byOf t] ++ be (N % 18446744073709551616) 2 ++ be (i % 18446744073709551616) 2 ++ be (f * 8192 + g) 2 ++ [byOf l, byOf p]) ++ (be (y % 18446744073709551616) 2 ++ (be s 4 ++ be d 4 ++ o)) := fun y => by simp [refL, List.append_assoc]
  have hl : ([byOf (64 + (20 + (n : Int)) / 4), byOf t] ++ be (N % 18446744073709551616) 2 ++ be (i % 18446744073709551616) 2 ++ be (f * 8192 + g) 2 ++ [byOf l, byOf p]).length = 10 := by simp [be_len]
  rw [e, e]
  generalize [byOf (64 + (20 + (n : Int)) / 4), byOf t] ++ be (N % 18446744073709551616) 2 ++ be (i % 18446744073709551616) 2 ++ be (f * 8192 + g) 2 ++ [byOf l, byOf p] = H at hl ⊢
  unfold set10
  rw [List.take_left' hl, Int.emod_eq_of_lt h0 (by omega)]
  congr 2
  rw [← List.append_assoc, List.drop_left' (by simp [hl, be_len])]
theorem builds_same (t i f g l p s d : Int) (n m : Nat) (o pl : List UInt8) (hgd : goodH t i f g l p n = true) (hmn : m + n ≤ 8980) (ho : o.length = n) :
    set10 (headL t i f g l p s d n m ++ o) (sealV (headL t i f g l p s d n m ++ o) (20 + n)) ++ pl = refL t i f g l p s d n (20 + n + m) (65535 - csum (refL t i f g l p s d n (20 + n + m) 0 ++ o)) ++ o ++ pl := by
  rw [head_ref t i f g l p s d n m hgd hmn]
  have h1 := csum_lo (refL t i f g l p s d n (20 + n + m) 0 ++ o)
  have h2 := csum_hi (refL t i f g l p s d n (20 + n + m) 0 ++ o)
  have hs : sealV (refL t i f g l p s d n (20 + n + m) 0 ++ o) (20 + n) = 65535 - csum (refL t i f g l p s d n (20 + n + m) 0 ++ o) := by
    unfold sealV
    rw [refL_set _ _ _ _ _ _ _ _ _ _ _ _ _ (by omega) (by omega), List.take_of_length_le (by rw [List.length_append, refL_len, ho]; omega)]
  rw [hs, refL_set _ _ _ _ _ _ _ _ _ _ _ _ _ (by omega) (by omega)]

/-- two heads are alike. -/
def sameH (t i f g l p s d : Int) (o : List UInt8) (t' i' f' g' l' p' s' d' : Int) (o' : List UInt8) : Bool :=
  t == t' && i == i' && f == f' && g == g' && l == l' && p == p' && s == s' && d == d' && ((strB o).toList == (strB o').toList)
end Go.Proofs.YthbfnppgaaeilaaDoor
