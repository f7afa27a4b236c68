/- chk: plain laws on sums of words. -/
import Derived.Test.YtlkammmadchjnaaChkB
namespace Go.Proofs.Ytlkammmadchjnaa
set_option linter.unusedVariables false
open Go.RowKit

theorem byAt_set_same (l : List UInt8) (j : Nat) (z : Int) (h : j < l.length) (z1 : 0 ≤ z) (z2 : z ≤ 255) : byAt (l.set j (byOf z)) j = z := by
  unfold byAt
  rw [List.getElem?_set_self h, Option.getD_some, byOf_val, Int.emod_eq_of_lt z1 (by omega)]
theorem byAt_set_other (l : List UInt8) (j i : Nat) (c : UInt8) (h : i ≠ j) : byAt (l.set j c) i = byAt l i := by
  unfold byAt
  rw [List.getElem?_set_ne (by omega)]

/-- word j replaced by a number. -/
def putW (l : List UInt8) (j : Nat) (hi lo : Int) : List UInt8 := (l.set (2 * j) (byOf hi)).set (2 * j + 1) (byOf lo)
theorem putW_len (l : List UInt8) (j : Nat) (hi lo : Int) : (putW l j hi lo).length = l.length := by simp [putW]
theorem wordAt_put (l : List UInt8) (j i : Nat) (hi lo : Int) (h : 2 * j + 1 < l.length) (a1 : 0 ≤ hi) (a2 : hi ≤ 255) (b1 : 0 ≤ lo) (b2 : lo ≤ 255) :
    wordAt (putW l j hi lo) i = if i = j then hi * 256 + lo else wordAt l i := by
  unfold wordAt putW
  by_cases e : i = j
  · subst e
    rw [if_pos rfl, byAt_set_other _ _ _ _ (by omega), byAt_set_same _ _ _ (by omega) a1 a2, byAt_set_same _ _ _ (by simp; omega) b1 b2]
  · rw [if_neg e, byAt_set_other _ _ _ _ (by omega), byAt_set_other _ _ _ _ (by omega), byAt_set_other _ _ _ _ (by omega), byAt_set_other _ _ _ _ (by omega)]
theorem wsum_put (l : List UInt8) (j : Nat) (hi lo : Int) (h : 2 * j + 1 < l.length) (a1 : 0 ≤ hi) (a2 : hi ≤ 255) (b1 : 0 ≤ lo) (b2 : lo ≤ 255) (k : Nat) :
    wsum (putW l j hi lo) k = if j < k then wsum l k - wordAt l j + (hi * 256 + lo) else wsum l k := by
  induction k with
  | zero => rfl
  | succ k ih =>
    show wsum (putW l j hi lo) k + wordAt (putW l j hi lo) k = _
    rw [ih, wordAt_put l j k hi lo h a1 a2 b1 b2]
    rw [show wsum l (k + 1) = wsum l k + wordAt l k from rfl]
    by_cases e1 : j < k
    · rw [if_pos e1, if_neg (by omega), if_pos (by omega)]; omega
    · by_cases e2 : k = j
      · subst e2; rw [if_neg e1, if_pos rfl, if_pos (by omega)]; omega
      · rw [if_neg e1, if_neg e2, if_neg (by omega)]
theorem putW_put (l : List UInt8) (j : Nat) (a b c d : Int) (_h : 2 * j + 1 < l.length) : putW (putW l j a b) j c d = putW l j c d := by
  unfold putW
  rw [List.set_comm _ _ (show 2 * j + 1 ≠ 2 * j by omega), List.set_set, List.set_set]
/-- the sum but for one word. -/
def rest (l : List UInt8) (j : Nat) : Int := wsum l ((l.length + 1) / 2) - wordAt l j
theorem wsum_ge (l : List UInt8) (j k : Nat) (h : j < k) : wordAt l j ≤ wsum l k := by
  induction k with
  | zero => omega
  | succ k ih =>
    have h1 := wsum_lo l k; have h2 := wordAt_lo l k
    rw [show wsum l (k + 1) = wsum l k + wordAt l k from rfl]
    by_cases e : j = k
    · subst e; omega
    · have := ih (by omega); omega
theorem rest_lo (l : List UInt8) (j : Nat) (h : 2 * j + 1 < l.length) : 0 ≤ rest l j := by
  have := wsum_ge l j ((l.length + 1) / 2) (by omega)
  unfold rest; omega
theorem csum_put (l : List UInt8) (j : Nat) (hi lo : Int) (h : 2 * j + 1 < l.length) (a1 : 0 ≤ hi) (a2 : hi ≤ 255) (b1 : 0 ≤ lo) (b2 : lo ≤ 255) :
    csum (putW l j hi lo) = foldV (rest l j + (hi * 256 + lo)) := by
  unfold csum rest
  rw [putW_len, wsum_put l j hi lo h a1 a2 b1 b2, if_pos (by omega)]
theorem csum_word (l : List UInt8) (j : Nat) (h : 2 * j + 1 < l.length) : csum l = foldV (rest l j + wordAt l j) := by
  unfold csum rest; congr 1; omega

/-- the seal makes them good. -/
theorem seal_good (R : Int) (h : 0 ≤ R) : foldV (R + (65535 - foldV R)) = 65535 := by
  unfold foldV; repeat' (first | omega | split)
theorem seal_other (R s w : Int) (h : 0 ≤ R) (hs : s = 65535 - foldV R) (w1 : 0 ≤ w) (w2 : w ≤ 65535) :
    (foldV (R + w) == 65535) = (decide (w = s ∨ s = 0 ∧ w = 65535)) := by
  subst hs
  rw [Bool.eq_iff_iff, beq_iff_eq, decide_eq_true_iff]
  unfold foldV
  repeat' (first | omega | split)
/-- the updated sum makes them good again. -/
theorem update_good (R o w C : Int) (hR : 0 ≤ R) (ho : 0 ≤ o) (ho2 : o ≤ 65535) (hw : 0 ≤ w) (hw2 : w ≤ 65535) (hC : C = foldV (R + o)) :
    0 ≤ 65535 - foldV (foldV ((65535 - (65535 - C) % 65536) + (65535 - o % 65536)) + w % 65536) ∧ 65535 - foldV (foldV ((65535 - (65535 - C) % 65536) + (65535 - o % 65536)) + w % 65536) ≤ 65535 ∧
    (0 < R + w → foldV (foldV (R + w) % 65536 + (65535 - foldV (foldV ((65535 - (65535 - C) % 65536) + (65535 - o % 65536)) + w % 65536)) % 65536) = 65535) := by
  have c1 := foldV_lo (R + o) (by omega)
  have c2 := foldV_hi (R + o)
  rw [show 65535 - (65535 - C) % 65536 + (65535 - o % 65536) = C + (65535 - o) from by omega, show w % 65536 = w from by omega, foldV_foldV _ _ (by omega) hw, hC, Int.add_assoc, foldV_foldV _ _ (by omega) (by omega)]
  rw [show R + o + (65535 - o + w) = R + w + 65535 from by omega]
  have d1 := foldV_lo (R + w + 65535) (by omega)
  have d2 := foldV_hi (R + w + 65535)
  refine ⟨by omega, by omega, fun h => ?_⟩
  unfold foldV
  repeat' (first | omega | split)
end Go.Proofs.Ytlkammmadchjnaa
