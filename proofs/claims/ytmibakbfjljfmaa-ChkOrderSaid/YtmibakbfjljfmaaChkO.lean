/- chk: plain laws for ChkOrder: sums of parts, of words in another order. -/
import Derived.Test.YtmibakbfjljfmaaChkQ
namespace Go.Proofs.Ytmibakbfjljfmaa
set_option linter.unusedVariables false
open Go.RowKit

theorem wordAt_drop (l : List UInt8) (m i : Nat) : wordAt (l.drop (2 * m)) i = wordAt l (m + i) := by
  unfold wordAt; rw [byAt_drop, byAt_drop, show 2 * m + 2 * i = 2 * (m + i) from by omega, show 2 * m + (2 * i + 1) = 2 * (m + i) + 1 from by omega]
theorem wsum_drop (l : List UInt8) (m k : Nat) : wsum l (m + k) = wsum l m + wsum (l.drop (2 * m)) k := by
  induction k with
  | zero => simp [wsum]
  | succ k ih =>
    rw [show m + (k + 1) = (m + k) + 1 from by omega, show wsum l (m + k + 1) = wsum l (m + k) + wordAt l (m + k) from rfl, ih, show wsum (l.drop (2 * m)) (k + 1) = wsum (l.drop (2 * m)) k + wordAt (l.drop (2 * m)) k from rfl, wordAt_drop]
    omega
theorem wsum_take (l : List UInt8) (m k : Nat) (h : k ≤ m) : wsum (l.take (2 * m)) k = wsum l k := by
  induction k with
  | zero => rfl
  | succ k ih =>
    show wsum _ k + wordAt _ k = wsum l k + wordAt l k
    rw [ih (by omega)]
    unfold wordAt
    rw [byAt_take _ _ _ (by omega), byAt_take _ _ _ (by omega)]
/-- a sum of parts is the parts' sums' sum. -/
theorem csum_parts (l : List UInt8) (m : Nat) (h : 2 * m ≤ l.length) : foldV (csum (l.take (2 * m)) % 65536 + csum (l.drop (2 * m)) % 65536) = csum l := by
  have a1 := csum_lo (l.take (2 * m)); have a2 := csum_hi (l.take (2 * m)); have b1 := csum_lo (l.drop (2 * m)); have b2 := csum_hi (l.drop (2 * m))
  rw [Int.emod_eq_of_lt a1 (by omega), Int.emod_eq_of_lt b1 (by omega)]
  unfold csum
  have c1 := wsum_lo (l.take (2 * m)) (((l.take (2 * m)).length + 1) / 2)
  have c2 := wsum_lo (l.drop (2 * m)) (((l.drop (2 * m)).length + 1) / 2)
  rw [foldV_foldV _ _ c1 (foldV_lo _ c2), Int.add_comm, foldV_foldV _ _ c2 c1]
  rw [show ((l.take (2 * m)).length + 1) / 2 = m from by rw [List.length_take]; omega, wsum_take _ _ _ (Nat.le_refl _)]
  rw [show ((l.drop (2 * m)).length + 1) / 2 = (l.length + 1) / 2 - m from by rw [List.length_drop]; omega]
  have e := wsum_drop l m ((l.length + 1) / 2 - m)
  rw [show m + ((l.length + 1) / 2 - m) = (l.length + 1) / 2 from by omega] at e
  rw [e, Int.add_comm]

/-- words in bytes. -/
def wbytes (f : Nat → Int) : Nat → List UInt8
  | 0 => []
  | k + 1 => wbytes f k ++ [byOf (f k / 256), byOf (f k)]
theorem wbytes_len (f : Nat → Int) (k : Nat) : (wbytes f k).length = 2 * k := by
  induction k with
  | zero => rfl
  | succ k ih => simp [wbytes, ih]; omega
theorem byAt_app_l (l k : List UInt8) (j : Nat) (h : j < l.length) : byAt (l ++ k) j = byAt l j := by unfold byAt; rw [List.getElem?_append_left h]
theorem byAt_app_r (l k : List UInt8) (j : Nat) : byAt (l ++ k) (l.length + j) = byAt k j := by unfold byAt; rw [List.getElem?_append_right (by omega), Nat.add_sub_cancel_left]
theorem wsum_app (l k : List UInt8) (m i : Nat) (h : 2 * m ≤ l.length) (hi : i ≤ m) : wsum (l ++ k) i = wsum l i := by
  induction i with
  | zero => rfl
  | succ i ih =>
    show wsum _ i + wordAt _ i = wsum l i + wordAt l i
    rw [ih (by omega)]
    unfold wordAt
    rw [byAt_app_l _ _ _ (by omega), byAt_app_l _ _ _ (by omega)]
theorem wsum_wbytes (f : Nat → Int) (k : Nat) (h : ∀ i, i < k → 0 ≤ f i ∧ f i ≤ 65535) : wsum (wbytes f k) k = ((List.range k).map f).sum := by
  induction k with
  | zero => rfl
  | succ k ih =>
    rw [List.range_succ, List.map_append, List.sum_append, ← ih (fun i hi => h i (by omega))]
    show wsum _ k + wordAt _ k = _
    rw [show wbytes f (k + 1) = wbytes f k ++ [byOf (f k / 256), byOf (f k)] from rfl, wsum_app _ _ k k (by rw [wbytes_len]; omega) (Nat.le_refl _)]
    congr 1
    obtain ⟨h1, h2⟩ := h k (by omega)
    unfold wordAt
    have e1 := byAt_app_r (wbytes f k) [byOf (f k / 256), byOf (f k)] 0
    have e2 := byAt_app_r (wbytes f k) [byOf (f k / 256), byOf (f k)] 1
    rw [wbytes_len] at e1 e2
    rw [Nat.add_zero] at e1
    rw [e1, e2]
    simp only [byAt, List.getElem?_cons_zero, List.getElem?_cons_succ, Option.getD_some, byOf_val, List.map_cons, List.map_nil, List.sum_cons, List.sum_nil]
    omega
theorem csum_wbytes (f : Nat → Int) (k : Nat) (h : ∀ i, i < k → 0 ≤ f i ∧ f i ≤ 65535) : csum (wbytes f k) = foldV ((List.range k).map f).sum := by
  unfold csum
  rw [wbytes_len, show (2 * k + 1) / 2 = k from by omega, wsum_wbytes f k h]
theorem sum_shift (f : Nat → Int) (k : Nat) : ((List.range k).map fun i => f (i + 1)).sum + f 0 = ((List.range k).map f).sum + f k := by
  induction k with
  | zero => simp
  | succ k ih => rw [List.range_succ, List.map_append, List.map_append, List.sum_append, List.sum_append]; simp only [List.map_cons, List.map_nil, List.sum_cons, List.sum_nil]; omega
theorem sum_rot (f : Nat → Int) (n t : Nat) (h : 0 < n) : ((List.range n).map fun i => f ((i + t) % n)).sum = ((List.range n).map f).sum := by
  induction t with
  | zero =>
    congr 1
    refine List.map_congr_left fun i hi => ?_
    rw [Nat.add_zero, Nat.mod_eq_of_lt (List.mem_range.1 hi)]
  | succ t ih =>
    have e := sum_shift (fun i => f ((i + t) % n)) n
    rw [show (fun i => f ((i + (t + 1)) % n)) = fun i => f ((i + 1 + t) % n) from by funext i; rw [show i + (t + 1) = i + 1 + t from by omega]]
    rw [show (n + t) % n = (0 + t) % n from by rw [Nat.add_mod_left, Nat.zero_add]] at e
    omega
end Go.Proofs.Ytmibakbfjljfmaa
