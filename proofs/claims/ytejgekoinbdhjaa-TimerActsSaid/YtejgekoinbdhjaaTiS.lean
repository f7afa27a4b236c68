/- timer: plain laws for TimerTimes. -/
import Derived.Test.YtejgekoinbdhjaaTiR
namespace Go.Proofs.Ytejgekoinbdhjaa
set_option linter.unusedVariables false
open Go Go.RowKit Go.Maps

def slotN (bs : List UInt8) (i : Nat) : Slo := ⟨i, 1 + byAt bs i, i + 1⟩
def rowN (bs : List UInt8) (n : Nat) : List Slo := (List.range n).map (slotN bs)
/-- those that expire at t or later. -/
def fromN (bs : List UInt8) (n : Nat) (t : Int) : List Slo := (rowN bs n).filter fun s => decide (t ≤ s.ex)
def nowN (bs : List UInt8) (n : Nat) (t : Int) : List Int := ((fromN bs n t).filter (isAt t)).map Slo.id
theorem rowN_succ (bs : List UInt8) (n : Nat) : rowN bs (n + 1) = rowN bs n ++ [slotN bs n] := by
  unfold rowN; rw [List.range_succ, List.map_append]; rfl
theorem rowN_mem {bs : List UInt8} {n : Nat} {s : Slo} (h : s ∈ rowN bs n) : ∃ i, i < n ∧ s = slotN bs i := by
  obtain ⟨i, hi, e⟩ := List.mem_map.1 h
  exact ⟨i, List.mem_range.1 hi, e.symm⟩
theorem rowN_new {bs : List UInt8} {n : Nat} : ∀ s ∈ rowN bs n, s.id ≠ (n : Int) := fun s hs => by
  obtain ⟨i, hi, rfl⟩ := rowN_mem hs
  show (i : Int) ≠ n
  omega
theorem rowN_asc (bs : List UInt8) : ∀ n, (rowN bs n).Pairwise fun a b => a.id < b.id
  | 0 => .nil
  | n + 1 => by
    rw [rowN_succ, List.pairwise_append]
    refine ⟨rowN_asc bs n, by simp, fun a ha b hb => ?_⟩
    rw [List.mem_singleton] at hb
    obtain ⟨i, hi, rfl⟩ := rowN_mem ha
    subst hb
    show (i : Int) < n
    omega
theorem fromN_one (bs : List UInt8) (n : Nat) : fromN bs n 1 = rowN bs n := by
  unfold fromN
  refine List.filter_eq_self.2 fun s hs => ?_
  obtain ⟨i, hi, rfl⟩ := rowN_mem hs
  have := byAt_lo bs i
  show decide ((1 : Int) ≤ 1 + byAt bs i) = true
  rw [decide_eq_true_eq]
  omega
theorem fromN_next (bs : List UInt8) (n : Nat) (t : Int) : (fromN bs n t).filter (notAt t) = fromN bs n (t + 1) := by
  unfold fromN
  rw [List.filter_filter]
  refine List.filter_congr fun s _ => ?_
  unfold notAt isAt
  rw [Bool.eq_iff_iff]
  simp
  omega
theorem fromN_end (bs : List UInt8) (n : Nat) (t : Int) (h : 257 ≤ t) : fromN bs n t = [] := by
  unfold fromN
  refine List.filter_eq_nil_iff.2 fun s hs => ?_
  obtain ⟨i, hi, rfl⟩ := rowN_mem hs
  have := byAt_hi bs i
  show ¬ decide (t ≤ 1 + byAt bs i) = true
  rw [decide_eq_true_eq]
  omega
theorem fromN_len (bs : List UInt8) (n : Nat) (t : Int) : (fromN bs n t).length = (nowN bs n t).length + (fromN bs n (t + 1)).length := by
  rw [← fromN_next, (filter_perm t (fromN bs n t)).length_eq, List.length_append]
  unfold nowN
  rw [List.length_map]
theorem fromN_le (bs : List UInt8) (n : Nat) (t : Int) : (fromN bs n t).length ≤ n := by
  refine Nat.le_trans (List.length_filter_le _ _) ?_
  unfold rowN; simp
theorem nowN_asc (bs : List UInt8) (n : Nat) (t : Int) : (nowN bs n t).Pairwise fun a b => a < b := by
  unfold nowN
  rw [List.pairwise_map]
  exact ((rowN_asc bs n).filter _).filter _
theorem nowN_mem {bs : List UInt8} {n : Nat} {t z : Int} (h : z ∈ nowN bs n t) : ∃ i : Nat, i < n ∧ z = i ∧ 1 + byAt bs i = t := by
  unfold nowN at h
  obtain ⟨s, hs, rfl⟩ := List.mem_map.1 h
  obtain ⟨h1, h2⟩ := List.mem_filter.1 hs
  obtain ⟨i, hi, rfl⟩ := rowN_mem (List.mem_filter.1 h1).1
  refine ⟨i, hi, rfl, ?_⟩
  exact of_decide_eq_true h2
/-- the one ahead of the k-th. -/
def lastN (L : List Int) (k : Nat) : Int := if k = 0 then -1 else L.getD (k - 1) 0
theorem lastN_zero (L : List Int) : lastN L 0 = -1 := rfl
theorem lastN_succ {L : List Int} {k : Nat} {z : Int} (h : L[k]? = some z) : lastN L (k + 1) = z := by
  unfold lastN
  rw [if_neg (by omega), List.getD_eq_getElem?_getD, Nat.add_sub_cancel, h]
  rfl
theorem lastN_lt {L : List Int} (hp : L.Pairwise fun a b => a < b) (h0 : ∀ z ∈ L, 0 ≤ z) {k : Nat} {z : Int} (h : L[k]? = some z) : lastN L k < z := by
  unfold lastN
  split
  · have := h0 z (List.mem_of_getElem? h); omega
  · obtain ⟨hk, e⟩ := List.getElem?_eq_some_iff.1 h
    have := List.pairwise_iff_getElem.1 hp (k - 1) k (by omega) hk (by omega)
    rw [List.getD_eq_getElem?_getD, List.getElem?_eq_getElem (by omega)]
    rw [e] at this
    exact this
theorem addT_byte (bs : List UInt8) (i : Nat) : addT 0 (1 + byAt bs i) = 1 + byAt bs i := by
  have h1 := byAt_lo bs i
  have h2 := byAt_hi bs i
  unfold addT
  omega
end Go.Proofs.Ytejgekoinbdhjaa
