/- wire: Get16, Get32, the document's Get, put and the document's Put. -/
import Derived.Test.YtlkammmadchjnaaWirA
import Derived.Deep.OwnRows
namespace Go.Proofs.Ytlkammmadchjnaa
set_option linter.unusedVariables false
open Go.RowKit

/-- are there so many bytes at a place? -/
def fitsB (n : Nat) (at_ : Int) (size : Nat) : Bool := decide (0 ≤ at_) && decide (at_ ≤ (n : Int) - size)
theorem fitsB_iff (n : Nat) (at_ : Int) (size : Nat) : fitsB n at_ size = true ↔ 0 ≤ at_ ∧ at_ ≤ (n : Int) - size := by simp [fitsB]

set_option maxHeartbeats 400000 in
theorem fits_any (w : World) (A : Option Addr) (n c : Nat) (at_ : Int) (size : Nat) (h4 : size ≤ 4) (hn : n ≤ 140737488355328) :
    Calls Try.prog 60 #[.slice A n c, .int .i64 at_, .int .i64 (size : Int)] w fun e w' => e = .returned (.bool (fitsB n at_ size)) ∧ w = w' := by
  go_enter Try.func60, Try.ntmps60
  go_wp2_with fail
  all_goals go_ret
  all_goals (refine ⟨ret_bool ?_, rfl⟩; simp only [fitsB]; simp; try omega)

/-- bytes from a place on. -/
def fromI (l : List UInt8) (at_ : Int) : List UInt8 := l.drop at_.toNat
/-- the number at a place. -/
def getV (l : List UInt8) (at_ : Int) (size : Nat) : Int := if fitsB l.length at_ size then getN (fromI l at_) size else 0
theorem getV_lo (l : List UInt8) (at_ : Int) (size : Nat) : 0 ≤ getV l at_ size := by
  unfold getV; split
  · exact getN_lo _ _
  · exact Int.le_refl _
theorem getV_4 (l : List UInt8) (at_ : Int) (size : Nat) (h : size ≤ 4) : getV l at_ size ≤ 4294967295 := by
  unfold getV; split
  · exact getN_4 _ _ h
  · decide

set_option maxHeartbeats 400000 in
theorem get16_any (w : World) (A : Option Addr) (n c : Nat) (l : List UInt8) (B : Nat) (h : Byt w B A n l) (hc : n ≤ c) (hc2 : c ≤ maxLen) (at_ : Int) (hn : n ≤ 140737488355328) :
    Calls Try.prog 50 #[.slice A n c, .int .i64 at_] w fun e w' => e = .returned (.tuple #[.int .i64 (getV l at_ 2), .bool (fitsB n at_ 2)]) ∧ w = w' := by
  have hlen := h.1
  go_enter Try.func50, Try.ntmps50
  go_wp2_with fail
  refine (fits_any w A n c at_ 2 (by omega) hn).mono ?_
  rintro e w' ⟨rfl, rfl⟩
  cases hf : fitsB n at_ 2 with
  | false =>
    go_wp2_with fail
    go_ret2
    exact ⟨by simp [getV, hlen, hf], rfl⟩
  | true =>
    have hf' := (fitsB_iff _ _ _).1 hf
    obtain ⟨k, rfl⟩ := Int.eq_ofNat_of_zero_le hf'.1
    obtain ⟨b, off, rfl, hb, hcell⟩ := h.2 (by omega)
    have hsl := slice_lo b off n c k (by omega) (by omega)
    go_wp2_with fail
    refine (get_any w _ _ _ _ B (h.drop (m := k) (by omega)) (by omega) (by omega) 2 (by omega) (by omega) (by omega)).mono ?_
    rintro e w' ⟨rfl, rfl⟩
    have g1 := getN_lo (l.drop k) 2
    have g2 := getN_2 (l.drop k) 2 (by omega)
    go_wp2_with fail
    go_ret2
    exact ⟨by simp [getV, hlen, hf, fromI], rfl⟩

set_option maxHeartbeats 400000 in
theorem refGet_any (w : World) (A : Option Addr) (n c : Nat) (l : List UInt8) (B : Nat) (h : Byt w B A n l) (hc : n ≤ c) (hc2 : c ≤ maxLen) (at_ : Int) (hn : n ≤ 140737488355328) (size : Nat) (h1 : 0 < size) (h4 : size ≤ 4) :
    Calls Try.prog 65 #[.slice A n c, .int .i64 at_, .int .i64 (size : Int)] w fun e w' => e = .returned (.tuple #[.int .u64 (getV l at_ size), .bool (fitsB n at_ size)]) ∧ w = w' := by
  cases hf : fitsB n at_ size with
  | false =>
    have hf' : ¬ (0 ≤ at_ ∧ at_ ≤ (n : Int) - size) := fun h => by rw [(fitsB_iff _ _ _).2 h] at hf; cases hf
    go_enter Try.func65, Try.ntmps65
    go_wp2_with fail
    all_goals first | (exfalso; omega) | (go_ret2; exact ⟨by simp [getV, h.1, hf], rfl⟩)
  | true =>
    have hf' := (fitsB_iff _ _ _).1 hf
    obtain ⟨k, rfl⟩ := Int.eq_ofNat_of_zero_le hf'.1
    obtain ⟨b, off, rfl, hb, hcell⟩ := h.2 (by omega)
    have hsl := slice_lh b off n c k (k + size) (by omega) (by omega) (by omega)
    have hcell' := h.drop (m := k) (by omega)
    go_enter Try.func65, Try.ntmps65
    go_wp2_with fail
    all_goals try (exfalso; omega)
    go_loop [8, 34] (fun u v => ∃ i : Nat, i ≤ size ∧ u = .int .u64 (getN (l.drop k) i) ∧ v = .int .i64 (i : Int)) (fun _ v => size - (intOf v).toNat)
    case atStart => exact ⟨0, by omega, rfl, rfl⟩
    case round =>
      obtain ⟨i, hi, rfl, rfl⟩ := hrel
      by_cases hlt : i < size
      · obtain ⟨b', off', hbb, _, hce⟩ := hcell'.2 (by omega)
        injection hbb with hbb
        injection hbb with e1 e2
        subst e1 e2
        have hce := hce i (by omega)
        have g1 := getN_lo (l.drop k) i
        have g2 := getN_3 (l.drop k) i (by omega)
        have b1 := byAt_lo (l.drop k) i
        have b2 := byAt_hi (l.drop k) i
        have hor := shl8_or64 (getN (l.drop k) i) (byAt (l.drop k) i) g1 g2 b1 b2
        go_wp2_with fail
        all_goals try (exfalso; omega)
        go_round
        case rel => exact ⟨i + 1, by omega, by simp [getN], by go_num⟩
        case measure => simp [intOf]; omega
      · obtain rfl : i = size := by omega
        go_wp2_with fail
        all_goals try (exfalso; omega)
        go_ret2
        exact ⟨by simp [getV, h.1, hf, fromI], rfl⟩

def strB (l : List UInt8) : ByteArray := ⟨l.toArray⟩
theorem strOfNums_l (l : List UInt8) : strOfNums (l.map fun c => (c.toNat : Int)) = strB l := by
  simp only [strOfNums, strB, List.map_map]
  rw [show ((fun n : Int => UInt8.ofNat n.toNat) ∘ fun c : UInt8 => (c.toNat : Int)) = id from funext fun c => by simp, List.map_id]
/-- string(x). -/
theorem run_str (w : World) {B n : Nat} {A : Option Addr} {l : List UInt8} (h : Byt w B A n l) (c : Nat) : (convert 23 9 (.slice A n c)).run Try.prog w = .ok (.string (strB l)) w := by
  rcases Nat.eq_zero_or_pos n with h0 | h0
  · subst h0
    obtain rfl : l = [] := List.eq_nil_of_length_eq_zero h.1
    cases A with
    | none => exact run_convert_bytes_nil w 23 5 Try.underlying23 Try.underlying5 0 c 9 Try.underlying9
    | some a =>
      rw [run_convert_bytes_string w 23 9 5 _ 0 c Try.underlying23 Try.underlying5 Try.underlying9]
      rw [run_bytesToString w a 0 c [] (run_loadCells_list w a [] (fun j v hj => by simp at hj))]
      rfl
  · obtain ⟨b, off, rfl, _, hc⟩ := h.2 h0
    have := run_convert_bytes_arg (P := Try.prog) w 23 5 Try.underlying23 Try.underlying5 b off n c (l.map fun c => (c.toNat : Int)) (by simp [h.1])
      (fun i hi => by
        rw [hc i hi]
        have hl : i < l.length := by rw [h.1]; exact hi
        simp [byAt, List.getD, List.getElem?_eq_getElem hl]) 9 Try.underlying9
    rw [this, strOfNums_l]

end Go.Proofs.Ytlkammmadchjnaa
