/- wire: a Source's methods. -/
import Derived.Test.YtlkammmadchjnaaWirD
namespace Go.Proofs.Ytlkammmadchjnaa
set_option linter.unusedVariables false
open Go.RowKit

theorem tk_len (s : St) (n : Int) : (tk s n).2.length = n.toNat ∨ (tk s n).2.length = 0 := by
  unfold tk
  split
  · exact .inr rfl
  · split
    · exact .inr rfl
    · split
      · exact .inr rfl
      · refine .inl ?_
        simp only [List.length_take]
        omega
theorem tk_max (s : St) (n : Int) : (tk s n).2.length ≤ s.l.length := by
  unfold tk
  split
  · exact Nat.zero_le _
  · split
    · exact Nat.zero_le _
    · split
      · exact Nat.zero_le _
      · simp only [List.length_take]
        omega
/-- the number that is got. -/
def numV (s : St) (k : Nat) : Int := if (tk s k).2.length < k then 0 else getN (tk s k).2 k
theorem numV_lo (s : St) (k : Nat) : 0 ≤ numV s k := by
  unfold numV; split
  · exact Int.le_refl _
  · exact getN_lo _ _
theorem numV_4 (s : St) (k : Nat) (h : k ≤ 4) : numV s k ≤ 4294967295 := by
  unfold numV; split
  · decide
  · exact getN_4 _ _ h

theorem Src.max {w : World} {g : Nat} {s : St} (h : Src w g s) : s.l.length ≤ 100000000 := by
  obtain ⟨A, n, c, _, _, _, _, h5, h6⟩ := h; omega

set_option maxHeartbeats 400000 in
theorem num_any (w : World) (g : Nat) (s : St) (h : Src w g s) (size : Nat) (h1 : 0 < size) (h4 : size ≤ 4) :
    Calls Try.prog 52 #[.pointer (some ⟨g, 0, none⟩), .int .i64 (size : Int)] w fun e w' => e = .returned (.int .u64 (numV s size)) ∧ Src w' g (tk s size).1 ∧ w.grownBy w' (some g) := by
  have hmx := h.max
  have hmx2 := tk_max s size
  go_enter Try.func52, Try.ntmps52
  go_wp2_with fail
  refine (take_any w g s h size).mono ?_
  rintro e w1 ⟨A, k, rfl, hb, hs, hg⟩
  have hl := hb.1
  by_cases hlt : k < size
  · have hv : numV s size = 0 := by simp [numV, hl, hlt]
    go_wp2_with fail
    go_ret
    exact ⟨ret_int hv.symm, hs, hg⟩
  · have hv : numV s size = getN (tk s size).2 size := by simp [numV, hl, hlt]
    go_wp2_with fail
    refine (get_any w1 A k k _ g hb (Nat.le_refl _) (by unfold maxLen; omega) size h1 h4 (by omega)).mono ?_
    rintro e w' ⟨rfl, rfl⟩
    go_wp2_with fail
    go_ret
    exact ⟨ret_int hv.symm, hs, hg⟩

set_option maxHeartbeats 400000 in
theorem u8_any (w : World) (g : Nat) (s : St) (h : Src w g s) :
    Calls Try.prog 32 #[.pointer (some ⟨g, 0, none⟩)] w fun e w' => e = .returned (.int .i64 (numV s 1)) ∧ Src w' g (tk s 1).1 ∧ w.grownBy w' (some g) := by
  have b1 := numV_lo s 1
  have b2 := numV_4 s 1 (by omega)
  go_enter Try.func32, Try.ntmps32
  go_wp2_with fail
  refine (num_any w g s h 1 (by omega) (by omega)).mono ?_
  rintro e w1 ⟨rfl, hs, hg⟩
  go_wp2_with fail
  go_ret
  exact ⟨rfl, hs, hg⟩
set_option maxHeartbeats 400000 in
theorem u16_any (w : World) (g : Nat) (s : St) (h : Src w g s) :
    Calls Try.prog 31 #[.pointer (some ⟨g, 0, none⟩)] w fun e w' => e = .returned (.int .i64 (numV s 2)) ∧ Src w' g (tk s 2).1 ∧ w.grownBy w' (some g) := by
  have b1 := numV_lo s 2
  have b2 := numV_4 s 2 (by omega)
  go_enter Try.func31, Try.ntmps31
  go_wp2_with fail
  refine (num_any w g s h 2 (by omega) (by omega)).mono ?_
  rintro e w1 ⟨rfl, hs, hg⟩
  go_wp2_with fail
  go_ret
  exact ⟨rfl, hs, hg⟩
set_option maxHeartbeats 400000 in
theorem u32_any (w : World) (g : Nat) (s : St) (h : Src w g s) :
    Calls Try.prog 33 #[.pointer (some ⟨g, 0, none⟩)] w fun e w' => e = .returned (.int .u32 (numV s 4)) ∧ Src w' g (tk s 4).1 ∧ w.grownBy w' (some g) := by
  have b1 := numV_lo s 4
  have b2 := numV_4 s 4 (by omega)
  go_enter Try.func33, Try.ntmps33
  go_wp2_with fail
  refine (num_any w g s h 4 (by omega) (by omega)).mono ?_
  rintro e w1 ⟨rfl, hs, hg⟩
  go_wp2_with fail
  go_ret
  exact ⟨rfl, hs, hg⟩

def leftV (s : St) : Int := if s.e = 0 then s.l.length else 0
set_option maxHeartbeats 400000 in
theorem left_any (w : World) (g : Nat) (s : St) (h : Src w g s) :
    Calls Try.prog 54 #[.pointer (some ⟨g, 0, none⟩)] w fun e w' => e = .returned (.int .i64 (leftV s)) ∧ w = w' := by
  have hs := h
  obtain ⟨A, n, c, h1, h2, h3, h4, h5, h6⟩ := h
  have hl := h4.1
  have c1 := h3.cellv 1 (v := .slice A n c) rfl
  go_enter Try.func54, Try.ntmps54
  go_wp2_with fail
  refine (ok_any w g s hs).mono ?_
  rintro e w' ⟨rfl, rfl⟩
  by_cases he : s.e = 0
  · have hv : leftV s = n := by simp [leftV, he, hl]
    have hed : decide (s.e = 0) = true := by simp [he]
    rw [hed]
    go_wp2_with fail
    go_ret
    exact ⟨ret_int hv.symm, rfl⟩
  · have hv : leftV s = 0 := by simp [leftV, he]
    have hed : decide (s.e = 0) = false := by simp [he]
    rw [hed]
    go_wp2_with fail
    go_ret
    exact ⟨ret_int hv.symm, rfl⟩
set_option maxHeartbeats 400000 in
theorem read_any (w : World) (A : Option Addr) (n c : Nat) (l : List UInt8) (B : Nat) (h : Byt w B A n l) (hB : B ≤ w.heap.size) (hn : n ≤ 100000000) :
    Calls Try.prog 30 #[.slice A n c] w fun e w' => ∃ g, e = .returned (.pointer (some ⟨g, 0, none⟩)) ∧ w.heap.size ≤ g ∧ Src w' g ⟨l, 0, 0⟩ ∧ Below w.heap.size w w' := by
  go_enter Try.func30, Try.ntmps30
  go_wp2_with fail
  refine (clone_any w A n c l B h hB hn).mono ?_
  rintro e w1 ⟨v, rfl, hown, hb⟩
  obtain ⟨A1, c1, rfl, hc1, hby, hA⟩ := hown.any
  have hc2 : c1 ≤ maxLen := by
    rcases Nat.eq_zero_or_pos n with h0 | h0
    · rcases hown.2 with ⟨e, _⟩ | ⟨g, cap, cur, e, _, _, _, hm, _⟩
      · injection e with _ _ e; rw [e]; exact Nat.zero_le _
      · injection e with _ _ e; rw [e]; exact hm
    · obtain ⟨g, cap, e, _, _, _, hm⟩ := hown.form h0
      injection e with _ _ e; rw [e]; exact hm
  have hl := h.1
  go_wp2_with fail
  go_ret
  refine ⟨_, rfl, hb.size, ⟨A1, n, c1, hc1, hc2, Blk.new _ _ _, hby.alloc (Nat.le_refl _) _, by simp, by simp; omega⟩, hb.alloc hb.size _⟩

set_option maxHeartbeats 400000 in
theorem bytes_any (w : World) (g : Nat) (s : St) (h : Src w g s) (m : Int) :
    Calls Try.prog 53 #[.pointer (some ⟨g, 0, none⟩), .int .i64 m] w fun e w' => ∃ v, e = .returned v ∧ OwnB w' w.heap.size v (tk s m).2.length (tk s m).2 ∧ Src w' g (tk s m).1 ∧ w.grownBy w' (some g) := by
  have hmx := h.max
  have hmx2 := tk_max s m
  have hlt := h.lt
  go_enter Try.func53, Try.ntmps53
  go_wp2_with fail
  refine (take_any w g s h m).mono ?_
  rintro e w1 ⟨A, k, rfl, hb, hs, hg⟩
  have hl := hb.1
  have hsz := hg.size
  go_wp2_with fail
  refine (clone_any w1 A k k _ g hb (by omega) (by omega)).mono ?_
  rintro e w2 ⟨v, rfl, hown, hbe⟩
  go_wp2_with fail
  go_ret
  refine ⟨_, rfl, ?_, hs.below hbe (by omega), grown_trans hg (grown_of hbe (Nat.le_refl _) _)⟩
  rw [hl]
  refine ⟨hown.1, ?_⟩
  rcases hown.2 with h0 | ⟨g2, cap, cur, q1, q2, q3⟩
  · exact .inl h0
  · exact .inr ⟨g2, cap, cur, q1, by omega, q3⟩
end Go.Proofs.Ytlkammmadchjnaa
