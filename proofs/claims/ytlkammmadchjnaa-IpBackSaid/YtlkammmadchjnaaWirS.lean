/- wire: the document's Source: numbers, Sub, Rest, End. -/
import Derived.Test.YtlkammmadchjnaaWirR
namespace Go.Proofs.Ytlkammmadchjnaa
set_option linter.unusedVariables false
open Go.RowKit

theorem OwnB.any2 {w : World} {base n : Nat} {v : Value} {l : List UInt8} (h : OwnB w base v n l) : ∃ A cap, v = .slice A n cap ∧ n ≤ cap ∧ cap ≤ maxLen ∧ Byt w w.heap.size A n l ∧ (∀ a, A = some a → base ≤ a.block) := by
  obtain ⟨A1, c1, rfl, hc1, hby, hA⟩ := h.any
  have hc2 : c1 ≤ maxLen := by
    rcases h.2 with ⟨e, _⟩ | ⟨g, cap, cur, e, _, _, _, hm, _⟩
    · injection e with _ _ e; rw [e]; exact Nat.zero_le _
    · injection e with _ _ e; rw [e]; exact hm
  exact ⟨_, _, rfl, hc1, hc2, hby, hA⟩
theorem Ref.max {w : World} {lo g : Nat} {s : St} (h : Ref w lo g s) : s.l.length ≤ 100000000 := by
  obtain ⟨A, n, c, N, L, h1, h2, h3, h4, h5, h6, h7, h8, h9⟩ := h
  have hl := h4.1
  rw [h8, List.length_drop]; omega
/-- a block above was written. -/
theorem Ref.grown_up {w w' : World} {lo g : Nat} {s : St} {row : Nat} (h : Ref w lo g s) (hb : w.grownBy w' (some row)) (hg : g < row) : Ref w' lo g s := by
  have hlt := h.lt
  have hbe : Below (g + 1) w w' := ⟨hb.os, hb.tape, hb.output, hb.size, fun k hk => hb.block k (by omega) (by simp; omega)⟩
  exact h.below hbe (by omega)
theorem numV_get (s : St) (size : Nat) : getV (tk s size).2 0 size = numV s size := by
  unfold getV numV fitsB fromI
  by_cases h : (tk s size).2.length < size
  · rw [if_pos h, if_neg (by simp; omega)]
  · rw [if_neg h, if_pos (by simp; omega)]; rfl

set_option maxHeartbeats 400000 in
theorem refNum_any (w : World) (lo g : Nat) (s : St) (h : Ref w lo g s) (size : Nat) (h1 : 0 < size) (h4 : size ≤ 4) :
    Calls Try.prog 56 #[.pointer (some ⟨g, 0, none⟩), .int .i64 (size : Int)] w fun e w' => e = .returned (.int .u64 (numV s size)) ∧ Ref w' lo g (tk s size).1 ∧ w.grownBy w' (some g) := by
  have hmx := h.max
  have hmx2 := tk_max s size
  go_enter Try.func56, Try.ntmps56
  go_wp2_with fail
  refine (refBytes_any w lo g s h size).mono ?_
  rintro e w1 ⟨v, rfl, hown, hs, hg⟩
  obtain ⟨A, c, rfl, hc1, hc2, hby, _⟩ := hown.any2
  go_wp2_with fail
  refine (refGet_any w1 A _ c _ _ hby hc1 hc2 0 (by omega) size h1 h4).mono ?_
  rintro e w' ⟨rfl, rfl⟩
  rw [numV_get]
  go_wp2_with fail
  go_ret
  exact ⟨rfl, hs, hg⟩

set_option maxHeartbeats 400000 in
theorem refU8_any (w : World) (lo g : Nat) (s : St) (h : Ref w lo g s) :
    Calls Try.prog 38 #[.pointer (some ⟨g, 0, none⟩)] w fun e w' => e = .returned (.int .i64 (numV s 1)) ∧ Ref w' lo g (tk s 1).1 ∧ w.grownBy w' (some g) := by
  have b1 := numV_lo s 1
  have b2 := numV_4 s 1 (by omega)
  go_enter Try.func38, Try.ntmps38
  go_wp2_with fail
  refine (refNum_any w lo g s h 1 (by omega) (by omega)).mono ?_
  rintro e w1 ⟨rfl, hs, hg⟩
  go_wp2_with fail
  go_ret
  exact ⟨rfl, hs, hg⟩
set_option maxHeartbeats 400000 in
theorem refU16_any (w : World) (lo g : Nat) (s : St) (h : Ref w lo g s) :
    Calls Try.prog 39 #[.pointer (some ⟨g, 0, none⟩)] w fun e w' => e = .returned (.int .i64 (numV s 2)) ∧ Ref w' lo g (tk s 2).1 ∧ w.grownBy w' (some g) := by
  have b1 := numV_lo s 2
  have b2 := numV_4 s 2 (by omega)
  go_enter Try.func39, Try.ntmps39
  go_wp2_with fail
  refine (refNum_any w lo g s h 2 (by omega) (by omega)).mono ?_
  rintro e w1 ⟨rfl, hs, hg⟩
  go_wp2_with fail
  go_ret
  exact ⟨rfl, hs, hg⟩
set_option maxHeartbeats 400000 in
theorem refU32_any (w : World) (lo g : Nat) (s : St) (h : Ref w lo g s) :
    Calls Try.prog 40 #[.pointer (some ⟨g, 0, none⟩)] w fun e w' => e = .returned (.int .u32 (numV s 4)) ∧ Ref w' lo g (tk s 4).1 ∧ w.grownBy w' (some g) := by
  have b1 := numV_lo s 4
  have b2 := numV_4 s 4 (by omega)
  go_enter Try.func40, Try.ntmps40
  go_wp2_with fail
  refine (refNum_any w lo g s h 4 (by omega) (by omega)).mono ?_
  rintro e w1 ⟨rfl, hs, hg⟩
  go_wp2_with fail
  go_ret
  exact ⟨rfl, hs, hg⟩
set_option maxHeartbeats 400000 in
theorem refRest_any (w : World) (lo g : Nat) (s : St) (h : Ref w lo g s) :
    Calls Try.prog 41 #[.pointer (some ⟨g, 0, none⟩)] w fun e w' => ∃ v, e = .returned v ∧ OwnB w' w.heap.size v (tk s (leftV s)).2.length (tk s (leftV s)).2 ∧ Ref w' lo g (tk s (leftV s)).1 ∧ w.grownBy w' (some g) := by
  go_enter Try.func41, Try.ntmps41
  go_wp2_with fail
  refine (refLeft_any w lo g s h).mono ?_
  rintro e w' ⟨k, rfl, rfl⟩
  go_wp2_with fail
  refine (refBytes_any (w.drewN k) lo g s h _).mono ?_
  rintro e w' ⟨v, rfl, h1, h2, h3⟩
  go_wp2_with fail
  go_ret
  exact ⟨_, rfl, h1, h2, grown_trans (grown_drewN (grown_refl _ _) _) h3⟩
end Go.Proofs.Ytlkammmadchjnaa
