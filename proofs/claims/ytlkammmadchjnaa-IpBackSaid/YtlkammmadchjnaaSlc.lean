/- Slicing any bytes, as lists. -/
import Derived.Test.YtlkammmadchjnaaBytes
namespace Go.Proofs.Ytlkammmadchjnaa
set_option linter.unusedVariables false
open Go.RowKit

theorem byt_none {w : World} {B n : Nat} {l : List UInt8} (h : Byt w B none n l) : n = 0 := by
  rcases Nat.eq_zero_or_pos n with h0 | h0
  · exact h0
  · obtain ⟨_, _, e, _⟩ := h.2 h0; cases e
theorem byt_zero {w : World} {B : Nat} {A : Option Addr} {l : List UInt8} (h : Byt w B A 0 l) : l = [] := List.eq_nil_of_length_eq_zero h.1
theorem byt_empty (w : World) (B : Nat) (A : Option Addr) : Byt w B A 0 [] := ⟨rfl, fun h => absurd h (by omega)⟩
theorem byt_shift {w : World} {B n m k : Nat} {A : Option Addr} {l l' : List UInt8} (h : Byt w B A n l) (hl : l'.length = m) (hm : k + m ≤ n) (hb : ∀ j, j < m → byAt l' j = byAt l (k + j)) :
    Byt w B (A.map (·.add k)) m l' := by
  refine ⟨hl, fun h0 => ?_⟩
  obtain ⟨b, off, rfl, hB, hc⟩ := h.2 (by omega)
  refine ⟨b, off + k, by simp [Go.WideShapes.add_plain], hB, fun j hj => ?_⟩
  rw [hb j hj, Nat.add_assoc]
  exact hc (k + j) (by omega)
/-- x[k:]. -/
theorem slice_drop (A : Option Addr) (n c k : Nat) (hk : k ≤ n) (hc : n ≤ c) :
    ∃ A', (∀ w, (Instr.slice 23 (.slice A n c) (some (.int .i64 (k : Int))) none none).run Try.prog w = .ok (.slice A' (n - k) (c - k)) w) ∧
      (∀ w B l, Byt w B A n l → Byt w B A' (n - k) (l.drop k)) := by
  refine ⟨if c = k then A else A.map (·.add k), fun w => ?_, fun w B l h => ?_⟩
  · rw [run_slice_l w 23 A n c elem_u8 .i64 k (by omega) (by omega), size_u8]
    simp [Result.andThen, sliced]
  · have hl := h.1
    by_cases e : c = k
    · rw [if_pos e, show n - k = 0 from by omega, List.drop_of_length_le (by omega)]
      exact byt_empty w B A
    · rw [if_neg e]
      exact byt_shift h (by simp [hl]) (by omega) fun j _ => byAt_drop l k j
/-- x[:k]. -/
theorem slice_take (A : Option Addr) (n c k : Nat) (hk : k ≤ n) (hc : n ≤ c) :
    ∃ A', (∀ w, (Instr.slice 23 (.slice A n c) none (some (.int .i64 (k : Int))) none).run Try.prog w = .ok (.slice A' k c) w) ∧
      (∀ w B l, Byt w B A n l → Byt w B A' k (l.take k)) := by
  refine ⟨if c = 0 then A else A.map (·.add 0), fun w => ?_, fun w B l h => ?_⟩
  · rw [run_slice_h w 23 A n c elem_u8 .i64 k (by omega) (by omega), size_u8]
    simp [Result.andThen, sliced]
  · have hl := h.1
    by_cases e : c = 0
    · obtain rfl : k = 0 := by omega
      exact byt_empty w B _
    · rw [if_neg e]
      exact byt_shift h (by simp [hl]; omega) (by omega) fun j hj => by rw [Nat.zero_add]; exact byAt_take l k j hj
/-- x[:k:k]. -/
theorem slice_take3 (A : Option Addr) (n c k : Nat) (hk : k ≤ n) (hc : n ≤ c) :
    ∃ A', (∀ w, (Instr.slice 23 (.slice A n c) none (some (.int .i64 (k : Int))) (some (.int .i64 (k : Int)))).run Try.prog w = .ok (.slice A' k k) w) ∧
      (∀ w B l, Byt w B A n l → Byt w B A' k (l.take k)) := by
  refine ⟨if k = 0 then A else A.map (·.add 0), fun w => ?_, fun w B l h => ?_⟩
  · rw [run_slice_hm w 23 A n c elem_u8 .i64 .i64 k k (by omega) (by omega) (by omega), size_u8]
    simp [Result.andThen, sliced]
  · have hl := h.1
    by_cases e : k = 0
    · subst e; exact byt_empty w B _
    · rw [if_neg e]
      exact byt_shift h (by simp [hl]; omega) (by omega) fun j hj => by rw [Nat.zero_add]; exact byAt_take l k j hj
/-- x[k:m]. -/
theorem slice_mid (A : Option Addr) (n c k m : Nat) (hk : k ≤ m) (hm : m ≤ n) (hc : n ≤ c) :
    ∃ A', (∀ w, (Instr.slice 23 (.slice A n c) (some (.int .i64 (k : Int))) (some (.int .i64 (m : Int))) none).run Try.prog w = .ok (.slice A' (m - k) (c - k)) w) ∧
      (∀ w B l, Byt w B A n l → Byt w B A' (m - k) ((l.drop k).take (m - k))) := by
  refine ⟨if c = k then A else A.map (·.add k), fun w => ?_, fun w B l h => ?_⟩
  · rw [run_slice_lh w 23 A n c elem_u8 .i64 .i64 k m (by omega) (by omega) (by omega), size_u8]
    simp [Result.andThen, sliced]
  · have hl := h.1
    by_cases e : c = k
    · rw [if_pos e, show m - k = 0 from by omega]
      exact byt_empty w B A
    · rw [if_neg e]
      exact byt_shift h (by simp [hl]; omega) (by omega) fun j hj => by rw [byAt_take _ _ _ hj]; exact byAt_drop l k j
end Go.Proofs.Ytlkammmadchjnaa
