/- Slices of rows of structs, cut. -/
import Derived.Test.YtgdeecmhhbdjgaaLib
namespace Go.Proofs.Ytgdeecmhhbdjgaa
set_option linter.unusedVariables false
open Go Go.RowKit

section
variable {α : Type} {R : RK α} {P : Program} {T : TypeId} {E : TypeId} {w : World} {S : Nat → Prop} {A : Option Addr} {n k : Nat} {l : List α}
theorem Seen.empty (w : World) (S : Nat → Prop) (A : Option Addr) : Seen R w S A 0 [] := ⟨rfl, by simp, fun h => absurd h (by omega)⟩
/-- x[k:]. -/
theorem row_drop (hT : P.underlying T = some (.slice (P.elem T))) (hz : ∀ w, (sizeOf (P.elem T)).run P w = .ok R.size w) (A : Option Addr) (n c k : Nat) (hk : k ≤ n) (hc : n ≤ c) :
    ∃ A', (∀ w, (Instr.slice T (.slice A n c) (some (.int .i64 (k : Int))) none none).run P w = .ok (.slice A' (n - k) (c - k)) w) ∧
      (∀ w S l, Seen R w S A n l → Seen R w S A' (n - k) (l.drop k)) := by
  refine ⟨if c = k then A else A.map (·.add (k * R.size)), fun w => ?_, fun w S l h => ?_⟩
  · rw [run_slice_l w T A n c hT .i64 k (by omega) (by omega), hz]
    simp [Result.andThen, sliced]
  · have hl := h.1
    by_cases e : c = k
    · rw [if_pos e, show n - k = 0 from by omega, List.drop_of_length_le (by omega)]
      exact Seen.empty w S A
    · rw [if_neg e]
      refine ⟨by rw [List.length_drop, hl], fun a ha => h.2.1 a (List.mem_of_mem_drop ha), fun h0 => ?_⟩
      obtain ⟨b, off, rfl, hb, hcell⟩ := h.2.2 (by omega)
      refine ⟨b, off + k * R.size, by simp [Go.WideShapes.add_plain], hb, fun j a hj i hi => ?_⟩
      rw [List.getElem?_drop] at hj
      have := hcell (k + j) a hj i hi
      rw [← this, show off + k * R.size + (j * R.size + i) = off + ((k + j) * R.size + i) by rw [Nat.add_mul]; omega]
/-- x[:k]. -/
theorem row_take (hT : P.underlying T = some (.slice (P.elem T))) (hz : ∀ w, (sizeOf (P.elem T)).run P w = .ok R.size w) (A : Option Addr) (n c k : Nat) (hk : k ≤ n) (hc : n ≤ c) :
    ∃ A', (∀ w, (Instr.slice T (.slice A n c) none (some (.int .i64 (k : Int))) none).run P w = .ok (.slice A' k c) w) ∧
      (∀ w S l, Seen R w S A n l → Seen R w S A' k (l.take k)) := by
  refine ⟨if c = 0 then A else A.map (·.add 0), fun w => ?_, fun w S l h => ?_⟩
  · rw [run_slice_h w T A n c hT .i64 k (by omega) (by omega), hz]
    simp [Result.andThen, sliced]
  · have hl := h.1
    by_cases e : c = 0
    · obtain rfl : k = 0 := by omega
      rw [List.take_zero]
      exact Seen.empty w S _
    · rw [if_neg e]
      refine ⟨by rw [List.length_take, hl]; omega, fun a ha => h.2.1 a (List.mem_of_mem_take ha), fun h0 => ?_⟩
      obtain ⟨b, off, rfl, hb, hcell⟩ := h.2.2 (by omega)
      refine ⟨b, off, by simp [Go.WideShapes.add_plain], hb, fun j a hj i hi => ?_⟩
      have hjk : j < k := by
        have := (List.getElem?_eq_some_iff.1 hj).1
        rw [List.length_take] at this
        omega
      rw [List.getElem?_take_of_lt hjk] at hj
      exact hcell j a hj i hi
end
end Go.Proofs.Ytgdeecmhhbdjgaa
