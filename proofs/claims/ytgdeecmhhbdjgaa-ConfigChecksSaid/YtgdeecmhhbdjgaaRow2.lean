/- What a law's slice of structs reads as, element by element. -/
import Derived.Test.YtgdeecmhhbdjgaaLib
namespace Go.Proofs.Ytgdeecmhhbdjgaa
set_option linter.unusedVariables false
open Go.RowKit

theorem seen_of_flat {α : Type} {R : RK α} {W : World} {A : Option Addr} {len : Nat} {vs : Nat → Value} (hF : Flat W W.heap.size A (len * R.size) vs)
    (hx : ∀ i, i < len → ∃ a : α, (∀ j, j < R.size → (R.cel a)[j]? = some (vs (i * R.size + j))) ∧ R.ok W (fun b => b < W.heap.size) a) : ∃ l, Seen R W (fun b => b < W.heap.size) A len l := by
  rcases Nat.eq_zero_or_pos len with h0 | h0
  · subst h0
    exact ⟨[], rfl, by simp, fun h => absurd h (by omega)⟩
  · have hx2 : ∀ i, ∃ a : α, i < len → (∀ j, j < R.size → (R.cel a)[j]? = some (vs (i * R.size + j))) ∧ R.ok W (fun b => b < W.heap.size) a := fun i => by
      by_cases h : i < len
      · obtain ⟨a, ha⟩ := hx i h; exact ⟨a, fun _ => ha⟩
      · obtain ⟨a, _⟩ := hx 0 h0; exact ⟨a, fun h' => absurd h' h⟩
    obtain ⟨F, hFF⟩ := Classical.axiomOfChoice hx2
    refine ⟨(List.range len).map F, by simp, fun a ha => ?_, fun _ => ?_⟩
    · obtain ⟨i, hi, rfl⟩ := List.mem_map.1 ha
      exact (hFF i (by simpa using hi)).2
    · obtain ⟨b, off, e, hb, hc⟩ := hF (Nat.mul_pos h0 R.pos)
      refine ⟨b, off, e, hb, fun j a hj i hi => ?_⟩
      have hjl : j < len := by have := (List.getElem?_eq_some_iff.1 hj).1; simpa using this
      obtain rfl : F j = a := by
        rw [List.getElem?_map, List.getElem?_range hjl] at hj
        exact Option.some.inj hj
      have hlt : j * R.size + i < len * R.size := by
        have := Nat.mul_le_mul_right R.size (show j + 1 ≤ len by omega)
        rw [Nat.succ_mul] at this
        omega
      rw [hc _ hlt, (hFF j hjl).1 i hi]
theorem Byt.bytA {w : World} {B n : Nat} {A : Option Addr} {l : List UInt8} (h : Byt w B A n l) : BytS w (fun b => b < B) A n l := by
  refine ⟨h.1, fun hn => ?_⟩
  obtain ⟨b, off, e, hb, hc⟩ := h.2 hn
  exact ⟨b, off, e, hb, hc⟩
end Go.Proofs.Ytgdeecmhhbdjgaa
