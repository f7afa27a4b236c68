/- pool: sums of weights; Quorate. -/
import Derived.Test.YtgdeecmhhbdjgaaPoC
namespace Go.Proofs.Ytgdeecmhhbdjgaa
set_option linter.unusedVariables false
open Go Go.RowKit Go.Maps Go.MapKept

/-- how many entries an iterator has left. -/
def iterLeft (w : World) (b r : Nat) : Nat := match w.heap[b]?, w.heap[r]? with
  | some (.map es _), some (.mapIter _ _ seen _) => (leftOf es seen).size
  | _, _ => 0
theorem rng_left {P : Program} {K : TypeId} {w : World} {b r : Nat} {l dn : List (Value × Value)} (h : Rng P K w b r l dn) : iterLeft w b r + dn.length = l.length := by
  obtain ⟨es, clock, since, seen, c0, h1, h2, h3, h4, h5, h6, h7, h8, h9⟩ := h
  have e : iterLeft w b r = (leftOf es seen).size := by unfold iterLeft; rw [h1, h5]
  have := h9.length_eq
  rw [List.length_append, List.length_map] at this
  rw [e]
  simp at this ⊢
  omega
/-- the weights of those that are so. -/
def sumW (so : Mem → Bool) : List Mem → Int
  | [] => 0
  | m :: D => (if so m then m.wt else 0) + sumW so D
theorem sumW_app (so : Mem → Bool) (D : List Mem) (m : Mem) : sumW so (D ++ [m]) = sumW so D + (if so m then m.wt else 0) := by
  induction D with
  | nil => simp [sumW]
  | cons x D ih => rw [List.cons_append, sumW, ih, sumW]; omega
theorem sumW_perm (so : Mem → Bool) {D E : List Mem} (h : D.Perm E) : sumW so D = sumW so E := by
  induction h with
  | nil => rfl
  | cons x _ ih => rw [sumW, sumW, ih]
  | swap x y l => simp only [sumW]; omega
  | trans _ _ h1 h2 => exact h1.trans h2
/-- what every pool's members are. -/
def MemsOk (M : List Mem) : Prop := M.length ≤ 16 ∧ ∀ m ∈ M, (0 ≤ m.id ∧ m.id ≤ 255) ∧ (0 ≤ m.wt ∧ m.wt ≤ 100)
theorem sumW_bd (so : Mem → Bool) (D : List Mem) (h : ∀ m ∈ D, 0 ≤ m.wt ∧ m.wt ≤ 100) : 0 ≤ sumW so D ∧ sumW so D ≤ 100 * D.length := by
  induction D with
  | nil => simp [sumW]
  | cons x D ih =>
    have h1 := ih fun m hm => h m (List.mem_cons_of_mem _ hm)
    have h2 := h x List.mem_cons_self
    rw [sumW, List.length_cons]
    split <;> omega
theorem memE_perm {D M : List Mem} (h : (D.map memE).Perm (M.map memE)) : D.Perm M := by
  have := h.map memD
  rw [List.map_map, List.map_map] at this
  have e : memD ∘ memE = id := rfl
  rw [e, List.map_id, List.map_id] at this
  exact this
def soAll (_ : Mem) : Bool := true
def soUp (m : Mem) : Bool := m.up && !m.dr
def soUse (m : Mem) : Bool := soUp m && decide (0 < m.wt)
end Go.Proofs.Ytgdeecmhhbdjgaa
