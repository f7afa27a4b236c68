/- Acts of three numbers (kind, id, n) as elements of a law's slice. -/
import Derived.Test.YtejgekoinbdhjaaRow2L
namespace Go.Proofs.Ytejgekoinbdhjaa
set_option linter.unusedVariables false
open Go Go.RowKit

structure Act3 where
  k : Int
  id : Int
  n : Int
def Act3.In (a : Act3) : Prop := (-9223372036854775808 ≤ a.k ∧ a.k ≤ 9223372036854775807) ∧ (-9223372036854775808 ≤ a.id ∧ a.id ≤ 9223372036854775807) ∧ (-9223372036854775808 ≤ a.n ∧ a.n ≤ 9223372036854775807)
def act3K : RK Act3 where
  size := 3
  cel a := [.int .i64 a.k, .int .i64 a.id, .int .i64 a.n]
  ok _ _ a := a.In
  pos := by omega
  len _ := rfl
  one _ u hu := by simp at hu; rcases hu with rfl | rfl | rfl <;> rfl
  keep h _ := h
  more h _ := h
theorem act3_cells {w : World} {S : Nat → Prop} {A : Option Addr} {n : Nat} {L : List Act3} {k : Nat} (h : Seen act3K w S A n L) (hk : k < n) :
    ∃ b off a, A = some ⟨b, off, none⟩ ∧ S b ∧ L[k]? = some a ∧ a.In ∧ w.cell? ⟨b, off + k * 3, none⟩ = some (.int .i64 a.k) ∧ w.cell? ⟨b, off + k * 3 + 1, none⟩ = some (.int .i64 a.id) ∧ w.cell? ⟨b, off + k * 3 + 2, none⟩ = some (.int .i64 a.n) := by
  have hlt : k < L.length := by rw [h.1]; exact hk
  have hr := List.getElem?_eq_getElem hlt
  obtain ⟨b, off, e, hb, hc⟩ := h.cell hr
  exact ⟨b, off, _, e, hb, hr, h.2.1 _ (List.getElem_mem hlt), hc 0 (by decide), hc 1 (by decide), hc 2 (by decide)⟩
theorem act3_open {W : World} {A : Option Addr} {len : Nat} {vs : Nat → Value} (hF : Flat W W.heap.size A (len * 3) vs) (hz : ∀ i, i < len → ∀ j, j < 3 → ∃ z, vs (i * 3 + j) = .int .i64 z ∧ (Lit.int .i64 z).wf = true) :
    ∃ l, Seen act3K W (fun b => b < W.heap.size) A len l :=
  seen_of_flat (R := act3K) hF fun i hi => by
    obtain ⟨x0, e0, w0⟩ := hz i hi 0 (by omega)
    obtain ⟨x1, e1, w1⟩ := hz i hi 1 (by omega)
    obtain ⟨x2, e2, w2⟩ := hz i hi 2 (by omega)
    simp only [Lit.wf, Bool.and_eq_true, decide_eq_true_eq] at w0 w1 w2
    refine ⟨⟨x0, x1, x2⟩, fun j hj => ?_, w0, w1, w2⟩
    show [Value.int .i64 x0, .int .i64 x1, .int .i64 x2][j]? = some (vs (i * 3 + j))
    match j, hj with
    | 0, _ => rw [e0]; rfl
    | 1, _ => rw [e1]; rfl
    | 2, _ => rw [e2]; rfl
end Go.Proofs.Ytejgekoinbdhjaa
