/- pool: the very same backends. -/
import Derived.Test.YtgdeecmhhbdjgaaPoU
namespace Go.Proofs.Ytgdeecmhhbdjgaa
set_option linter.unusedVariables false
open Go Go.RowKit Go.Maps

theorem bk_cells {w : World} {S : Nat → Prop} {A : Option Addr} {n : Nat} {L : List (Int × Int × Int)} {k : Nat} (h : Seen bkK w S A n L) (hk : k < n) :
    ∃ b off x y z, A = some ⟨b, off, none⟩ ∧ S b ∧ L[k]? = some (x, y, z) ∧ w.cell? ⟨b, off + k * 3, none⟩ = some (.int .i64 x) ∧ w.cell? ⟨b, off + k * 3 + 1, none⟩ = some (.int .u32 y) ∧ w.cell? ⟨b, off + k * 3 + 2, none⟩ = some (.int .i64 z) := by
  have hlt : k < L.length := by rw [h.1]; exact hk
  have hr := List.getElem?_eq_getElem hlt
  obtain ⟨b, off, e, hb, hc⟩ := h.cell hr
  exact ⟨b, off, _, _, _, e, hb, hr, hc 0 (by decide), hc 1 (by decide), hc 2 (by decide)⟩
theorem take_next {α : Type} {xs ys : List α} {k : Nat} {a : α} (h : xs.take k = ys.take k) (h1 : xs[k]? = some a) (h2 : ys[k]? = some a) : xs.take (k + 1) = ys.take (k + 1) := by
  rw [List.take_add_one, List.take_add_one, h, h1, h2]
end Go.Proofs.Ytgdeecmhhbdjgaa
