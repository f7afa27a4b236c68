/- pool: the document's sums and lists. -/
import Derived.Test.YtgdeecmhhbdjgaaPoR
import Derived.Test.YtgdeecmhhbdjgaaPoS
namespace Go.Proofs.Ytgdeecmhhbdjgaa
set_option linter.unusedVariables false
open Go Go.RowKit Go.Maps

theorem refNew25 (w : World) (X : Nat → Prop) (pc : Int) (h1 : 1 ≤ pc) (h2 : pc ≤ 100) :
    Calls Try.prog 56 #[.int .i64 pc] w fun e w' => e = .returned (.pointer (some ⟨w.heap.size, 0, none⟩)) ∧ RefIn w' X w.heap.size pc [] ∧ Below w.heap.size w w' := by
  have d1 : decide (pc < 1) = false := by simp; omega
  have d2 : decide (100 < pc) = false := by simp; omega
  go_enter Try.func56, Try.ntmps56
  go_wp2_with fail
  go_ret
  exact ⟨rfl, ⟨none, 0, 0, Nat.le_refl _, Nat.zero_le _, Blk.new _ _ _, Seen.none_⟩, (Below.refl _ _).alloc (Nat.le_refl _) _⟩
theorem refNewNo25 (w : World) (pc : Int) (h : pc < 1 ∨ 100 < pc) :
    Calls Try.prog 56 #[.int .i64 pc] w fun e w' => e = .returned (.pointer none) ∧ w = w' := by
  go_enter Try.func56, Try.ntmps56
  by_cases d : pc < 1
  · have d1 : decide (pc < 1) = true := by simpa using d
    go_wp2_with fail
    go_ret
    exact ⟨rfl, rfl⟩
  have d1 : decide (pc < 1) = false := by simpa using d
  have d2 : decide (100 < pc) = true := by simp; omega
  go_wp2_with fail
  go_ret
  exact ⟨rfl, rfl⟩
theorem sumW_take (so : Mem → Bool) (L : List Mem) (k : Nat) (m : Mem) (h : L[k]? = some m) : sumW so (L.take (k + 1)) = sumW so (L.take k) + (if so m then m.wt else 0) := by
  rw [List.take_add_one, h, Option.toList_some, sumW_app]
end Go.Proofs.Ytgdeecmhhbdjgaa
