/- pool: the program's functions, each in one word. -/
import Derived.Test.YtgdeecmhhbdjgaaPqA
namespace Go.Proofs.Ytgdeecmhhbdjgaa
set_option linter.unusedVariables false
open Go Go.RowKit Go.Maps

section
variable (w : World) (g b : Nat) (pc : Int) (M : List Mem) (h : PoolIn w g b pc M)
include h
theorem pAddS (id ad wt : Int) : Calls Try.prog 66 #[.pointer (some ⟨g, 0, none⟩), .agg #[.int .i64 id, .int .u32 ad, .int .i64 wt]] w fun e w' => e = .returned (.int .i64 (addP M id ad wt).1) ∧ PoolIn w' g b pc (addP M id ad wt).2 ∧ w.grownBy w' (some b) := by
  unfold addP
  by_cases hok : addOk id ad wt = false
  · rw [if_pos hok]
    exact (addNo_any w g b pc M id ad wt h hok).mono fun e w' q => ⟨q.1, h.nx q.2, grown_of_below q.2 (Nat.le_refl _) _⟩
  rw [if_neg hok]
  replace hok : addOk id ad wt = true := by simpa using hok
  cases hf : findF M id with
  | some k =>
    obtain ⟨m, hm, rfl⟩ := findF_get hf
    exact addThere w g b pc M m ad wt h hok (List.mem_of_getElem? hm)
  | none =>
    by_cases hl : 16 ≤ M.length
    · simp only [if_pos hl]
      exact addFull w g b pc M id ad wt h hok (findF_no hf) hl
    · simp only [if_neg hl]
      exact addNew w g b pc M id ad wt h hok (findF_no hf) (by omega)
variable (id : Int) (r0 : -9223372036854775808 ≤ id) (r1 : id ≤ 9223372036854775807)
include r0 r1
end
end Go.Proofs.Ytgdeecmhhbdjgaa
