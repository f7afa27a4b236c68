/- pool: the document's Get, Set, Mark, Drain, Weigh. -/
import Derived.Test.YtgdeecmhhbdjgaaPoV
import Derived.Test.YtgdeecmhhbdjgaaPoG
import Derived.Test.YtgdeecmhhbdjgaaRowS
namespace Go.Proofs.Ytgdeecmhhbdjgaa
set_option linter.unusedVariables false
open Go Go.RowKit Go.Maps

theorem findF_get {L : List Mem} {id : Int} {k : Nat} (h : findF L id = some k) : ∃ m, L[k]? = some m ∧ m.id = id := by
  induction L generalizing k with
  | nil => simp [findF] at h
  | cons a L ih =>
    unfold findF at h
    by_cases ha : a.id = id
    · rw [if_pos ha] at h
      injection h with h
      subst h
      exact ⟨a, rfl, ha⟩
    · rw [if_neg ha] at h
      obtain ⟨j, hj, rfl⟩ := Option.map_eq_some_iff.1 h
      obtain ⟨m, h1, h2⟩ := ih hj
      exact ⟨m, by simpa using h1, h2⟩
theorem findF_no {L : List Mem} {id : Int} (h : findF L id = none) : ∀ m ∈ L, m.id ≠ id := by
  induction L with
  | nil => simp
  | cons a L ih =>
    unfold findF at h
    by_cases ha : a.id = id
    · rw [if_pos ha] at h; cases h
    · rw [if_neg ha, Option.map_eq_none_iff] at h
      intro m hm
      rcases List.mem_cons.1 hm with rfl | hm
      · exact ha
      · exact ih h m hm
theorem rows_lit5 (w : World) : Rows memK (w.alloc (.cells #[] 172)) w.heap.size w.heap.size 172 (.slice (some ⟨w.heap.size, 0, none⟩) 0 0) [] :=
  ⟨by have := Own1.lit (base := w.heap.size) (et := 172) (size := 5) w #[] 0 (Nat.le_refl _) (Nat.zero_le _) rfl; exact this, by simp⟩
def zeroM : Mem := ⟨0, 0, 0, false, false⟩
/-- a member by its id; zero: there is none. -/
def getM (L : List Mem) (id : Int) : Mem := match findF L id with
  | some k => L[k]?.getD zeroM
  | none => zeroM
theorem getM_some {L : List Mem} {id : Int} {k : Nat} {m : Mem} (h : findF L id = some k) (hm : L[k]? = some m) : getM L id = m := by
  unfold getM; rw [h]; simp [hm]
theorem getM_none {L : List Mem} {id : Int} (h : findF L id = none) : getM L id = zeroM := by
  unfold getM; rw [h]
theorem row5 : (Try.prog.info? 172).map (·.size) = some 5 := by kernel_rfl
/-- another row in the place of one. -/
def setR (L : List Mem) (id : Int) (up dr : Bool) (wt : Int) : Int × List Mem := match findF L id with
  | some k => (0, L.set k ⟨id, (L[k]?.getD zeroM).ad, wt, up, dr⟩)
  | none => (7, L)
theorem setR_some {L : List Mem} {id : Int} {k : Nat} {m : Mem} (h : findF L id = some k) (hm : L[k]? = some m) (up dr : Bool) (wt : Int) : setR L id up dr wt = (0, L.set k ⟨id, m.ad, wt, up, dr⟩) := by
  unfold setR; rw [h]; simp [hm]
end Go.Proofs.Ytgdeecmhhbdjgaa
