import Derived.Test.YtecmhakapomepaaGreatMConfigForms6
import Derived.Test.YtecmhakapomepaaGreatMConfigForms7
import Derived.Test.YtecmhakapomepaaGreatMConfigForms2
/- pool: Eligible and All, by ids. -/
namespace Go.Proofs.YtecmhakapomepaaGreat
set_option linter.unusedVariables false
open Go Go.RowKit Go.Maps

/-- backends as elements of rows: id, address, weight. -/
def bkK : RK (Int × Int × Int) where
  size := 3
  cel b := [.int .i64 b.1, .int .u32 b.2.1, .int .i64 b.2.2]
  ok _ _ _ := True
  pos := by omega
  len _ := rfl
  one _ u hu := by simp at hu; rcases hu with rfl | rfl | rfl <;> rfl
  keep _ _ := trivial
  more _ _ := trivial
def bkOf (m : Mem) : Int × Int × Int := (m.id, m.ad, m.wt)
/-- the backends of those that are so. -/
def selB (so : Mem → Bool) (L : List Mem) : List (Int × Int × Int) := (L.filter so).map bkOf
/-- sorted by ids, each once. -/
def ById (L : List Mem) : Prop := L.Pairwise fun a b => a.id < b.id
end Go.Proofs.YtecmhakapomepaaGreat

/- pool: the document's sums and lists. -/
namespace Go.Proofs.YtecmhakapomepaaGreat
set_option linter.unusedVariables false
open Go Go.RowKit Go.Maps

theorem refNew25 (w : World) (X : Nat → Prop) (pc : Int) (h1 : 1 ≤ pc) (h2 : pc ≤ 100) :
    Calls Tryz.prog 108 #[.int .i64 pc] w fun e w' => e = .returned (.pointer (some ⟨w.heap.size, 0, none⟩)) ∧ RefIn w' X w.heap.size pc [] ∧ Below w.heap.size w w' := by
  have d1 : decide (pc < 1) = false := by simp; omega
  have d2 : decide (100 < pc) = false := by simp; omega
  go_enter Tryz.func108, Tryz.ntmps108
  go_wp2_with fail
  go_ret
  exact ⟨rfl, ⟨none, 0, 0, Nat.le_refl _, Nat.zero_le _, Blk.new _ _ _, Seen.none_⟩, (Below.refl _ _).alloc (Nat.le_refl _) _⟩
theorem refNewNo25 (w : World) (pc : Int) (h : pc < 1 ∨ 100 < pc) :
    Calls Tryz.prog 108 #[.int .i64 pc] w fun e w' => e = .returned (.pointer none) ∧ w = w' := by
  go_enter Tryz.func108, Tryz.ntmps108
  by_cases d : pc < 1
  · have d1 : decide (pc < 1) = true := by simpa using d
    go_wp2_with fail
    go_ret
    exact ⟨rfl, rfl⟩
  have d1 : decide (pc < 1) = false := by simpa using d
  have d2 : decide (100 < pc) = true := by simp; omega
  go_wp2_with fail
  go_ret
  exact ⟨rfl, rfl⟩
end Go.Proofs.YtecmhakapomepaaGreat

/- pool: the very same backends. -/
namespace Go.Proofs.YtecmhakapomepaaGreat
set_option linter.unusedVariables false
open Go Go.RowKit Go.Maps

end Go.Proofs.YtecmhakapomepaaGreat

/- pool: the document's Get, Set, Mark, Drain, Weigh. -/
namespace Go.Proofs.YtecmhakapomepaaGreat
set_option linter.unusedVariables false
open Go Go.RowKit Go.Maps

theorem findF_get {L : List Mem} {id : Int} {k : Nat} (h : findF L id = some k) : ∃ m, L[k]? = some m ∧ m.id = id := by
  induction L generalizing k with
  | nil => simp [findF] at h
  | cons a L ih =>
    unfold findF at h
    by_cases ha : a.id = id
    · rw [if_pos ha] at h
      injection h with h
      subst h
      exact ⟨a, rfl, ha⟩
    · rw [if_neg ha] at h
      obtain ⟨j, hj, rfl⟩ := Option.map_eq_some_iff.1 h
      obtain ⟨m, h1, h2⟩ := ih hj
      exact ⟨m, by simpa using h1, h2⟩
theorem findF_no {L : List Mem} {id : Int} (h : findF L id = none) : ∀ m ∈ L, m.id ≠ id := by
  induction L with
  | nil => simp
  | cons a L ih =>
    unfold findF at h
    by_cases ha : a.id = id
    · rw [if_pos ha] at h; cases h
    · rw [if_neg ha, Option.map_eq_none_iff] at h
      intro m hm
      rcases List.mem_cons.1 hm with rfl | hm
      · exact ha
      · exact ih h m hm
theorem rows_lit5 (w : World) : Rows memK (w.alloc (.cells #[] 223)) w.heap.size w.heap.size 223 (.slice (some ⟨w.heap.size, 0, none⟩) 0 0) [] :=
  ⟨by have := Own1.lit (base := w.heap.size) (et := 223) (size := 5) w #[] 0 (Nat.le_refl _) (Nat.zero_le _) rfl; exact this, by simp⟩
def zeroM : Mem := ⟨0, 0, 0, false, false⟩
/-- a member by its id; zero: there is none. -/
def getM (L : List Mem) (id : Int) : Mem := match findF L id with
  | some k => L[k]?.getD zeroM
  | none => zeroM
/-- another row in the place of one. -/
def setR (L : List Mem) (id : Int) (up dr : Bool) (wt : Int) : Int × List Mem := match findF L id with
  | some k => (0, L.set k ⟨id, (L[k]?.getD zeroM).ad, wt, up, dr⟩)
  | none => (7, L)
end Go.Proofs.YtecmhakapomepaaGreat

/- pool: the document's Mark, Drain, Weigh, Copy, Remove. -/
namespace Go.Proofs.YtecmhakapomepaaGreat
set_option linter.unusedVariables false
open Go Go.RowKit Go.Maps

def markR (L : List Mem) (id : Int) (up : Bool) : Int × List Mem := setR L id up (getM L id).dr (getM L id).wt
def drainR (L : List Mem) (id : Int) (dr : Bool) : Int × List Mem := setR L id (getM L id).up dr (getM L id).wt
def weighR (L : List Mem) (id : Int) (wt : Int) : Int × List Mem :=
  if (decide (0 ≤ findZ L id) && !wtB wt) = true then (2, L) else setR L id (getM L id).up (getM L id).dr wt
def remR (L : List Mem) (id : Int) : Bool × List Mem := match findF L id with
  | some k => (true, L.eraseIdx k)
  | none => (false, L)
end Go.Proofs.YtecmhakapomepaaGreat

/- pool: the document's Copy and Remove. -/
namespace Go.Proofs.YtecmhakapomepaaGreat
set_option linter.unusedVariables false
open Go Go.RowKit Go.Maps

theorem elem_row : Tryz.prog.underlying 218 = some (.slice (Tryz.prog.elem 218)) := by kernel_rfl
theorem size_row (w : World) : (sizeOf (Tryz.prog.elem 218)).run Tryz.prog w = .ok memK.size w := by kernel_rfl
end Go.Proofs.YtecmhakapomepaaGreat

/- pool: Remove, Copy. -/
namespace Go.Proofs.YtecmhakapomepaaGreat
set_option linter.unusedVariables false
open Go Go.RowKit Go.Maps

end Go.Proofs.YtecmhakapomepaaGreat
