import Derived.Test.YtecmhakapomepaaGreatMConfigForms9
import Derived.Test.YtecmhakapomepaaGreatMConfigForms8
/- pool: plain laws of the program's members and the document's rows. -/
namespace Go.Proofs.YtecmhakapomepaaGreat
set_option linter.unusedVariables false
open Go Go.RowKit Go.Maps

def addP (M : List Mem) (id ad wt : Int) : Int × List Mem :=
  if addOk id ad wt = false then (2, M) else match findF M id with
    | some _ => (13, M)
    | none => if 16 ≤ M.length then (6, M) else (0, M ++ [⟨id, ad, wt, false, false⟩])
/-- the document's rows are the program's members, by ids. -/
def Rel (M L : List Mem) : Prop := L.Perm M ∧ ById L ∧ MemsOk M
theorem byId_inj {L : List Mem} (h : ById L) {a b : Mem} (ha : a ∈ L) (hb : b ∈ L) (e : a.id = b.id) : a = b := by
  obtain ⟨i, hi, rfl⟩ := List.getElem_of_mem ha
  obtain ⟨j, hj, rfl⟩ := List.getElem_of_mem hb
  rcases Nat.lt_trichotomy i j with hij | rfl | hij
  · have := List.pairwise_iff_getElem.1 h i j hi hj hij
    omega
  · rfl
  · have := List.pairwise_iff_getElem.1 h j i hj hi hij
    omega
/-- an id is found in both, as one member, or in none. -/
theorem rel_find {M L : List Mem} (h : Rel M L) (id : Int) : (findF M id = none ∧ findF L id = none) ∨ ∃ k j m, findF M id = some k ∧ findF L id = some j ∧ M[k]? = some m ∧ L[j]? = some m ∧ m.id = id := by
  cases hM : findF M id with
  | none =>
    refine .inl ⟨rfl, findF_none fun m hm => findF_no hM m (h.1.mem_iff.1 hm)⟩
  | some k =>
    obtain ⟨m, hm, he⟩ := findF_get hM
    have hmL : m ∈ L := h.1.mem_iff.2 (List.mem_of_getElem? hm)
    cases hL : findF L id with
    | none => exact absurd he (findF_no hL m hmL)
    | some j =>
      obtain ⟨m', hm', he'⟩ := findF_get hL
      have : m' = m := byId_inj h.2.1 (List.mem_of_getElem? hm') hmL (he'.trans he.symm)
      subst this
      exact .inr ⟨k, j, m', rfl, rfl, hm, hm', he⟩
theorem insM_perm (L : List Mem) (m : Mem) : (insM L m).Perm (m :: L) := by
  unfold insM
  have : (L.takeWhile (fun x => decide (x.id < m.id)) ++ m :: L.dropWhile (fun x => decide (x.id < m.id))).Perm (m :: (L.takeWhile (fun x => decide (x.id < m.id)) ++ L.dropWhile (fun x => decide (x.id < m.id)))) := List.perm_middle
  rw [List.takeWhile_append_dropWhile] at this
  exact this
theorem insM_byId {L : List Mem} {m : Mem} (h : ById L) (hn : ∀ x ∈ L, x.id ≠ m.id) : ById (insM L m) := by
  induction L with
  | nil => simp [insM, ById]
  | cons a L ih =>
    unfold ById at h
    rw [List.pairwise_cons] at h
    by_cases ha : a.id < m.id
    · have e : insM (a :: L) m = a :: insM L m := by
        unfold insM
        rw [List.takeWhile_cons_of_pos (by simpa using ha), List.dropWhile_cons_of_pos (by simpa using ha), List.cons_append]
      rw [e]
      unfold ById
      rw [List.pairwise_cons]
      refine ⟨fun x hx => ?_, ih h.2 fun x hx => hn x (List.mem_cons_of_mem _ hx)⟩
      rcases List.mem_cons.1 ((insM_perm L m).mem_iff.1 hx) with rfl | hx
      · exact ha
      · exact h.1 x hx
    · have e : insM (a :: L) m = m :: a :: L := by
        unfold insM
        rw [List.takeWhile_cons_of_neg (by simpa using ha), List.dropWhile_cons_of_neg (by simpa using ha), List.nil_append]
      rw [e]
      have hne := hn a List.mem_cons_self
      unfold ById
      rw [List.pairwise_cons, List.pairwise_cons]
      refine ⟨fun x hx => ?_, h⟩
      rcases List.mem_cons.1 hx with rfl | hx
      · omega
      · have := h.1 x hx; omega
theorem rel_add {M L : List Mem} (h : Rel M L) (id ad wt : Int) : (addP M id ad wt).1 = (addR L id ad wt).1 ∧ Rel (addP M id ad wt).2 (addR L id ad wt).2 := by
  unfold addP addR
  by_cases hok : addOk id ad wt = false
  · rw [if_pos hok, if_pos hok]; exact ⟨rfl, h⟩
  rw [if_neg hok, if_neg hok]
  rcases rel_find h id with ⟨h1, h2⟩ | ⟨k, j, m, h1, h2, h3, h4, _⟩
  · rw [h1, h2]
    simp only [h.1.length_eq]
    by_cases hf : 16 ≤ M.length
    · rw [if_pos hf, if_pos hf]; exact ⟨rfl, h⟩
    · rw [if_neg hf, if_neg hf]
      refine ⟨rfl, (insM_perm L _).trans ((h.1.cons _).trans (List.perm_append_singleton _ M).symm), insM_byId h.2.1 fun x hx => findF_no h2 x hx, by simp; omega, fun x hx => ?_⟩
      rcases List.mem_append.1 hx with hx | hx
      · exact h.2.2.2 x hx
      · obtain rfl : x = _ := List.mem_singleton.1 hx
        unfold addOk wtB at hok
        simp at hok
        show (0 ≤ id ∧ id ≤ 255) ∧ (0 ≤ wt ∧ wt ≤ 100)
        omega
  · rw [h1, h2]; exact ⟨rfl, h⟩
end Go.Proofs.YtecmhakapomepaaGreat

/- pool: the program's functions, each in one word. -/
namespace Go.Proofs.YtecmhakapomepaaGreat
set_option linter.unusedVariables false
open Go Go.RowKit Go.Maps

section
variable (w : World) (g b : Nat) (pc : Int) (M : List Mem) (h : PoolIn w g b pc M)
include h
theorem pAddS (id ad wt : Int) : Calls Tryz.prog 117 #[.pointer (some ⟨g, 0, none⟩), .agg #[.int .i64 id, .int .u32 ad, .int .i64 wt]] w fun e w' => e = .returned (.int .i64 (addP M id ad wt).1) ∧ PoolIn w' g b pc (addP M id ad wt).2 ∧ w.grownBy w' (some b) := by
  unfold addP
  by_cases hok : addOk id ad wt = false
  · rw [if_pos hok]
    exact (addNo_any w g b pc M id ad wt h hok).mono fun e w' q => ⟨q.1, h.nx q.2, grown_of_below q.2 (Nat.le_refl _) _⟩
  rw [if_neg hok]
  replace hok : addOk id ad wt = true := by simpa using hok
  cases hf : findF M id with
  | some k =>
    obtain ⟨m, hm, rfl⟩ := findF_get hf
    exact addThere w g b pc M m ad wt h hok (List.mem_of_getElem? hm)
  | none =>
    by_cases hl : 16 ≤ M.length
    · simp only [if_pos hl]
      exact addFull w g b pc M id ad wt h hok (findF_no hf) hl
    · simp only [if_neg hl]
      exact addNew w g b pc M id ad wt h hok (findF_no hf) (by omega)
variable (id : Int) (r0 : -9223372036854775808 ≤ id) (r1 : id ≤ 9223372036854775807)
include r0 r1
end
end Go.Proofs.YtecmhakapomepaaGreat
