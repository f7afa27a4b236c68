/- timer: the document's list and the table in plain terms. -/
import Derived.Test.YtejgekoinbdhjaaTjH
namespace Go.Proofs.Ytejgekoinbdhjaa
set_option linter.unusedVariables false
open Go Go.RowKit Go.Maps

def rowOf (s : Slo) : Int × Int := (s.id, s.ex)
def rowsOf (M : List Slo) : List (Int × Int) := M.map rowOf
theorem due_rel (M : List Slo) (t : Int) : ((rowsOf M).filter (isR t)).map Prod.fst = (M.filter (isAt t)).map Slo.id := by
  induction M with
  | nil => rfl
  | cons a M ih =>
    show (List.filter (isR t) (rowOf a :: rowsOf M)).map Prod.fst = _
    have e : isR t (rowOf a) = isAt t a := rfl
    cases h : isAt t a
    · rw [List.filter_cons_of_neg (by rw [e, h]; simp), List.filter_cons_of_neg (by rw [h]; simp)]; exact ih
    · rw [List.filter_cons_of_pos (by rw [e, h]), List.filter_cons_of_pos h, List.map_cons, List.map_cons, ih]; rfl
theorem rest_rel (M : List Slo) (t : Int) : (rowsOf M).filter (fun r => !(isR t r)) = rowsOf (M.filter (notAt t)) := by
  induction M with
  | nil => rfl
  | cons a M ih =>
    show List.filter (fun r => !(isR t r)) (rowOf a :: rowsOf M) = _
    have e : (!(isR t (rowOf a))) = notAt t a := rfl
    cases h : notAt t a
    · rw [List.filter_cons_of_neg (by rw [e, h]; simp), List.filter_cons_of_neg (by rw [h]; simp)]; exact ih
    · rw [List.filter_cons_of_pos (by rw [e, h]), List.filter_cons_of_pos h, ih]; rfl
theorem sk_rel (k : Nat) (no : Int) (M : List Slo) : skN k no (rowsOf M) = ((skX k no M).1, rowsOf (skX k no M).2) := by
  induction k with
  | zero => rfl
  | succ k ih =>
    simp only [skN, skX, ih]
    rw [due_rel, rest_rel]
theorem drop_rel : ∀ (M : List Slo) (id : Int), (M.Pairwise fun a b => a.id ≠ b.id) → dropN (rowsOf M) id = (hasId id M, rowsOf (noId id M))
  | M, id, hp => by
    by_cases hm : ∃ s ∈ M, s.id = id
    · obtain ⟨s, hs, rfl⟩ := hm
      obtain ⟨k, hk⟩ := List.getElem?_of_mem hs
      obtain ⟨hkl, hke⟩ := List.getElem?_eq_some_iff.1 hk
      rw [List.pairwise_iff_getElem] at hp
      rw [hasId_yes hs, dropN_at (L := rowsOf M) (k := k) (r := rowOf s) (id := s.id) (by unfold rowsOf; rw [List.getElem?_map, hk]; rfl) rfl ?_]
      · congr 1
        unfold rowsOf noId
        rw [← map_eraseIdx']
        congr 1
        rw [List.eraseIdx_eq_take_drop_succ]
        have h1 : M = M.take k ++ s :: M.drop (k + 1) := by
          conv => lhs; rw [← List.take_append_drop k M, List.drop_eq_getElem_cons hkl, hke]
        conv => rhs; rw [h1]
        rw [List.filter_append, List.filter_cons_of_neg (by simp), List.filter_eq_self.2, List.filter_eq_self.2]
        · intro a ha
          obtain ⟨i, hi⟩ := List.getElem?_of_mem ha
          rw [List.getElem?_drop] at hi
          obtain ⟨hil, hie⟩ := List.getElem?_eq_some_iff.1 hi
          have := hp k (k + 1 + i) hkl hil (by omega)
          rw [hke, hie] at this
          simpa using this.symm
        · intro a ha
          obtain ⟨i, hi⟩ := List.getElem?_of_mem ha
          have hik : i < k := by have := (List.getElem?_eq_some_iff.1 hi).1; rw [List.length_take] at this; omega
          rw [List.getElem?_take_of_lt hik] at hi
          obtain ⟨hil, hie⟩ := List.getElem?_eq_some_iff.1 hi
          have := hp i k hil hkl hik
          rw [hke, hie] at this
          simpa using this
      · intro j x hj hx
        unfold rowsOf at hx
        rw [List.getElem?_map] at hx
        cases hq : M[j]? with
        | none => rw [hq] at hx; cases hx
        | some a =>
          rw [hq] at hx
          injection hx with hx
          subst hx
          obtain ⟨hil, hie⟩ := List.getElem?_eq_some_iff.1 hq
          have := hp j k hil hkl hj
          rw [hke, hie] at this
          exact this
    · have hn : ∀ s ∈ M, s.id ≠ id := fun s hs e => hm ⟨s, hs, e⟩
      rw [hasId_no hn, noId_none hn]
      refine dropN_none fun j x hx => ?_
      obtain ⟨a, ha, rfl⟩ := List.mem_map.1 (List.mem_of_getElem? hx)
      exact hn a ha
/-- when an id expires, in plain terms. -/
theorem find_rel (M : List Slo) (id : Int) : findN (rowsOf M) id = match M.find? (fun s => decide (s.id = id)) with | some s => (s.ex, true) | none => (0, false) := by
  unfold findN rowsOf
  rw [List.find?_map]
  have e : (fun (r : Int × Int) => decide (r.1 = id)) ∘ rowOf = fun s => decide (s.id = id) := rfl
  rw [e]
  cases M.find? (fun s => decide (s.id = id)) <;> rfl
theorem find_none {M : List Slo} {id : Int} (h : ∀ s ∈ M, s.id ≠ id) : findN (rowsOf M) id = (0, false) := by
  rw [find_rel, List.find?_eq_none.2 (fun s hs => by simpa using h s hs)]
theorem find_some : ∀ {M : List Slo} {s : Slo}, (M.Pairwise fun a b => a.id ≠ b.id) → s ∈ M → findN (rowsOf M) s.id = (s.ex, true)
  | [], s, _, h => by cases h
  | a :: M, s, hp, hs => by
    rw [List.pairwise_cons] at hp
    rw [find_rel]
    by_cases e : a = s
    · subst e; simp
    · have hs2 : s ∈ M := (List.mem_cons.1 hs).resolve_left fun q => e q.symm
      rw [List.find?_cons_of_neg (by simpa using hp.1 s hs2), ← find_rel]
      exact find_some hp.2 hs2
/-- the least time, in plain terms. -/
theorem next_rel : ∀ (M : List Slo) (a : Int), ((rowsOf M).foldl stepN (a, true)).2 = true ∧ ((rowsOf M).foldl stepN (a, true)).1 ≤ a ∧ (∀ s ∈ M, ((rowsOf M).foldl stepN (a, true)).1 ≤ s.ex) ∧ (((rowsOf M).foldl stepN (a, true)).1 = a ∨ ∃ s ∈ M, ((rowsOf M).foldl stepN (a, true)).1 = s.ex)
  | [], a => ⟨rfl, Int.le_refl _, by simp, .inl rfl⟩
  | x :: M, a => by
    show ((rowsOf M).foldl stepN (stepN (a, true) (rowOf x))).2 = true ∧ ((rowsOf M).foldl stepN (stepN (a, true) (rowOf x))).1 ≤ a ∧ (∀ s ∈ x :: M, ((rowsOf M).foldl stepN (stepN (a, true) (rowOf x))).1 ≤ s.ex) ∧ (((rowsOf M).foldl stepN (stepN (a, true) (rowOf x))).1 = a ∨ ∃ s ∈ x :: M, ((rowsOf M).foldl stepN (stepN (a, true) (rowOf x))).1 = s.ex)
    by_cases hx : x.ex < a
    · have e : stepN (a, true) (rowOf x) = (x.ex, true) := by unfold stepN rowOf; simp [hx]
      rw [e]
      obtain ⟨h1, h2, h3, h4⟩ := next_rel M x.ex
      refine ⟨h1, by omega, fun s hs => ?_, .inr ?_⟩
      · rcases List.mem_cons.1 hs with rfl | hs
        · exact h2
        · exact h3 s hs
      · rcases h4 with h4 | ⟨s, hs, h4⟩
        · exact ⟨x, by simp, h4⟩
        · exact ⟨s, by simp [hs], h4⟩
    · have e : stepN (a, true) (rowOf x) = (a, true) := by unfold stepN rowOf; simp [hx]
      rw [e]
      obtain ⟨h1, h2, h3, h4⟩ := next_rel M a
      refine ⟨h1, h2, fun s hs => ?_, ?_⟩
      · rcases List.mem_cons.1 hs with rfl | hs
        · omega
        · exact h3 s hs
      · rcases h4 with h4 | ⟨s, hs, h4⟩
        · exact .inl h4
        · exact .inr ⟨s, by simp [hs], h4⟩
theorem next_least {M : List Slo} {s : Slo} (hs : s ∈ M) (hl : ∀ a ∈ M, s.ex ≤ a.ex) : nextN (rowsOf M) = (s.ex, true) := by
  cases M with
  | nil => cases hs
  | cons x M =>
    have e : nextN (rowsOf (x :: M)) = (rowsOf M).foldl stepN (x.ex, true) := rfl
    obtain ⟨h1, h2, h3, h4⟩ := next_rel M x.ex
    rw [e]
    refine Prod.ext ?_ h1
    show ((rowsOf M).foldl stepN (x.ex, true)).1 = s.ex
    have h5 : ((rowsOf M).foldl stepN (x.ex, true)).1 ≤ s.ex := by
      rcases List.mem_cons.1 hs with rfl | hs
      · exact h2
      · exact h3 s hs
    have h6 : s.ex ≤ ((rowsOf M).foldl stepN (x.ex, true)).1 := by
      rcases h4 with h4 | ⟨a, ha, h4⟩
      · rw [h4]; exact hl x (by simp)
      · rw [h4]; exact hl a (by simp [ha])
    omega
theorem next_nil : nextN (rowsOf []) = (0, false) := rfl
end Go.Proofs.Ytejgekoinbdhjaa
