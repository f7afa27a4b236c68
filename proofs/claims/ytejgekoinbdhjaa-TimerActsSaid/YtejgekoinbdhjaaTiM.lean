/- timer: Tick. -/
import Derived.Test.YtejgekoinbdhjaaTiK
namespace Go.Proofs.Ytejgekoinbdhjaa
set_option linter.unusedVariables false
open Go Go.RowKit Go.Maps

theorem tick_step {F R A H : List Slo} {t : Int} (hR : ∀ s ∈ R, t < s.ex) (asc : F.Pairwise fun a b => a.od < b.od) (hF : ∀ s ∈ F, s.ex = t) (hp : A.Perm (F ++ R)) (hh : Held A H) (hd : atS H 0 ∈ A) (hex : (atS H 0).ex = t) : ∃ F', F = atS H 0 :: F' := by
  have hm : atS H 0 ∈ F := by
    rcases List.mem_append.1 (hp.mem_iff.1 hd) with h | h
    · exact h
    · have := hR _ h; omega
  cases F with
  | nil => cases hm
  | cons f F' =>
    refine ⟨F', ?_⟩
    rcases List.mem_cons.1 hm with h | h
    · rw [← h]
    · have h1 := (List.pairwise_cons.1 asc).1 _ h
      have hfA : f ∈ A := hp.mem_iff.2 (by simp)
      have h2 := heap_least hh.1 (hh.2 _ hfA)
      have h3 := hF f (by simp)
      unfold leS at h2
      omega
theorem tick_done {F R A H : List Slo} {t : Int} (hF : ∀ s ∈ F, s.ex = t) (hp : A.Perm (F ++ R)) (hh : Held A H) (hfr : H = [] ∧ A = [] ∨ 0 < H.length ∧ atS H 0 ∈ A) (hl : ∀ s ∈ A, t ≤ s.ex) (hno : ¬ (0 < H.length ∧ (atS H 0).ex = t)) : F = [] := by
  cases F with
  | nil => rfl
  | cons f F' =>
    exfalso
    have hfA : f ∈ A := hp.mem_iff.2 (by simp)
    rcases hfr with ⟨_, rfl⟩ | ⟨h1, h2⟩
    · cases hfA
    · have h3 := heap_least hh.1 (hh.2 _ hfA)
      have h4 := hF f (by simp)
      have h5 := hl _ h2
      unfold leS at h3
      exact hno ⟨h1, by omega⟩
theorem headV_eq (H : List Slo) : headV H = .tuple #[.agg #[.int .i64 (atS H 0).id, .int .i64 (atS H 0).ex, .int .i64 (atS H 0).od], .bool (decide (0 < H.length))] := by
  cases H with
  | nil => rfl
  | cons s H => rfl
theorem erase_perm {A B : List Slo} {s : Slo} {j : Nat} (hj : A[j]? = some s) (hp : A.Perm (s :: B)) : (A.eraseIdx j).Perm B := by
  obtain ⟨hl, rfl⟩ := List.getElem?_eq_some_iff.1 hj
  have h1 : A.Perm (A[j] :: A.eraseIdx j) := by
    have := List.perm_middle (a := A[j]) (l₁ := A.take j) (l₂ := A.drop (j + 1))
    rw [← List.drop_eq_getElem_cons hl, List.take_append_drop] at this
    rw [List.eraseIdx_eq_take_drop_succ]
    exact this
  exact (h1.symm.trans hp).cons_inv
theorem erase_mem {A : List Slo} {j : Nat} {s : Slo} (h : s ∈ A.eraseIdx j) : s ∈ A := List.mem_of_mem_eraseIdx h
def isAt (t : Int) (s : Slo) : Bool := decide (s.ex = t)
def notAt (t : Int) (s : Slo) : Bool := !isAt t s
theorem filter_perm (t : Int) (M : List Slo) : M.Perm (M.filter (isAt t) ++ M.filter (notAt t)) := by
  induction M with
  | nil => exact .nil
  | cons a M ih =>
    cases h : isAt t a
    · have h2 : notAt t a = true := by unfold notAt; rw [h]; rfl
      rw [List.filter_cons_of_neg (by rw [h]; simp), List.filter_cons_of_pos h2]
      exact (ih.cons a).trans List.perm_middle.symm
    · have h2 : notAt t a = false := by unfold notAt; rw [h]; rfl
      rw [List.filter_cons_of_pos h, List.filter_cons_of_neg (by rw [h2]; simp)]
      exact ih.cons a
theorem fresh_mem : ∀ (f : Nat) (A H : List Slo), ∀ s ∈ freshL f A H, s ∈ H
  | 0, _, _, _, h => h
  | f + 1, A, H, s, h => by
    rw [freshL] at h
    split at h
    · split at h
      · exact h
      · exact pop_mem s (fresh_mem f A _ s h)
    · exact h
theorem fresh_len : ∀ (f : Nat) (A H : List Slo), (freshL f A H).length ≤ H.length
  | 0, _, _ => Nat.le_refl _
  | f + 1, A, H => by
    rw [freshL]
    split
    · rename_i s hs
      split
      · exact Nat.le_refl _
      · have := fresh_len f A (popL H)
        have h0 : 0 < H.length := (List.getElem?_eq_some_iff.1 hs).1
        have := popL_len h0
        omega
    · exact Nat.le_refl _
/-- what holds as those that expire are taken: F are still to come. -/
structure TickI (mo co t : Int) (R : List Slo) (Z : List Int) (B : Nat) (A H F : List Slo) (zs : List Int) : Prop where
  held : Held A H
  fr : H = [] ∧ A = [] ∨ 0 < H.length ∧ atS H 0 ∈ A
  rng : ∀ s ∈ H, SloIn mo co s
  len : H.length ≤ B
  perm : A.Perm (F ++ R)
  out : zs ++ F.map Slo.id = Z
  asc : F.Pairwise fun a b => a.od < b.od
  ex : ∀ s ∈ F, s.ex = t
theorem TickI.start {mo no co : Int} {M A H : List Slo} (h : GoodT mo no co M A H) :
    TickI mo co (no + 1) (M.filter (notAt (no + 1))) ((M.filter (isAt (no + 1))).map Slo.id) H.length A (freshL H.length A H) (M.filter (isAt (no + 1))) [] := by
  obtain ⟨h1, h2⟩ := fresh_held H.length A H (Nat.le_refl _) h.held
  exact ⟨h1, h2, fun s hs => h.rng s (fresh_mem _ _ _ s hs), fresh_len _ _ _, h.perm.trans (filter_perm _ _), rfl, h.asc.filter _, fun s hs => by
    have := (List.mem_filter.1 hs).2
    unfold isAt at this
    simpa using this⟩
section
variable {mo co t : Int} {R : List Slo} {Z : List Int} {B : Nat} {A H F : List Slo} {zs : List Int}
theorem nodup_mem_erase {A : List Slo} (hn : A.Pairwise fun a b => a.id ≠ b.id) {j : Nat} {s a : Slo} (hj : A[j]? = some s) (ha : a ∈ A.eraseIdx j) : a ≠ s := by
  intro e
  subst e
  obtain ⟨i, hi⟩ := List.getElem?_of_mem ha
  have hlt := (List.getElem?_eq_some_iff.1 hi).1
  rw [List.getElem?_eraseIdx] at hi
  obtain ⟨hjl, ej⟩ := List.getElem?_eq_some_iff.1 hj
  rw [List.pairwise_iff_getElem] at hn
  split at hi
  · rename_i hij
    obtain ⟨hil, ei⟩ := List.getElem?_eq_some_iff.1 hi
    exact hn i j hil hjl hij (by rw [ei, ej])
  · obtain ⟨hil, ei⟩ := List.getElem?_eq_some_iff.1 hi
    exact hn j (i + 1) hjl hil (by omega) (by rw [ei, ej])
theorem TickI.step (h : TickI mo co t R Z B A H F zs) (hR : ∀ s ∈ R, t < s.ex) (hids : A.Pairwise fun a b => a.id ≠ b.id) (h0 : 0 < H.length) (hex : (atS H 0).ex = t) {j : Nat} (hj : A[j]? = some (atS H 0)) :
    ∃ F', TickI mo co t R Z B (A.eraseIdx j) (freshL (popL H).length (A.eraseIdx j) (popL H)) F' (zs ++ [(atS H 0).id]) := by
  obtain ⟨F', rfl⟩ := tick_step hR h.asc h.ex h.perm h.held (List.mem_of_getElem? hj) hex
  have hp : Held (A.eraseIdx j) (popL H) := ⟨pop_heap h.held.1 h0, fun a ha => pop_keeps h0 (h.held.2 a (erase_mem ha)) (nodup_mem_erase hids hj ha)⟩
  obtain ⟨h1, h2⟩ := fresh_held (popL H).length (A.eraseIdx j) (popL H) (Nat.le_refl _) hp
  refine ⟨F', h1, h2, fun s hs => h.rng s (pop_mem s (fresh_mem _ _ _ s hs)), ?_, erase_perm hj h.perm, ?_, (List.pairwise_cons.1 h.asc).2, fun s hs => h.ex s (by simp [hs])⟩
  · have h3 := fresh_len (popL H).length (A.eraseIdx j) (popL H)
    have h4 := popL_len h0
    have := h.len
    omega
  · have := h.out
    rw [List.map_cons] at this
    rw [← this, List.append_assoc]
    rfl
theorem TickI.done (h : TickI mo co t R Z B A H F zs) (hR : ∀ s ∈ R, t < s.ex) (hno : ¬ (0 < H.length ∧ (atS H 0).ex = t)) : F = [] := by
  refine tick_done h.ex h.perm h.held h.fr (fun s hs => ?_) hno
  rcases List.mem_append.1 (h.perm.mem_iff.1 hs) with q | q
  · have := h.ex s q; omega
  · have := hR s q; omega
end
theorem GoodT.ticked {mo no co : Int} {M A H A' H' : List Slo} {zs : List Int} (h : GoodT mo no co M A H) (k : TickI mo co (no + 1) (M.filter (notAt (no + 1))) ((M.filter (isAt (no + 1))).map Slo.id) H.length A' H' [] zs) :
    zs = (M.filter (isAt (no + 1))).map Slo.id ∧ GoodT mo (no + 1) co (M.filter (notAt (no + 1))) A' H' := by
  refine ⟨by have := k.out; simpa using this, h.hmo, h.hco, k.perm, h.asc.filter _, h.ids.filter _, fun s hs => ?_, k.rng, k.held, by have := k.len; have := h.few; omega⟩
  obtain ⟨h1, h2⟩ := List.mem_filter.1 hs
  have := h.late s h1
  unfold notAt isAt at h2
  simp at h2
  omega
end Go.Proofs.Ytejgekoinbdhjaa
