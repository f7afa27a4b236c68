/- flows: rings, in plain terms. -/
import Derived.Test.YtgdeecmhhbdjgaaFlB
namespace Go.Proofs.Ytgdeecmhhbdjgaa
set_option linter.unusedVariables false

/-- one behind the other. -/
def LnkL (bk nx : Nat → Nat) : List Nat → Prop
  | a :: b :: r => nx a = b ∧ bk b = a ∧ LnkL bk nx (b :: r)
  | _ => True
theorem lnk_split {bk nx : Nat → Nat} : ∀ (u : List Nat) (b : Nat) (v : List Nat), LnkL bk nx (u ++ b :: v) ↔ LnkL bk nx (u ++ [b]) ∧ LnkL bk nx (b :: v)
  | [], b, v => ⟨fun h => ⟨trivial, h⟩, fun h => h.2⟩
  | [a], b, v => by
    constructor
    · rintro ⟨h1, h2, h3⟩; exact ⟨⟨h1, h2, trivial⟩, h3⟩
    · rintro ⟨⟨h1, h2, _⟩, h3⟩; exact ⟨h1, h2, h3⟩
  | a :: c :: u, b, v => by
    have ih := lnk_split (bk := bk) (nx := nx) (c :: u) b v
    constructor
    · rintro ⟨h1, h2, h3⟩
      obtain ⟨h4, h5⟩ := ih.1 h3
      exact ⟨⟨h1, h2, h4⟩, h5⟩
    · rintro ⟨⟨h1, h2, h3⟩, h4⟩
      exact ⟨h1, h2, ih.2 ⟨h3, h4⟩⟩
theorem lnk_congr {bk nx bk' nx' : Nat → Nat} : ∀ {c : List Nat}, LnkL bk nx c → (∀ k ∈ c.dropLast, nx' k = nx k) → (∀ k ∈ c.tail, bk' k = bk k) → LnkL bk' nx' c
  | [], _, _, _ => trivial
  | [a], _, _, _ => trivial
  | a :: b :: r, ⟨h1, h2, h3⟩, hn, hb => by
    refine ⟨(hn a (by simp)).trans h1, (hb b (by simp)).trans h2, lnk_congr h3 (fun k hk => hn k ?_) fun k hk => hb k ?_⟩
    · rw [List.dropLast_cons_cons]; exact List.mem_cons_of_mem _ hk
    · simp only [List.tail_cons] at hk ⊢; exact List.mem_cons_of_mem _ hk
theorem snoc_form {α : Type} (a : α) (l : List α) : ∃ u b, a :: l = u ++ [b] := ⟨(a :: l).dropLast, (a :: l).getLast (by simp), (List.dropLast_concat_getLast (by simp)).symm⟩
/-- a ring from e. -/
def Cyc (bk nx : Nat → Nat) (e : Nat) (l : List Nat) : Prop := LnkL bk nx (e :: l ++ [e])
/-- what is ahead of, and behind, one of the ring. -/
theorem cyc_at {bk nx : Nat → Nat} {e x : Nat} {p q : List Nat} (h : Cyc bk nx e (p ++ x :: q)) :
    (∃ u, e :: p = u ++ [bk x]) ∧ (∃ v, q ++ [e] = nx x :: v) := by
  obtain ⟨u, b, hu⟩ := snoc_form e p
  have h1 : LnkL bk nx (u ++ b :: (x :: (q ++ [e]))) := by
    have : e :: (p ++ x :: q) ++ [e] = u ++ b :: (x :: (q ++ [e])) := by
      rw [← List.cons_append, hu]; simp
    rw [← this]; exact h
  obtain ⟨_, h2, h3, h4⟩ := (lnk_split u b _).1 h1
  refine ⟨⟨u, by rw [h3, hu]⟩, ?_⟩
  cases q with
  | nil => exact ⟨[], by have := h4.1; simp at this ⊢; exact this.symm⟩
  | cons y q => exact ⟨q ++ [e], by have := h4.1; rw [this]; rfl⟩
theorem cyc_out {bk nx : Nat → Nat} {e x : Nat} {p q : List Nat} (h : Cyc bk nx e (p ++ x :: q)) (hn : (e :: (p ++ x :: q)).Nodup) :
    Cyc (upd bk (nx x) (bk x)) (upd nx (bk x) (nx x)) e (p ++ q) := by
  obtain ⟨⟨u, hu⟩, v, hv⟩ := cyc_at h
  have e1 : e :: (p ++ x :: q) ++ [e] = u ++ bk x :: (x :: (nx x :: v)) := by
    rw [← List.cons_append, hu, ← hv]; simp
  have e2 : e :: (p ++ q) ++ [e] = u ++ bk x :: (nx x :: v) := by
    rw [← List.cons_append, hu, ← hv]; simp
  have h1 := h
  unfold Cyc at h1 ⊢
  rw [e1] at h1
  rw [e2]
  obtain ⟨h2, h3⟩ := (lnk_split u _ _).1 h1
  have h4 := h3.2.2.2.2
  rw [List.nodup_cons, List.mem_append, List.mem_cons] at hn
  obtain ⟨hne, hn⟩ := hn
  rw [List.nodup_append, List.nodup_cons] at hn
  obtain ⟨hp, ⟨hxq, hq⟩, hpq⟩ := hn
  have hep : (e :: p).Nodup := List.nodup_cons.2 ⟨fun q => hne (.inl q), hp⟩
  have hqe : (q ++ [e]).Nodup := by
    rw [List.nodup_append]
    exact ⟨hq, by simp, fun a ha b hb => by rw [List.mem_singleton] at hb; subst hb; exact fun q => hne (.inr (.inr (q ▸ ha)))⟩
  have hbm : bk x ∈ e :: p := by rw [hu]; simp
  have hnm : nx x ∈ q ++ [e] := by rw [hv]; simp
  refine (lnk_split u _ _).2 ⟨lnk_congr h2 (fun k hk => upd_other _ _ ?_) (fun k hk => upd_other _ _ ?_), upd_same _ _ _, upd_same _ _ _, lnk_congr h4 (fun k hk => upd_other _ _ ?_) (fun k hk => upd_other _ _ ?_)⟩
  · intro q
    subst q
    rw [hu, List.nodup_append] at hep
    rw [List.dropLast_concat] at hk
    exact hep.2.2 _ hk _ (by simp) rfl
  · intro hq2
    subst hq2
    rw [← hu, List.tail_cons] at hk
    rcases List.mem_append.1 hnm with h | h
    · exact hpq _ hk _ (List.mem_cons_of_mem _ h) rfl
    · rw [List.mem_singleton] at h
      rw [h] at hk
      exact hne (.inl hk)
  · intro hq2
    subst hq2
    rw [← hv, List.dropLast_concat] at hk
    rcases List.mem_cons.1 hbm with h | h
    · rw [h] at hk; exact hne (.inr (.inr hk))
    · exact hpq _ h _ (List.mem_cons_of_mem _ hk) rfl
  · intro hq2
    subst hq2
    rw [hv, List.nodup_cons] at hqe
    exact hqe.1 hk
/-- the last of the ring. -/
theorem cyc_back {bk nx : Nat → Nat} {e : Nat} {l : List Nat} (h : Cyc bk nx e l) : ∃ u, e :: l = u ++ [bk e] := by
  obtain ⟨u, b, hu⟩ := snoc_form e l
  have h1 : LnkL bk nx (u ++ b :: [e]) := by
    have : e :: l ++ [e] = u ++ b :: [e] := by rw [hu]; simp
    rw [← this]; exact h
  have h2 := ((lnk_split u b _).1 h1).2.2.1
  exact ⟨u, by rw [h2, hu]⟩
theorem cyc_next {bk nx : Nat → Nat} {e : Nat} {l : List Nat} (h : Cyc bk nx e l) : ∃ v, l ++ [e] = nx e :: v := by
  cases l with
  | nil => exact ⟨[], by have := h.1; rw [this]; rfl⟩
  | cons x l => exact ⟨l ++ [e], by have := h.1; rw [this]; rfl⟩
theorem cyc_last {bk nx : Nat → Nat} {e x : Nat} {l : List Nat} (h : Cyc bk nx e l) (hn : (e :: l).Nodup) (hx : x ∉ e :: l) :
    Cyc (upd (upd bk x (bk e)) e x) (upd (upd nx x e) (bk e) x) e (l ++ [x]) := by
  obtain ⟨u, hu⟩ := cyc_back h
  have e1 : e :: l ++ [e] = u ++ bk e :: [e] := by rw [hu]; simp
  have e2 : e :: (l ++ [x]) ++ [e] = u ++ bk e :: [x, e] := by rw [← List.cons_append, hu]; simp
  have h1 := h
  unfold Cyc at h1 ⊢
  rw [e1] at h1
  rw [e2]
  have h2 := ((lnk_split u _ _).1 h1).1
  have hbm : bk e ∈ e :: l := by rw [hu]; simp
  have hxe : x ≠ e := fun q => hx (by rw [q]; simp)
  have hxb : x ≠ bk e := fun q => hx (by rw [q]; exact hbm)
  refine (lnk_split u _ _).2 ⟨lnk_congr h2 (fun k hk => ?_) (fun k hk => ?_), upd_same _ _ _, ?_, ?_, upd_same _ _ _, trivial⟩
  · rw [List.dropLast_concat] at hk
    have hk2 : k ∈ e :: l := by rw [hu]; exact List.mem_append_left _ hk
    rw [upd_other _ _ (fun q => ?_), upd_other _ _ (fun q : k = x => hx (q ▸ hk2))]
    subst q
    rw [hu, List.nodup_append] at hn
    exact hn.2.2 _ hk _ (by simp) rfl
  · rw [← hu, List.tail_cons] at hk
    rw [upd_other _ _ (fun q : k = e => (List.nodup_cons.1 hn).1 (q ▸ hk)), upd_other _ _ (fun q : k = x => hx (q ▸ List.mem_cons_of_mem _ hk))]
  · rw [upd_other _ _ hxe, upd_same]
  · rw [upd_other _ _ hxb, upd_same]
end Go.Proofs.Ytgdeecmhhbdjgaa
