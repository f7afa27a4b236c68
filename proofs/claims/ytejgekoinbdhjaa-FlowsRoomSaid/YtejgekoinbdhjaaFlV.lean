/- flows: plain laws for FlowsRoom. -/
import Derived.Test.YtejgekoinbdhjaaFlU
namespace Go.Proofs.Ytejgekoinbdhjaa
set_option linter.unusedVariables false
open Go Go.RowKit Go.Maps

theorem TabF.flows {w : World} {X : Nat → Prop} {g : Nat} {ro idl now : Int} {n : Nat} {E : List EnV} (h : TabF w X g ro idl now n E) : (E.map EnV.fl).Nodup := by
  obtain ⟨m, e, ca, we, l, dt, bk, nx, h1, h2, h3⟩ := h
  have := h1.flows
  rw [← h2, List.map_map]
  exact this
theorem TabF.oks {w : World} {X : Nat → Prop} {g : Nat} {ro idl now : Int} {n : Nat} {E : List EnV} (h : TabF w X g ro idl now n E) : ∀ x ∈ E, FloOk x.fl := by
  obtain ⟨m, e, ca, we, l, dt, bk, nx, h1, h2, h3⟩ := h
  intro x hx
  rw [← h2] at hx
  obtain ⟨k, hk, rfl⟩ := List.mem_map.1 hx
  exact h1.ok k hk
theorem peek_any (E : List EnV) (f : Flo) : (peekN E f).2 = E.any (isF f) := by
  unfold peekN
  cases h : E.find? (isF f) with
  | none =>
    symm
    rw [Bool.eq_false_iff]
    intro q
    obtain ⟨x, hx, e1⟩ := any_of.1 q
    have := List.find?_eq_none.1 h x hx
    rw [isF_yes e1] at this
    simp at this
  | some x =>
    symm
    have h1 := List.find?_some h
    exact any_of.2 ⟨x, List.mem_of_find?_eq_some h, of_decide_eq_true h1⟩
theorem peek_in {E : List EnV} {x : EnV} (hn : (E.map EnV.fl).Nodup) (hx : x ∈ E) : peekN E x.fl = (x, true) := by
  have key : ∀ E : List EnV, (E.map EnV.fl).Nodup → x ∈ E → E.find? (isF x.fl) = some x := by
    intro E
    induction E with
    | nil => intro _ h; cases h
    | cons y E ih =>
      intro hn hx
      rw [List.map_cons, List.nodup_cons] at hn
      rcases List.mem_cons.1 hx with rfl | hx
      · rw [List.find?_cons, isF_yes rfl]
      · have hne : y.fl ≠ x.fl := fun e1 => hn.1 (by rw [e1]; exact List.mem_map.2 ⟨x, hx, rfl⟩)
        rw [List.find?_cons, isF_no hne]
        exact ih hn.2 hx
  unfold peekN
  rw [key E hn hx]
theorem peek_out {E : List EnV} {f : Flo} (h : ∀ x ∈ E, x.fl ≠ f) : peekN E f = (ze, false) := by
  unfold peekN
  rw [(find_none h).1]
theorem keepF_mem {f : Flo} {E : List EnV} {x : EnV} : x ∈ keepF f E ↔ x ∈ E ∧ x.fl ≠ f := by
  unfold keepF
  rw [List.mem_filter]
  constructor
  · rintro ⟨h1, h2⟩
    refine ⟨h1, fun e1 => ?_⟩
    rw [isF_yes e1] at h2
    simp at h2
  · rintro ⟨h1, h2⟩
    exact ⟨h1, by rw [isF_no h2]; rfl⟩
/-- what a Put does: whether room is made, what goes, what stays. -/
theorem room_law {ro : Int} {E : List EnV} {f : Flo} {b t : Int} {gv : EnV} {md : Bool} {E2 : List EnV} (hp : putN ro E f b t = (gv, md, E2)) (hn : (E.map EnV.fl).Nodup) (hl : (E.length : Int) ≤ ro) (h1 : 1 ≤ ro) (hn2 : (E2.map EnV.fl).Nodup) :
    md = (!(E.any (isF f)) && ((E.length : Int) == ro)) ∧ (md = true → E[0]? = some gv) ∧ peekN E2 f = (⟨f, b, t⟩, true) ∧ ∀ i x, E[i]? = some x → x.fl ≠ f → peekN E2 x.fl = if md = true ∧ i = 0 then (ze, false) else (x, true) := by
  have hlast : ⟨f, b, t⟩ ∈ E2 := by
    unfold putN at hp
    split at hp
    · injection hp with _ hp; injection hp with _ hp; rw [← hp]; simp
    · split at hp <;> (injection hp with _ hp; injection hp with _ hp; rw [← hp]; simp)
  refine ⟨?_, ?_, peek_in (x := ⟨f, b, t⟩) hn2 hlast, ?_⟩
  · unfold putN at hp
    split at hp
    · rename_i h
      injection hp with _ hp; injection hp with hp _
      rw [h, ← hp]; rfl
    · rename_i h
      have h0 : E.any (isF f) = false := by simpa using h
      split at hp
      · injection hp with _ hp; injection hp with hp _
        rw [h0, ← hp]
        have : ((E.length : Int) == ro) = false := by rw [beq_eq_false_iff_ne]; omega
        rw [this]; rfl
      · injection hp with _ hp; injection hp with hp _
        rw [h0, ← hp]
        have : ((E.length : Int) == ro) = true := by rw [beq_iff_eq]; omega
        rw [this]; rfl
  · intro hm
    unfold putN at hp
    split at hp
    · injection hp with _ hp; injection hp with hp _
      rw [hm] at hp; cases hp
    · split at hp
      · injection hp with _ hp; injection hp with hp _
        rw [hm] at hp; cases hp
      · injection hp with hg _
        cases E with
        | nil => simp at hl; simp_all; omega
        | cons y E => rw [← hg]; rfl
  · intro i x hx hxf
    have hxE := List.mem_of_getElem? hx
    by_cases hm : md = true ∧ i = 0
    · rw [if_pos hm]
      obtain ⟨hm, rfl⟩ := hm
      unfold putN at hp
      split at hp
      · injection hp with _ hp; injection hp with hp _
        rw [hm] at hp; cases hp
      · split at hp
        · injection hp with _ hp; injection hp with hp _
          rw [hm] at hp; cases hp
        · injection hp with _ hp; injection hp with _ hp
          cases E with
          | nil => simp at hx
          | cons y E =>
            simp at hx
            subst hx
            rw [List.map_cons, List.nodup_cons] at hn
            refine peek_out fun z hz e1 => ?_
            rw [← hp] at hz
            rcases List.mem_append.1 hz with hz | hz
            · exact hn.1 (by rw [← e1]; exact List.mem_map.2 ⟨z, hz, rfl⟩)
            · rw [List.mem_singleton] at hz
              subst hz
              exact hxf e1.symm
    · rw [if_neg hm]
      refine peek_in hn2 ?_
      unfold putN at hp
      split at hp
      · injection hp with _ hp; injection hp with _ hp
        rw [← hp]
        exact List.mem_append_left _ (keepF_mem.2 ⟨hxE, hxf⟩)
      · split at hp
        · injection hp with _ hp; injection hp with _ hp
          rw [← hp]
          exact List.mem_append_left _ hxE
        · injection hp with _ hp; injection hp with hm2 hp
          rw [← hp]
          refine List.mem_append_left _ ?_
          cases E with
          | nil => cases hxE
          | cons y E =>
            cases i with
            | zero => exact absurd ⟨hm2.symm, rfl⟩ hm
            | succ i => exact List.mem_of_getElem? (by simpa using hx)
end Go.Proofs.Ytejgekoinbdhjaa
