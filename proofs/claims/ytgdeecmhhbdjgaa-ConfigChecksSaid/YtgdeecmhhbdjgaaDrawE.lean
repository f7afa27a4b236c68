/- Drawn regions whose last operation writes what the others read: the condition S is asked behind every operation but the last one, e. -/
import Derived.Test.YtgdeecmhhbdjgaaLib
namespace Go.Proofs.Ytgdeecmhhbdjgaa
set_option linter.unusedVariables false
open Go

section
variable {P : Program} {ops : Array Oper} {Q : Exit → Act → World → Prop} {md : Region.Mode} {S : World → Prop} {e : Nat}
def wpAnyE (P : Program) (md : Region.Mode) (ops : Array Oper) (Q : Exit → Act → World → Prop) (S : World → Prop) (e : Nat) : Nat → Array Bool → Act → World → Prop
  | 0, listed, a, w => Region.ready md ops listed = [] ∧ Q .normal a w
  | fuel + 1, listed, a, w =>
    (Region.ready md ops listed = [] → Q .normal a w) ∧
    ∀ i ∈ Region.ready md ops listed, wpOp P ops Q i (fun a' w' => (i = e ∨ S w') ∧ wpAnyE P md ops Q S e fuel (listed.setIfInBounds i true) a' w') a w
theorem wpAny_of_E : ∀ (fuel : Nat) (listed : Array Bool) (a : Act) (w : World), wpAnyE P md ops Q S e fuel listed a w → wpAny P md ops Q fuel listed a w
  | 0, _, _, _, h => h
  | fuel + 1, _, _, _, h => ⟨h.1, fun i hi => wpOp_mono (fun a' w' h' => wpAny_of_E fuel _ a' w' h'.2) (h.2 i hi)⟩
theorem wpAnyE_first {i : Nat} {oi : Oper} {v : Value} (C : Array Bool → Prop) (hi : ops[i]? = some oi) (hC : ∀ listed, C listed → i ∈ Region.ready md ops listed → ∀ j, j ∈ Region.ready md ops listed → j ≠ i → j ≠ e ∧ C (listed.setIfInBounds j true)) (hsel : ∀ (j : Nat) (o : Oper) cs b, ops[j]? = some o → o.op ≠ .select cs b)
    (hQ : ∀ c a w, Q (.panic c) (a.put oi.dst v) w → Q (.panic c) a w) :
    ∀ (fuel : Nat) (listed : Array Bool) (a : Act) (w : World),
      (∀ j oj, ops[j]? = some oj → j ≠ i → listed.getD j true = false → (∀ e ∈ oj.after, Region.binds md e = true → e.on ≠ i) → oi.apart ops oj = true) →
      C listed → i ∈ Region.ready md ops listed → YieldsIf P ops S oi v a → S w →
      wpAnyE P md ops Q S e fuel (listed.setIfInBounds i true) (a.put oi.dst v) w → wpAnyE P md ops Q S e (fuel + 1) listed a w := by
  intro fuel
  induction fuel with
  | zero =>
    intro listed a w _ _ hr hy hS H
    refine ⟨fun h => (by rw [h] at hr; cases hr), fun j hj => ?_⟩
    by_cases hji : j = i
    · subst hji; exact hy.wpOp hi hS ⟨.inr hS, H⟩
    · have := ready_mono hj hji
      rw [H.1] at this
      cases this
  | succ fuel ih =>
    intro listed a w hfree hc hr hy hS H
    refine ⟨fun h => (by rw [h] at hr; cases hr), fun j hj => ?_⟩
    by_cases hji : j = i
    · subst hji; exact hy.wpOp hi hS ⟨.inr hS, H⟩
    · have h1 := H.2 j (ready_mono hj hji)
      obtain ⟨hjun, oj, hoj, hall⟩ := mem_ready.1 hj
      have hnot : ∀ e ∈ oj.after, Region.binds md e = true → e.on ≠ i := fun e he hb heq => by
        have h1 := hall e he hb
        have h0 := (mem_ready.1 hr).1
        rw [heq] at h1
        rcases Nat.lt_or_ge i listed.size with h' | h'
        · simp [h'] at h0 h1; rw [h0] at h1; cases h1
        · simp [Array.getElem?_eq_none h'] at h1
      obtain ⟨hje, hc2⟩ := hC listed hc hr j hj hji
      have h2 := wpOp_putIf hoj (hfree j oj hoj hji hjun hnot) (fun cs b => hsel i oi cs b hi) (fun cs b => hsel j oj cs b hoj) hQ hy h1
      have hfree' : ∀ k ok, ops[k]? = some ok → k ≠ i → (listed.setIfInBounds j true).getD k true = false →
          (∀ e ∈ ok.after, Region.binds md e = true → e.on ≠ i) → oi.apart ops ok = true := fun k ok hk hki hun hno => by
        refine hfree k ok hk hki ?_ hno
        by_cases hjk : j = k
        · subst hjk; exact hjun
        · rw [getD_set_ne true hjk] at hun; exact hun
      refine wpOp_mono (fun a' w' h3 => ?_) h2
      have hSw := h3.2.1.resolve_left hje
      refine ⟨.inr hSw, ih (listed.setIfInBounds j true) a' w' hfree' hc2 (ready_mono hr (Ne.symm hji)) h3.1 hSw ?_⟩
      rw [Array.setIfInBounds_comm _ _ hji]
      exact h3.2.2
end
section
variable {P : Program} {l : List Oper} {Q : Exit → Act → World → Prop} {md : Region.Mode} {S : World → Prop} {e : Nat}
def okEdge (md : Region.Mode) (l : List Oper) (e i : Nat) : Bool := match l[e]? with
  | some oe => oe.after.any fun x => Region.binds md x && (x.on == i)
  | none => false
theorem okEdge_spec {e i : Nat} (h : okEdge md l e i = true) {listed : Array Bool} (hi : listed.getD i true = false) : e ∉ Region.ready md l.toArray listed := by
  intro he
  obtain ⟨_, oe, hoe, hall⟩ := mem_ready.1 he
  unfold okEdge at h
  have hoe' : l[e]? = some oe := by simpa using hoe
  rw [hoe'] at h
  simp only [Array.any_eq_true', Bool.and_eq_true, beq_iff_eq] at h
  obtain ⟨x, hx, h1, h2⟩ := h
  have h3 := hall x hx h1
  rw [h2] at h3
  rcases Nat.lt_or_ge i listed.size with h' | h'
  · simp [h'] at hi h3; rw [hi] at h3; cases h3
  · simp [Array.getElem?_eq_none h'] at h3
def okWay (md : Region.Mode) (l : List Oper) (e : Nat) (listed : Array Bool) (i : Nat) : Bool :=
  okEdge md l e i || (List.range l.length).any fun k => okEdge md l e k && okEdge md l k i && !listed.getD k true
theorem okWay_spec {i : Nat} {listed : Array Bool} (h : okWay md l e listed i = true) : ∃ C : Array Bool → Prop, C listed ∧ ∀ listed, C listed → i ∈ Region.ready md l.toArray listed → ∀ j, j ∈ Region.ready md l.toArray listed → j ≠ i → j ≠ e ∧ C (listed.setIfInBounds j true) := by
  unfold okWay at h
  rw [Bool.or_eq_true] at h
  rcases h with h | h
  · exact ⟨fun _ => True, trivial, fun listed _ hr j hj hji => ⟨fun e => okEdge_spec h (mem_ready.1 hr).1 (e ▸ hj), trivial⟩⟩
  · rw [List.any_eq_true] at h
    obtain ⟨k, _, h⟩ := h
    simp only [Bool.and_eq_true, Bool.not_eq_true'] at h
    obtain ⟨⟨h1, h2⟩, h3⟩ := h
    refine ⟨fun listed => listed.getD k true = false, h3, fun listed hc hr j hj hji => ⟨fun e => okEdge_spec h1 hc (e ▸ hj), ?_⟩⟩
    have hjk : j ≠ k := fun e => okEdge_spec h2 (mem_ready.1 hr).1 (e ▸ hj)
    show (listed.setIfInBounds j true).getD k true = false
    rw [getD_set_ne true hjk]
    exact hc
theorem wp_region_E {id : Nat} {a : Act} {w : World} (e : Nat) (hm : P.follows .mixedOrders = true) (hS : S w.drew)
    (h : S w.drew → wpAnyE P .any l.toArray Q S e l.toArray.size (Array.replicate l.toArray.size false) a w.drew) : (Code.region id l.toArray true).wp P Q a w :=
  wp_region_any hm (wpAny_of_E _ _ _ _ (h hS))
theorem e_takeA {fuel : Nat} {listed : Array Bool} {a : Act} {w : World} (i : Nat) {o : Oper} (ho : l[i]? = some o) (v : Value) (hok : (okTake md l listed a.tmps i && okWay md l e listed i) = true)
    (hQ : ∀ c a w, Q (.panic c) (a.put o.dst v) w → Q (.panic c) a w) (hS : S w) (hy : ∀ w, S w → (execOp a.eval o).run P w = .ok (.value v) w)
    (h : wpAnyE P md l.toArray Q S e fuel (listed.setIfInBounds i true) (a.put o.dst v) w) : wpAnyE P md l.toArray Q S e (fuel + 1) listed a w := by
  rw [Bool.and_eq_true] at hok
  obtain ⟨hok, hed⟩ := hok
  obtain ⟨C, hC0, hC⟩ := okWay_spec hed
  unfold okTake at hok
  rw [ho] at hok
  simp only [Bool.and_eq_true] at hok
  obtain ⟨⟨⟨h1, h2⟩, h3⟩, _, h4⟩ := hok
  exact wpAnyE_first C (by simpa using ho) hC (Region.noSelect_spec h1) hQ fuel listed a w (Region.free_spec (by simpa using ho) h2) hC0 (by simpa using h3) (.inl ⟨h4, hy⟩) hS h
theorem e_callA {fuel : Nat} {listed : Array Bool} {a : Act} {w : World} (i : Nat) {o : Oper} (ho : l[i]? = some o) (hr : Region.ready md l.toArray listed = [i])
    (hw : Region.wanted o (yielded l.toArray a.tmps) = true)
    (h : ∀ K : Act → World → Prop, Shut (∀ a w, S w → wpAnyE P md l.toArray Q S e fuel (listed.setIfInBounds i true) a w → K a w) → Oper.wp P o a w K Q) : wpAnyE P md l.toArray Q S e (fuel + 1) listed a w := by
  refine ⟨fun h0 => (by rw [hr] at h0; cases h0), fun j hj => ?_⟩
  rw [hr] at hj
  obtain rfl : j = i := by simpa using hj
  have hi : l.toArray[j]? = some o := by simpa using ho
  unfold wpOp
  simp only [hi, hw, if_true]
  exact .inl (h _ fun a w h1 h2 => ⟨.inr h1, h2⟩)
/-- the last one. -/
theorem e_last {fuel : Nat} {listed : Array Bool} {a : Act} {w : World} {o : Oper} (ho : l[e]? = some o) (hr : Region.ready md l.toArray listed = [e])
    (hw : Region.wanted o (yielded l.toArray a.tmps) = true)
    (h : ∀ K : Act → World → Prop, Shut (∀ a w, wpAnyE P md l.toArray Q S e fuel (listed.setIfInBounds e true) a w → K a w) → Oper.wp P o a w K Q) : wpAnyE P md l.toArray Q S e (fuel + 1) listed a w := by
  refine ⟨fun h0 => (by rw [hr] at h0; cases h0), fun j hj => ?_⟩
  rw [hr] at hj
  obtain rfl : j = e := by simpa using hj
  have hi : l.toArray[j]? = some o := by simpa using ho
  unfold wpOp
  simp only [hi, hw, if_true]
  exact .inl (h _ fun a w h2 => ⟨.inl (by simp), h2⟩)
/-- two may come up. -/
theorem e_two {fuel : Nat} {listed : Array Bool} {a : Act} {w : World} (i j : Nat) {oi oj : Oper} (hi : l[i]? = some oi) (hj : l[j]? = some oj) (hr : Region.ready md l.toArray listed = [i, j])
    (hwi : Region.wanted oi (yielded l.toArray a.tmps) = true) (hwj : Region.wanted oj (yielded l.toArray a.tmps) = true)
    (h1 : ∀ K : Act → World → Prop, Shut (∀ a w, S w → wpAnyE P md l.toArray Q S e fuel (listed.setIfInBounds i true) a w → K a w) → Oper.wp P oi a w K Q)
    (h2 : ∀ K : Act → World → Prop, Shut (∀ a w, S w → wpAnyE P md l.toArray Q S e fuel (listed.setIfInBounds j true) a w → K a w) → Oper.wp P oj a w K Q) : wpAnyE P md l.toArray Q S e (fuel + 1) listed a w := by
  refine ⟨fun h0 => (by rw [hr] at h0; cases h0), fun k hk => ?_⟩
  rw [hr] at hk
  have hi' : l.toArray[i]? = some oi := by simpa using hi
  have hj' : l.toArray[j]? = some oj := by simpa using hj
  rcases List.mem_cons.1 hk with rfl | hk
  · unfold wpOp
    simp only [hi', hwi, if_true]
    exact .inl (h1 _ fun a w h1 h2 => ⟨.inr h1, h2⟩)
  · obtain rfl : k = j := by simpa using hk
    unfold wpOp
    simp only [hj', hwj, if_true]
    exact .inl (h2 _ fun a w h1 h2 => ⟨.inr h1, h2⟩)
theorem e_done {listed : Array Bool} {a : Act} {w : World} (hr : Region.ready md l.toArray listed = []) (h : Q .normal a w) : ∀ fuel, wpAnyE P md l.toArray Q S e fuel listed a w
  | 0 => ⟨hr, h⟩
  | _ + 1 => ⟨fun _ => h, by rw [hr]; simp⟩
end
end Go.Proofs.Ytgdeecmhhbdjgaa
