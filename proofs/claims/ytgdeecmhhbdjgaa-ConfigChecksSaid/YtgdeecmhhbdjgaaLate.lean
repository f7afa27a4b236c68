/- Regions that draw their order, by hand: a call whose answer is the same whenever it comes up may be taken first too, though it makes memory. -/
import Derived.Test.YtgdeecmhhbdjgaaLib
namespace Go.Proofs.Ytgdeecmhhbdjgaa
set_option linter.unusedVariables false
open Go Go.RowKit

section
variable {P : Program} {ops : Array Oper} {Q : Exit → Act → World → Prop} {md : Region.Mode}
/-- w' is later than w: what lay in w lies there still. -/
def Lat (w w' : World) : Prop := Below w.heap.size w w'
theorem Lat.refl (w : World) : Lat w w := Below.refl _ _
theorem Lat.trans {a b c : World} (h : Lat a b) (k : Lat b c) : Lat a c := Below.trans h (k.mono h.size)
/-- every order, and between two operations the world may have gone on. -/
def wpLat (P : Program) (md : Region.Mode) (ops : Array Oper) (Q : Exit → Act → World → Prop) : Nat → Array Bool → Act → World → Prop
  | 0, listed, a, w => Region.ready md ops listed = [] ∧ Q .normal a w
  | fuel + 1, listed, a, w => (Region.ready md ops listed = [] → Q .normal a w) ∧
      ∀ i ∈ Region.ready md ops listed, wpOp P ops Q i (fun a' w' => Lat w w' ∧ ∀ w'', Lat w' w'' → wpLat P md ops Q fuel (listed.setIfInBounds i true) a' w'') a w
theorem wpAny_of_lat : ∀ (fuel : Nat) (listed : Array Bool) (a : Act) (w : World), wpLat P md ops Q fuel listed a w → wpAny P md ops Q fuel listed a w
  | 0, _, _, _, h => h
  | fuel + 1, _, _, _, h => ⟨h.1, fun i hi => wpOp_mono (fun a' w' h' => wpAny_of_lat fuel _ a' w' (h'.2 w' (Lat.refl w'))) (h.2 i hi)⟩
/-- what operation o is from world w on: it yields v, at once or by a call. -/
def Late (P : Program) (ops : Array Oper) (w : World) (o : Oper) (v : Value) (a : Act) : Prop :=
  Region.wanted o (yielded ops a.tmps) = true ∧ ∀ w', Lat w w' → ∃ (f : FuncId) (args : Array Value), (execOp a.eval o).run P w' = .ok (.enter f args) w' ∧ Calls P f args w' fun e w'' => e = .returned v ∧ Lat w' w''
def Now (P : Program) (ops : Array Oper) (w : World) (o : Oper) (v : Value) (a : Act) : Prop :=
  (Region.wanted o (yielded ops a.tmps) = true ∧ ∀ w', Lat w w' → (execOp a.eval o).run P w' = .ok (.value v) w') ∨ (Region.wanted o (yielded ops a.tmps) = false ∧ v = undef)
theorem Late.on {w w' : World} {o : Oper} {v : Value} {a : Act} (h : Late P ops w o v a) (k : Lat w w') : Late P ops w' o v a := by
  exact ⟨h.1, fun w2 hw => h.2 w2 (k.trans hw)⟩
theorem Now.on {w w' : World} {o : Oper} {v : Value} {a : Act} (h : Now P ops w o v a) (k : Lat w w') : Now P ops w' o v a := by
  rcases h with ⟨h1, h2⟩ | h
  · exact .inl ⟨h1, fun w2 hw => h2 w2 (k.trans hw)⟩
  · exact .inr h
theorem Late.same {w : World} {o : Oper} {v : Value} {a a' : Act} (hy : Late P ops w o v a) (he : execOp a'.eval o = execOp a.eval o) (hw : Region.wanted o (yielded ops a'.tmps) = Region.wanted o (yielded ops a.tmps)) : Late P ops w o v a' := by
  unfold Late at *; rw [he, hw]; exact hy
theorem Now.same {w : World} {o : Oper} {v : Value} {a a' : Act} (hy : Now P ops w o v a) (he : execOp a'.eval o = execOp a.eval o) (hw : Region.wanted o (yielded ops a'.tmps) = Region.wanted o (yielded ops a.tmps)) : Now P ops w o v a' := by
  unfold Now at *; rw [he, hw]; exact hy
theorem Late.run {i : Nat} {o : Oper} {v : Value} {a : Act} {w : World} (hi : ops[i]? = some o) (hy : Late P ops w o v a) {K : Act → World → Prop} (h : ∀ w', Lat w w' → K (a.put o.dst v) w') : wpOp P ops Q i K a w := by
  obtain ⟨hw, h2⟩ := hy
  obtain ⟨f, args, e1, e2⟩ := h2 w (Lat.refl w)
  unfold wpOp
  simp only [hi, hw, if_true]
  refine .inl ?_
  unfold Oper.wp
  rw [e1, Oper.upon]
  refine e2.mono ?_
  rintro e w'' ⟨rfl, hl⟩
  exact h w'' hl
theorem Now.run {i : Nat} {o : Oper} {v : Value} {a : Act} {w : World} (hi : ops[i]? = some o) (hy : Now P ops w o v a) {K : Act → World → Prop} (h : K (a.put o.dst v) w) : wpOp P ops Q i K a w := by
  unfold wpOp
  simp only [hi]
  rcases hy with ⟨hw, h2⟩ | ⟨hw, rfl⟩
  · simp only [hw, if_true]
    refine .inl ?_
    unfold Oper.wp
    rw [h2 w (Lat.refl w), Oper.upon]
    exact h
  · simp only [hw, Bool.false_eq_true, if_false]; exact h
/-- an operation changes its own temporary, and the deferred calls. -/
def Stepped (a : Act) (d : Option Tmp) (a' : Act) : Prop := ∃ (u : Value) (ds : List _), a' = ({ a with defers := ds } : Act).put d u
theorem wpOp_stepped {j : Nat} {oj : Oper} (hj : ops[j]? = some oj) {K : Act → World → Prop} {a : Act} {w : World} (h : wpOp P ops Q j K a w) : wpOp P ops Q j (fun a' w' => Stepped a oj.dst a' ∧ K a' w') a w := by
  unfold wpOp at *
  simp only [hj] at *
  have own : ∀ u, Stepped a oj.dst (a.put oj.dst u) := fun u => ⟨u, a.defers, rfl⟩
  split
  · rename_i hw
    rw [if_pos hw] at h
    refine h.imp (fun h => ?_) id
    unfold Oper.wp at *
    generalize (execOp a.eval oj).run P w = r at *
    rcases r with ⟨n, w'⟩ | ⟨x, w'⟩
    · cases n <;> simp only [Oper.upon] at h ⊢
      case value => exact ⟨own _, h⟩
      case skip => exact ⟨own _, h⟩
      case defer d => exact ⟨⟨_, _, rfl⟩, h⟩
      case enter => exact Calls.mono h fun e w'' he => by cases e <;> first | exact ⟨own _, he⟩ | exact he
      case row => exact Rows.mono h fun _ _ he => ⟨own _, he⟩
    · cases x <;> simp only [Oper.upon] at h ⊢ <;> exact h
  · rename_i hw
    rw [if_neg hw] at h
    exact ⟨own _, h⟩
theorem wpOp_behind {j : Nat} {oi oj : Oper} {v : Value} {b : Bool} (hj : ops[j]? = some oj) (hap : oi.apart ops oj = true) (hsi : ∀ cs b, oi.op ≠ .select cs b) (hsj : ∀ cs b, oj.op ≠ .select cs b)
    (hQ : ∀ c a w, Q (.panic c) (a.put oi.dst v) w → Q (.panic c) a w) {K : Act → World → Prop} {a : Act} {w : World}
    (hv : Region.wanted oi (yielded ops a.tmps) = true ∨ (Region.wanted oi (yielded ops a.tmps) = false ∧ v = undef)) (h : wpOp P ops Q j K (a.put oi.dst v) w) :
    wpOp P ops Q j (fun a' w' => (execOp a'.eval oi = execOp a.eval oi ∧ Region.wanted oi (yielded ops a'.tmps) = Region.wanted oi (yielded ops a.tmps)) ∧ K (a'.put oi.dst v) w') a w := by
  have hy : YieldsIf P ops (fun _ => False) oi v a := hv.imp (fun h => ⟨h, fun _ hf => hf.elim⟩) id
  obtain ⟨_, _, h3⟩ := Oper.apart_spec hap
  refine wpOp_mono (fun a' w' hh => ⟨?_, hh.2.2⟩) (wpOp_stepped hj (wpOp_putIf hj hap hsi hsj hQ hy h))
  obtain ⟨u, ds, rfl⟩ := hh.1
  exact ⟨execOp_put oi hsi _ oj.dst u h3, wanted_put oi _ oj.dst u h3⟩
theorem lat_step {i : Nat} {oi : Oper} {v : Value} (B : World → Act → Prop) (hi : ops[i]? = some oi) (hsel : ∀ (j : Nat) (o : Oper) cs b, ops[j]? = some o → o.op ≠ .select cs b)
    (hQ : ∀ c a w, Q (.panic c) (a.put oi.dst v) w → Q (.panic c) a w)
    (hon : ∀ w w' a, B w a → Lat w w' → B w' a) (hsame : ∀ w a a', B w a → execOp a'.eval oi = execOp a.eval oi → Region.wanted oi (yielded ops a'.tmps) = Region.wanted oi (yielded ops a.tmps) → B w a')
    (hwant : ∀ w a, B w a → Region.wanted oi (yielded ops a.tmps) = true ∨ (Region.wanted oi (yielded ops a.tmps) = false ∧ v = undef))
    (hrun : ∀ w a (K : Act → World → Prop), B w a → (∀ w', Lat w w' → K (a.put oi.dst v) w') → wpOp P ops Q i K a w) :
    ∀ (fuel : Nat) (listed : Array Bool) (a : Act) (w : World),
      (∀ j oj, ops[j]? = some oj → j ≠ i → listed.getD j true = false → (∀ e ∈ oj.after, Region.binds md e = true → e.on ≠ i) → oi.apart ops oj = true) →
      i ∈ Region.ready md ops listed → B w a →
      (∀ w', Lat w w' → wpLat P md ops Q fuel (listed.setIfInBounds i true) (a.put oi.dst v) w') → wpLat P md ops Q (fuel + 1) listed a w := by
  intro fuel
  induction fuel with
  | zero =>
    intro listed a w _ hr hB H
    refine ⟨fun h => (by rw [h] at hr; cases hr), fun j hj => ?_⟩
    by_cases hji : j = i
    · subst hji
      exact hrun w a _ hB fun w' hw => ⟨hw, fun w'' hw2 => H w'' (hw.trans hw2)⟩
    · have := ready_mono hj hji
      rw [(H w (Lat.refl w)).1] at this
      cases this
  | succ fuel ih =>
    intro listed a w hfree hr hB H
    refine ⟨fun h => (by rw [h] at hr; cases hr), fun j hj => ?_⟩
    by_cases hji : j = i
    · subst hji
      exact hrun w a _ hB fun w' hw => ⟨hw, fun w'' hw2 => H w'' (hw.trans hw2)⟩
    · have h1 := (H w (Lat.refl w)).2 j (ready_mono hj hji)
      obtain ⟨hjun, oj, hoj, hall⟩ := mem_ready.1 hj
      have hnot : ∀ e ∈ oj.after, Region.binds md e = true → e.on ≠ i := fun e he hb heq => by
        have h1 := hall e he hb
        have h0 := (mem_ready.1 hr).1
        rw [heq] at h1
        by_cases hlt : i < listed.size
        · simp [hlt] at h0 h1; rw [h0] at h1; cases h1
        · simp [Array.getElem?_eq_none (Nat.le_of_not_lt hlt)] at h1
      have h2 := wpOp_behind (b := true) hoj (hfree j oj hoj hji hjun hnot) (fun cs b => hsel i oi cs b hi) (fun cs b => hsel j oj cs b hoj) hQ (hwant w a hB) h1
      refine wpOp_mono (fun a' w' h3 => ⟨h3.2.1, fun w'' hw => ?_⟩) h2
      have hB' : B w'' a' := hon w w'' a' (hsame w a a' hB h3.1.1 h3.1.2) (h3.2.1.trans hw)
      refine ih (listed.setIfInBounds j true) a' w'' (fun k ok hk hki hun hno => hfree k ok hk hki ?_ hno) (ready_mono hr (Ne.symm hji)) hB' fun w3 hw3 => ?_
      · by_cases hjk : j = k
        · subst hjk; exact hjun
        · rw [getD_set_ne true hjk] at hun; exact hun
      · rw [Array.setIfInBounds_comm _ _ hji]
        exact h3.2.2 w3 (hw.trans hw3)
end
section
variable {P : Program} {l : List Oper} {Q : Exit → Act → World → Prop} {md : Region.Mode}
/-- from world w on, at whatever later world. -/
def latG (P : Program) (md : Region.Mode) (ops : Array Oper) (Q : Exit → Act → World → Prop) (fuel : Nat) (listed : Array Bool) (a : Act) (w : World) : Prop := ∀ w', Lat w w' → wpLat P md ops Q fuel listed a w'
theorem wp_region_lat {id : Nat} {a : Act} {w : World} (hm : P.follows .mixedOrders = true) (h : latG P .any l.toArray Q l.toArray.size (Array.replicate l.toArray.size false) a w) : (Code.region id l.toArray true).wp P Q a w :=
  wp_region_any hm (wpAny_of_lat _ _ _ _ (h w.drew (Below.refl _ _).drew))
/-- operation i is taken first. -/
theorem lat_now {fuel : Nat} {listed : Array Bool} {a : Act} {w : World} (i : Nat) {o : Oper} (ho : l[i]? = some o) (v : Value) (hok : okTake md l listed a.tmps i = true)
    (hQ : ∀ c a w, Q (.panic c) (a.put o.dst v) w → Q (.panic c) a w) (hy : ∀ wq, Lat w wq → (execOp a.eval o).run P wq = .ok (.value v) wq)
    (h : latG P md l.toArray Q fuel (listed.setIfInBounds i true) (a.put o.dst v) w) : latG P md l.toArray Q (fuel + 1) listed a w := by
  unfold okTake at hok
  rw [ho] at hok
  simp only [Bool.and_eq_true] at hok
  obtain ⟨⟨⟨h1, h2⟩, h3⟩, _, h4⟩ := hok
  intro w' hw
  exact lat_step (fun w a => Now P l.toArray w o v a) (by simpa using ho) (Region.noSelect_spec h1) hQ (fun _ _ _ h k => h.on k) (fun _ _ _ h e1 e2 => h.same e1 e2) (fun w a h => h.imp (·.1) id)
    (fun w a K h hK => Now.run (by simpa using ho) h (hK w (Lat.refl w))) fuel listed a w' (Region.free_spec (by simpa using ho) h2) (by simpa using h3) (.inl ⟨h4, fun wq hq => hy wq (hw.trans hq)⟩) fun w2 hw2 => h w2 (hw.trans hw2)
theorem lat_skip {fuel : Nat} {listed : Array Bool} {a : Act} {w : World} (i : Nat) {o : Oper} (ho : l[i]? = some o) (hok : okSkip md l listed a.tmps i = true)
    (hQ : ∀ c a w, Q (.panic c) (a.put o.dst undef) w → Q (.panic c) a w)
    (h : latG P md l.toArray Q fuel (listed.setIfInBounds i true) (a.put o.dst undef) w) : latG P md l.toArray Q (fuel + 1) listed a w := by
  unfold okSkip at hok
  rw [ho] at hok
  simp only [Bool.and_eq_true, Bool.not_eq_true'] at hok
  obtain ⟨⟨⟨h1, h2⟩, h3⟩, h4⟩ := hok
  intro w' hw
  exact lat_step (fun w a => Now P l.toArray w o undef a) (by simpa using ho) (Region.noSelect_spec h1) hQ (fun _ _ _ h k => h.on k) (fun _ _ _ h e1 e2 => h.same e1 e2) (fun w a h => h.imp (·.1) id)
    (fun w a K h hK => Now.run (by simpa using ho) h (hK w (Lat.refl w))) fuel listed a w' (Region.free_spec (by simpa using ho) h2) (by simpa using h3) (.inr ⟨h4, rfl⟩) fun w2 hw2 => h w2 (hw.trans hw2)
def okLate (md : Region.Mode) (l : List Oper) (listed : Array Bool) (tmps : Array Value) (i : Nat) : Bool :=
  Region.noSelect l.toArray && Region.free md l.toArray listed i && (Region.ready md l.toArray listed).contains i && (match l[i]? with
    | some o => Region.wanted o (yielded l.toArray tmps)
    | none => false)
/-- a call whose answer is the same whenever it comes up is taken first. -/
theorem lat_late {fuel : Nat} {listed : Array Bool} {a : Act} {w : World} (i : Nat) {o : Oper} (ho : l[i]? = some o) (v : Value) (hok : okLate md l listed a.tmps i = true)
    (hQ : ∀ c a w, Q (.panic c) (a.put o.dst v) w → Q (.panic c) a w)
    (hy : ∀ wq, Lat w wq → ∃ (f : FuncId) (args : Array Value), (execOp a.eval o).run P wq = .ok (.enter f args) wq ∧ Calls P f args wq fun e w'' => e = .returned v ∧ Lat wq w'')
    (h : latG P md l.toArray Q fuel (listed.setIfInBounds i true) (a.put o.dst v) w) : latG P md l.toArray Q (fuel + 1) listed a w := by
  unfold okLate at hok
  rw [ho] at hok
  simp only [Bool.and_eq_true] at hok
  obtain ⟨⟨⟨h1, h2⟩, h3⟩, h4⟩ := hok
  intro w' hw
  exact lat_step (fun w a => Late P l.toArray w o v a) (by simpa using ho) (Region.noSelect_spec h1) hQ (fun _ _ _ h k => h.on k) (fun _ _ _ h e1 e2 => h.same e1 e2) (fun w a h => .inl h.1)
    (fun w a K h hK => Late.run (by simpa using ho) h hK) fuel listed a w' (Region.free_spec (by simpa using ho) h2) (by simpa using h3) ⟨h4, fun wq hq => hy wq (hw.trans hq)⟩ fun w2 hw2 => h w2 (hw.trans hw2)
/-- operation i is the only one that may come up. -/
theorem lat_call {fuel : Nat} {listed : Array Bool} {a : Act} {w : World} (i : Nat) {o : Oper} (ho : l[i]? = some o) (hr : Region.ready md l.toArray listed = [i]) (hw : Region.wanted o (yielded l.toArray a.tmps) = true)
    (h : ∀ wq, Lat w wq → ∀ K : Act → World → Prop, Shut (∀ a w2, Lat wq w2 → latG P md l.toArray Q fuel (listed.setIfInBounds i true) a w2 → K a w2) → Oper.wp P o a wq K Q) : latG P md l.toArray Q (fuel + 1) listed a w := by
  intro w' hl
  refine ⟨fun h0 => (by rw [hr] at h0; cases h0), fun j hj => ?_⟩
  rw [hr] at hj
  obtain rfl : j = i := by simpa using hj
  have hi : l.toArray[j]? = some o := by simpa using ho
  unfold wpOp
  simp only [hi, hw, if_true]
  exact .inl (h w' hl _ fun a w2 h1 h2 => ⟨h1, h2⟩)
/-- two may come up. -/
theorem lat_two {fuel : Nat} {listed : Array Bool} {a : Act} {w : World} (i j : Nat) {oi oj : Oper} (hi : l[i]? = some oi) (hj : l[j]? = some oj) (hr : Region.ready md l.toArray listed = [i, j])
    (hwi : Region.wanted oi (yielded l.toArray a.tmps) = true) (hwj : Region.wanted oj (yielded l.toArray a.tmps) = true)
    (h1 : ∀ wq, Lat w wq → ∀ K : Act → World → Prop, Shut (∀ a w2, Lat wq w2 → latG P md l.toArray Q fuel (listed.setIfInBounds i true) a w2 → K a w2) → Oper.wp P oi a wq K Q)
    (h2 : ∀ wq, Lat w wq → ∀ K : Act → World → Prop, Shut (∀ a w2, Lat wq w2 → latG P md l.toArray Q fuel (listed.setIfInBounds j true) a w2 → K a w2) → Oper.wp P oj a wq K Q) : latG P md l.toArray Q (fuel + 1) listed a w := by
  intro w' hl
  have hi' : l.toArray[i]? = some oi := by simpa using hi
  have hj' : l.toArray[j]? = some oj := by simpa using hj
  refine ⟨fun h0 => (by rw [hr] at h0; cases h0), fun k hk => ?_⟩
  rw [hr] at hk
  rcases List.mem_cons.1 hk with rfl | hk
  · unfold wpOp
    simp only [hi', hwi, if_true]
    exact .inl (h1 w' hl _ fun a w2 h1 h2 => ⟨h1, h2⟩)
  · obtain rfl : k = j := by simpa using hk
    unfold wpOp
    simp only [hj', hwj, if_true]
    exact .inl (h2 w' hl _ fun a w2 h1 h2 => ⟨h1, h2⟩)
theorem lat_done {listed : Array Bool} {a : Act} {w : World} (hr : Region.ready md l.toArray listed = []) (h : ∀ w', Lat w w' → Q .normal a w') : ∀ fuel, latG P md l.toArray Q fuel listed a w
  | 0 => fun w' hw => ⟨hr, h w' hw⟩
  | _ + 1 => fun w' hw => ⟨fun _ => h w' hw, by rw [hr]; simp⟩
end
end Go.Proofs.Ytgdeecmhhbdjgaa
