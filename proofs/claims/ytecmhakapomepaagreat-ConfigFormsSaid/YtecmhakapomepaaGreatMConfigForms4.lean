import Derived.Test.YtecmhakapomepaaGreatRows
import Derived.Test.YtecmhakapomepaaGreatMConfigForms1
import Derived.Test.YtecmhakapomepaaGreatMConfigForms2
/- damp: Decay, Good, New, made. -/
namespace Go.Proofs.YtecmhakapomepaaGreat.dm
set_option maxRecDepth 100000
set_option linter.unusedVariables false
open Go.RowKit

/-- what is left of a penalty behind a tick. -/
def decay (p h : Int) : Int := if p < 1 ∨ h < 1 then 0 else p - p / h / 2 - 1

/-- may a rule be? -/
def goodR (F S R C H : Int) : Bool := decide (1 ≤ F ∧ F ≤ 100000 ∧ 1 ≤ S ∧ S ≤ 1000000 ∧ 0 ≤ R ∧ R < S ∧ S ≤ C ∧ C ≤ 1000000 ∧ 1 ≤ H ∧ H ≤ 10000)

set_option maxHeartbeats 400000 in
theorem in_yes (n lo hi : Int) (w : World) (h1 : lo ≤ n) (h2 : n ≤ hi) :
    Calls Tryz.prog 81 #[.int .i64 n, .int .i64 lo, .int .i64 hi] w fun e w' => e = .returned (.bool true) ∧ w = w' := by
  go_enter Tryz.func81, Tryz.ntmps81
  go_wp2
  go_ret
  exact ⟨rfl, rfl⟩
set_option maxHeartbeats 400000 in
theorem in_no (n lo hi : Int) (w : World) (h : n < lo ∨ hi < n) :
    Calls Tryz.prog 81 #[.int .i64 n, .int .i64 lo, .int .i64 hi] w fun e w' => e = .returned (.bool false) ∧ w = w' := by
  by_cases c : n < lo
  · clear h
    go_enter Tryz.func81, Tryz.ntmps81
    go_wp2
    go_ret
    exact ⟨rfl, rfl⟩
  · have c2 : hi < n := by omega
    clear h
    go_enter Tryz.func81, Tryz.ntmps81
    go_wp2
    go_ret
    exact ⟨ret_bool (by simp; omega), rfl⟩

set_option maxHeartbeats 400000 in
theorem good_yes (F S R C H : Int) (w : World) (h : goodR F S R C H = true) :
    Calls Tryz.prog 53 #[.agg #[.int .i64 F, .int .i64 S, .int .i64 R, .int .i64 C, .int .i64 H]] w fun e w' => e = .returned (.bool true) ∧ Below w.heap.size w w' := by
  obtain ⟨h1, h2, h3, h4, h5, h6, h7, h8, h9, h10⟩ := of_decide_eq_true h
  clear h
  go_enter Tryz.func53, Tryz.ntmps53
  go_wp2_with (go_at_call 81; refine (in_yes _ _ _ _ (by omega) (by omega)).mono ?_; rintro e w' ⟨rfl, rfl⟩)
  go_ret
  exact ⟨rfl, (Below.refl _ _).alloc (Nat.le_refl _) _⟩
set_option maxHeartbeats 1000000 in
theorem good_no (F S R C H : Int) (w : World) (h : goodR F S R C H = false) :
    Calls Tryz.prog 53 #[.agg #[.int .i64 F, .int .i64 S, .int .i64 R, .int .i64 C, .int .i64 H]] w fun e w' => e = .returned (.bool false) ∧ Below w.heap.size w w' := by
  have h' := of_decide_eq_false h
  clear h
  by_cases c1 : 1 ≤ F ∧ F ≤ 100000
  · by_cases c2 : 1 ≤ S ∧ S ≤ 1000000
    · by_cases c3 : 0 ≤ R ∧ R ≤ S - 1
      · by_cases c4 : S ≤ C ∧ C ≤ 1000000
        · have c5 : H < 1 ∨ 10000 < H := by omega
          have C5 := Lib.hid c5
          clear h' c5
          obtain ⟨a1, a2⟩ := c1
          obtain ⟨b1, b2⟩ := c2
          obtain ⟨d1, d2⟩ := c3
          obtain ⟨e1, e2⟩ := c4
          go_enter Tryz.func53, Tryz.ntmps53
          go_wp2_with (first
            | (go_at_call 81; refine (in_yes _ _ _ _ (by omega) (by omega)).mono ?_; rintro e w' ⟨rfl, rfl⟩)
            | (go_at_call 81; refine (in_no _ _ _ _ C5.out).mono ?_; rintro e w' ⟨rfl, rfl⟩))
          go_ret
          exact ⟨rfl, (Below.refl _ _).alloc (Nat.le_refl _) _⟩
        · have c5 : C < S ∨ 1000000 < C := by omega
          have C5 := Lib.hid c5
          clear h' c5 c4
          obtain ⟨a1, a2⟩ := c1
          obtain ⟨b1, b2⟩ := c2
          obtain ⟨d1, d2⟩ := c3
          go_enter Tryz.func53, Tryz.ntmps53
          go_wp2_with (first
            | (go_at_call 81; refine (in_yes _ _ _ _ (by omega) (by omega)).mono ?_; rintro e w' ⟨rfl, rfl⟩)
            | (go_at_call 81; refine (in_no _ _ _ _ C5.out).mono ?_; rintro e w' ⟨rfl, rfl⟩))
          go_ret
          exact ⟨rfl, (Below.refl _ _).alloc (Nat.le_refl _) _⟩
      · have c5 : R < 0 ∨ S - 1 < R := by omega
        have C5 := Lib.hid c5
        clear h' c5 c3
        obtain ⟨a1, a2⟩ := c1
        obtain ⟨b1, b2⟩ := c2
        go_enter Tryz.func53, Tryz.ntmps53
        go_wp2_with (first
          | (go_at_call 81; refine (in_yes _ _ _ _ (by omega) (by omega)).mono ?_; rintro e w' ⟨rfl, rfl⟩)
          | (go_at_call 81; refine (in_no _ _ _ _ C5.out).mono ?_; rintro e w' ⟨rfl, rfl⟩))
        go_ret
        exact ⟨rfl, (Below.refl _ _).alloc (Nat.le_refl _) _⟩
    · have c5 : S < 1 ∨ 1000000 < S := by omega
      have C5 := Lib.hid c5
      clear h' c5 c2
      obtain ⟨a1, a2⟩ := c1
      go_enter Tryz.func53, Tryz.ntmps53
      go_wp2_with (first
        | (go_at_call 81; refine (in_yes _ _ _ _ (by omega) (by omega)).mono ?_; rintro e w' ⟨rfl, rfl⟩)
        | (go_at_call 81; refine (in_no _ _ _ _ C5.out).mono ?_; rintro e w' ⟨rfl, rfl⟩))
      go_ret
      exact ⟨rfl, (Below.refl _ _).alloc (Nat.le_refl _) _⟩
  · have c5 : F < 1 ∨ 100000 < F := by omega
    have C5 := Lib.hid c5
    clear h' c5 c1
    go_enter Tryz.func53, Tryz.ntmps53
    go_wp2_with (go_at_call 81; refine (in_no _ _ _ _ C5.out).mono ?_; rintro e w' ⟨rfl, rfl⟩)
    go_ret
    exact ⟨rfl, (Below.refl _ _).alloc (Nat.le_refl _) _⟩

/-- a damp's cells. -/
def dampCs (F S R C H p : Int) (h : Bool) : Array Value := #[.int .i64 F, .int .i64 S, .int .i64 R, .int .i64 C, .int .i64 H, .int .i64 p, .bool h]

end Go.Proofs.YtecmhakapomepaaGreat.dm

/- damp: rising, falling, to, and the methods. -/
namespace Go.Proofs.YtecmhakapomepaaGreat.dm
set_option maxRecDepth 100000
set_option linter.unusedVariables false
open Go.RowKit

def lowest (p C : Int) : Int := if p ≤ C then p else C
end Go.Proofs.YtecmhakapomepaaGreat.dm

/- Drawn regions whose last operations (from e on) write what the others read: the condition S is asked behind the operations ahead of e alone. -/
namespace Go.Proofs.YtecmhakapomepaaGreat
set_option linter.unusedVariables false
open Go

section
variable {P : Program} {ops : Array Oper} {Q : Exit → Act → World → Prop} {md : Region.Mode} {S : World → Prop} {e : Nat}
def wpAnyF (P : Program) (md : Region.Mode) (ops : Array Oper) (Q : Exit → Act → World → Prop) (S : World → Prop) (e : Nat) : Nat → Array Bool → Act → World → Prop
  | 0, listed, a, w => Region.ready md ops listed = [] ∧ Q .normal a w
  | fuel + 1, listed, a, w =>
    (Region.ready md ops listed = [] → Q .normal a w) ∧
    ∀ i ∈ Region.ready md ops listed, wpOp P ops Q i (fun a' w' => (e ≤ i ∨ S w') ∧ wpAnyF P md ops Q S e fuel (listed.setIfInBounds i true) a' w') a w
theorem wpAny_of_F : ∀ (fuel : Nat) (listed : Array Bool) (a : Act) (w : World), wpAnyF P md ops Q S e fuel listed a w → wpAny P md ops Q fuel listed a w
  | 0, _, _, _, h => h
  | fuel + 1, _, _, _, h => ⟨h.1, fun i hi => wpOp_mono (fun a' w' h' => wpAny_of_F fuel _ a' w' h'.2) (h.2 i hi)⟩
theorem wpAnyF_first {i : Nat} {oi : Oper} {v : Value} (hi : ops[i]? = some oi) (hC : ∀ listed, i ∈ Region.ready md ops listed → ∀ j, j ∈ Region.ready md ops listed → j ≠ i → j < e) (hsel : ∀ (j : Nat) (o : Oper) cs b, ops[j]? = some o → o.op ≠ .select cs b)
    (hQ : ∀ c a w, Q (.panic c) (a.put oi.dst v) w → Q (.panic c) a w) :
    ∀ (fuel : Nat) (listed : Array Bool) (a : Act) (w : World),
      (∀ j oj, ops[j]? = some oj → j ≠ i → listed.getD j true = false → (∀ e ∈ oj.after, Region.binds md e = true → e.on ≠ i) → oi.apart ops oj = true) →
      i ∈ Region.ready md ops listed → YieldsIf P ops S oi v a → S w →
      wpAnyF P md ops Q S e fuel (listed.setIfInBounds i true) (a.put oi.dst v) w → wpAnyF P md ops Q S e (fuel + 1) listed a w := by
  intro fuel
  induction fuel with
  | zero =>
    intro listed a w _ hr hy hS H
    refine ⟨fun h => (by rw [h] at hr; cases hr), fun j hj => ?_⟩
    by_cases hji : j = i
    · subst hji; exact hy.wpOp hi hS ⟨.inr hS, H⟩
    · have := ready_mono hj hji
      rw [H.1] at this
      cases this
  | succ fuel ih =>
    intro listed a w hfree hr hy hS H
    refine ⟨fun h => (by rw [h] at hr; cases hr), fun j hj => ?_⟩
    by_cases hji : j = i
    · subst hji; exact hy.wpOp hi hS ⟨.inr hS, H⟩
    · have h1 := H.2 j (ready_mono hj hji)
      obtain ⟨hjun, oj, hoj, hall⟩ := mem_ready.1 hj
      have hnot : ∀ e ∈ oj.after, Region.binds md e = true → e.on ≠ i := fun e he hb heq => by
        have h1 := hall e he hb
        have h0 := (mem_ready.1 hr).1
        rw [heq] at h1
        rcases Nat.lt_or_ge i listed.size with h' | h'
        · simp [h'] at h0 h1; rw [h0] at h1; cases h1
        · simp [Array.getElem?_eq_none h'] at h1
      have hje := hC listed hr j hj hji
      have h2 := wpOp_putIf hoj (hfree j oj hoj hji hjun hnot) (fun cs b => hsel i oi cs b hi) (fun cs b => hsel j oj cs b hoj) hQ hy h1
      have hfree' : ∀ k ok, ops[k]? = some ok → k ≠ i → (listed.setIfInBounds j true).getD k true = false →
          (∀ e ∈ ok.after, Region.binds md e = true → e.on ≠ i) → oi.apart ops ok = true := fun k ok hk hki hun hno => by
        refine hfree k ok hk hki ?_ hno
        by_cases hjk : j = k
        · subst hjk; exact hjun
        · rw [getD_set_ne true hjk] at hun; exact hun
      refine wpOp_mono (fun a' w' h3 => ?_) h2
      have hSw := h3.2.1.resolve_left (by omega)
      refine ⟨.inr hSw, ih (listed.setIfInBounds j true) a' w' hfree' (ready_mono hr (Ne.symm hji)) h3.1 hSw ?_⟩
      rw [Array.setIfInBounds_comm _ _ hji]
      exact h3.2.2
end
section
variable {P : Program} {l : List Oper} {Q : Exit → Act → World → Prop} {md : Region.Mode} {S : World → Prop} {e : Nat}
def okAll (md : Region.Mode) (l : List Oper) (e i : Nat) : Bool := (List.range l.length).all fun k => decide (k < e) || k == i || okEdge md l k i
theorem okAll_spec {i : Nat} (h : okAll md l e i = true) : ∀ listed, i ∈ Region.ready md l.toArray listed → ∀ j, j ∈ Region.ready md l.toArray listed → j ≠ i → j < e := by
  intro listed hi j hj hji
  obtain ⟨_, oj, hoj, _⟩ := mem_ready.1 hj
  have hjl : j < l.length := by
    have := (Array.getElem?_eq_some_iff.1 hoj).1
    simpa using this
  have h1 := List.all_eq_true.1 h j (List.mem_range.2 hjl)
  simp only [Bool.or_eq_true, decide_eq_true_eq, beq_iff_eq] at h1
  rcases h1 with (h1 | h1) | h1
  · exact h1
  · exact absurd h1 hji
  · exact absurd hj (okEdge_spec h1 (mem_ready.1 hi).1)
theorem wp_region_F {id : Nat} {a : Act} {w : World} (e : Nat) (hm : P.follows .mixedOrders = true) (hS : S w.drew)
    (h : S w.drew → wpAnyF P .any l.toArray Q S e l.toArray.size (Array.replicate l.toArray.size false) a w.drew) : (Code.region id l.toArray true).wp P Q a w :=
  wp_region_any hm (wpAny_of_F _ _ _ _ (h hS))
theorem f_takeA {fuel : Nat} {listed : Array Bool} {a : Act} {w : World} (i : Nat) {o : Oper} (ho : l[i]? = some o) (v : Value) (hok : (okTake md l listed a.tmps i && okAll md l e i) = true)
    (hQ : ∀ c a w, Q (.panic c) (a.put o.dst v) w → Q (.panic c) a w) (hS : S w) (hy : ∀ w, S w → (execOp a.eval o).run P w = .ok (.value v) w)
    (h : wpAnyF P md l.toArray Q S e fuel (listed.setIfInBounds i true) (a.put o.dst v) w) : wpAnyF P md l.toArray Q S e (fuel + 1) listed a w := by
  rw [Bool.and_eq_true] at hok
  obtain ⟨hok, hed⟩ := hok
  unfold okTake at hok
  rw [ho] at hok
  simp only [Bool.and_eq_true] at hok
  obtain ⟨⟨⟨h1, h2⟩, h3⟩, _, h4⟩ := hok
  exact wpAnyF_first (by simpa using ho) (okAll_spec hed) (Region.noSelect_spec h1) hQ fuel listed a w (Region.free_spec (by simpa using ho) h2) (by simpa using h3) (.inl ⟨h4, hy⟩) hS h
theorem f_callA {fuel : Nat} {listed : Array Bool} {a : Act} {w : World} (i : Nat) {o : Oper} (ho : l[i]? = some o) (hr : Region.ready md l.toArray listed = [i])
    (hw : Region.wanted o (yielded l.toArray a.tmps) = true)
    (h : ∀ K : Act → World → Prop, Shut (∀ a w, S w → wpAnyF P md l.toArray Q S e fuel (listed.setIfInBounds i true) a w → K a w) → Oper.wp P o a w K Q) : wpAnyF P md l.toArray Q S e (fuel + 1) listed a w := by
  refine ⟨fun h0 => (by rw [hr] at h0; cases h0), fun j hj => ?_⟩
  rw [hr] at hj
  obtain rfl : j = i := by simpa using hj
  have hi : l.toArray[j]? = some o := by simpa using ho
  unfold wpOp
  simp only [hi, hw, if_true]
  exact .inl (h _ fun a w h1 h2 => ⟨.inr h1, h2⟩)
/-- one of the last ones. -/
theorem f_last {fuel : Nat} {listed : Array Bool} {a : Act} {w : World} (i : Nat) {o : Oper} (ho : l[i]? = some o) (hei : (decide (e ≤ i)) = true) (hr : Region.ready md l.toArray listed = [i])
    (hw : Region.wanted o (yielded l.toArray a.tmps) = true)
    (h : ∀ K : Act → World → Prop, Shut (∀ a w, wpAnyF P md l.toArray Q S e fuel (listed.setIfInBounds i true) a w → K a w) → Oper.wp P o a w K Q) : wpAnyF P md l.toArray Q S e (fuel + 1) listed a w := by
  refine ⟨fun h0 => (by rw [hr] at h0; cases h0), fun j hj => ?_⟩
  rw [hr] at hj
  obtain rfl : j = i := by simpa using hj
  have hi : l.toArray[j]? = some o := by simpa using ho
  unfold wpOp
  simp only [hi, hw, if_true]
  exact .inl (h _ fun a w h2 => ⟨.inl (of_decide_eq_true hei), h2⟩)
theorem f_done {listed : Array Bool} {a : Act} {w : World} (hr : Region.ready md l.toArray listed = []) (h : Q .normal a w) : ∀ fuel, wpAnyF P md l.toArray Q S e fuel listed a w
  | 0 => ⟨hr, h⟩
  | _ + 1 => ⟨fun _ => h, by rw [hr]; simp⟩
end
end Go.Proofs.YtecmhakapomepaaGreat
