/- flows: a table in plain terms. -/
import Derived.Test.YtejgekoinbdhjaaFlN
namespace Go.Proofs.Ytejgekoinbdhjaa
set_option linter.unusedVariables false
open Go Go.RowKit Go.Maps

def isF (f : Flo) (x : EnV) : Bool := decide (x.fl = f)
def keepF (f : Flo) (E : List EnV) : List EnV := E.filter fun x => !(isF f x)
/-- a flow goes somewhere: what goes for it, whether it does, what there is then. -/
def putN (ro : Int) (E : List EnV) (f : Flo) (b t : Int) : EnV × Bool × List EnV :=
  if E.any (isF f) = true then (ze, false, keepF f E ++ [⟨f, b, t⟩])
  else if (E.length : Int) < ro then (ze, false, E ++ [⟨f, b, t⟩]) else (E.headD ze, true, E.tail ++ [⟨f, b, t⟩])
def peekN (E : List EnV) (f : Flo) : EnV × Bool :=
  match E.find? (isF f) with
  | some x => (x, true)
  | none => (ze, false)
def getN (E : List EnV) (f : Flo) (t : Int) : Int × Bool × List EnV :=
  match E.find? (isF f) with
  | some x => (x.be, true, keepF f E ++ [{ x with la := t }])
  | none => (0, false, E)
/-- a table, n times put, that lies in blocks of which X is so. -/
def TabF (w : World) (X : Nat → Prop) (g : Nat) (ro idl now : Int) (n : Nat) (E : List EnV) : Prop :=
  ∃ m e ca we l dt bk nx, RingV w g m e ro idl now ca we l dt bk nx ∧ l.map dt = E ∧ (0 ≤ ca ∧ ca ≤ n) ∧ (0 ≤ we ∧ we ≤ n) ∧ (1 ≤ ro ∧ ro ≤ 1024) ∧ (1 ≤ idl ∧ idl ≤ 1000000) ∧ (0 ≤ now ∧ now ≤ 9223372036854775807) ∧ (E.length : Int) ≤ ro ∧ (∀ k, k = g ∨ k = m ∨ k ∈ e :: l → X k) ∧ ∀ k, X k → k < w.heap.size
section
variable {w w' : World} {X Y : Nat → Prop} {g : Nat} {ro idl now : Int} {n : Nat} {E : List EnV}
theorem TabF.chg (h : TabF w X g ro idl now n E) (hc : Chg w w' Y) (hd : ∀ k, X k → ¬ Y k) : TabF w' X g ro idl now n E := by
  obtain ⟨m, e, ca, we, l, dt, bk, nx, h1, h2, h3, h4, h5, h6, h7, h8, h9, h10⟩ := h
  exact ⟨m, e, ca, we, l, dt, bk, nx, h1.chg hc (hd _ (h9 _ (.inl rfl))) (hd _ (h9 _ (.inr (.inl rfl)))) (fun k hk => hd _ (h9 _ (.inr (.inr hk)))), h2, h3, h4, h5, h6, h7, h8, h9, fun k hk => Nat.lt_of_lt_of_le (h10 k hk) hc.size⟩
theorem TabF.fwd (h : TabF w X g ro idl now n E) (hb : Below w.heap.size w w') : TabF w' X g ro idl now n E := h.chg (Chg.of_below (X := fun _ => False) hb) fun _ _ q => q
theorem TabF.good (h : TabF w X g ro idl now n E) : (1 ≤ ro ∧ ro ≤ 1024) ∧ (1 ≤ idl ∧ idl ≤ 1000000) ∧ (0 ≤ now ∧ now ≤ 9223372036854775807) ∧ (E.length : Int) ≤ ro ∧ ∀ k, X k → k < w.heap.size := by
  obtain ⟨m, e, ca, we, l, dt, bk, nx, h1, h2, h3, h4, h5, h6, h7, h8, h9, h10⟩ := h
  exact ⟨h5, h6, h7, h8, h10⟩
end
section
variable {w : World} {g m e : Nat} {ro idl now ca we : Int} {l : List Nat} {dt : Nat → EnV} {bk nx : Nat → Nat}
theorem RingV.flows (h : RingV w g m e ro idl now ca we l dt bk nx) : (l.map fun k => (dt k).fl).Nodup := by
  obtain ⟨A, ha, hp⟩ := h.ent
  have hn2 : ((l.map (keyE dt)).map Prod.fst).Nodup := (hp.map Prod.fst).nodup_iff.1 ha.nodup
  rw [List.map_map] at hn2
  have key : ∀ l : List Nat, (l.map (Prod.fst ∘ keyE dt)).Nodup → (l.map fun k => (dt k).fl).Nodup := by
    intro l
    induction l with
    | nil => intro _; exact .nil
    | cons c l ih =>
      intro hn
      rw [List.map_cons, List.nodup_cons] at hn ⊢
      refine ⟨fun q => hn.1 ?_, ih hn.2⟩
      obtain ⟨b, hb, e1⟩ := List.mem_map.1 q
      exact List.mem_map.2 ⟨b, hb, show floV (dt b).fl = floV (dt c).fl by rw [e1]⟩
  exact key l hn2
end
theorem any_of {E : List EnV} {f : Flo} : E.any (isF f) = true ↔ ∃ x ∈ E, x.fl = f := by
  rw [List.any_eq_true]
  constructor
  · rintro ⟨x, h1, h2⟩; exact ⟨x, h1, of_decide_eq_true h2⟩
  · rintro ⟨x, h1, h2⟩; exact ⟨x, h1, decide_eq_true h2⟩
theorem isF_no {f : Flo} {x : EnV} (h : x.fl ≠ f) : isF f x = false := decide_eq_false h
theorem isF_yes {f : Flo} {x : EnV} (h : x.fl = f) : isF f x = true := decide_eq_true h
/-- an entry among others that are of other flows. -/
theorem mid_find {f : Flo} {p q : List EnV} {x : EnV} (hx : x.fl = f) (hp : ∀ y ∈ p, y.fl ≠ f) (hq : ∀ y ∈ q, y.fl ≠ f) :
    (p ++ x :: q).find? (isF f) = some x ∧ keepF f (p ++ x :: q) = p ++ q ∧ (p ++ x :: q).any (isF f) = true := by
  refine ⟨?_, ?_, any_of.2 ⟨x, by simp, hx⟩⟩
  · rw [List.find?_append, List.find?_eq_none.2 fun y hy => by rw [isF_no (hp y hy)]; simp, List.find?_cons, isF_yes hx]; rfl
  · have keep : ∀ l : List EnV, (∀ y ∈ l, y.fl ≠ f) → keepF f l = l := fun l h => by
      unfold keepF
      exact List.filter_eq_self.2 fun y hy => by rw [isF_no (h y hy)]; rfl
    unfold keepF
    rw [List.filter_append, List.filter_cons_of_neg (by rw [isF_yes hx]; simp)]
    have h1 := keep p hp
    have h2 := keep q hq
    unfold keepF at h1 h2
    rw [h1, h2]
theorem find_none {f : Flo} {E : List EnV} (h : ∀ y ∈ E, y.fl ≠ f) : E.find? (isF f) = none ∧ E.any (isF f) = false := by
  refine ⟨List.find?_eq_none.2 fun y hy => by rw [isF_no (h y hy)]; simp, ?_⟩
  rw [Bool.eq_false_iff]
  intro q
  obtain ⟨x, hx, e⟩ := any_of.1 q
  exact h x hx e
/-- either a flow is of no link, or of one. -/
theorem RingV.cases {w : World} {g m e : Nat} {ro idl now ca we : Int} {l : List Nat} {dt : Nat → EnV} {bk nx : Nat → Nat} (h : RingV w g m e ro idl now ca we l dt bk nx) (f : Flo) :
    (∀ k ∈ l, (dt k).fl ≠ f) ∨ ∃ p x q, l = p ++ x :: q ∧ (dt x).fl = f ∧ x ∉ p ∧ x ∉ q ∧ (∀ y ∈ p.map dt, y.fl ≠ f) ∧ ∀ y ∈ q.map dt, y.fl ≠ f := by
  by_cases hm : ∃ k ∈ l, (dt k).fl = f
  · obtain ⟨x, hx, hxf⟩ := hm
    obtain ⟨p, q, rfl⟩ := mem_split hx
    have hn := h.flows
    rw [List.map_append, List.map_cons, List.nodup_append, List.nodup_cons] at hn
    obtain ⟨n1, ⟨n2, n3⟩, n4⟩ := hn
    have hp : ∀ k ∈ p, (dt k).fl ≠ f := fun k hk e1 => n4 _ (List.mem_map.2 ⟨k, hk, rfl⟩) _ (by simp) (e1.trans hxf.symm)
    have hq : ∀ k ∈ q, (dt k).fl ≠ f := fun k hk e1 => n2 (List.mem_map.2 ⟨k, hk, e1.trans hxf.symm⟩)
    refine .inr ⟨p, x, q, rfl, hxf, fun e1 => hp x e1 hxf, fun e1 => hq x e1 hxf, fun y hy => ?_, fun y hy => ?_⟩
    · obtain ⟨k, hk, rfl⟩ := List.mem_map.1 hy; exact hp k hk
    · obtain ⟨k, hk, rfl⟩ := List.mem_map.1 hy; exact hq k hk
  · exact .inl fun k hk e1 => hm ⟨k, hk, e1⟩
theorem map_upd {l : List Nat} {x : Nat} (h : x ∉ l) (dt : Nat → EnV) (en : EnV) : l.map (upd dt x en) = l.map dt := List.map_congr_left fun k hk => upd_other _ _ fun e1 => h (e1 ▸ hk)
theorem newFX (w : World) (ro idl : Int) (h1 : 1 ≤ ro) (h2 : ro ≤ 1024) (h3 : 1 ≤ idl) (h4 : idl ≤ 1000000) :
    Calls Try.prog 39 #[.int .i64 ro, .int .i64 idl] w fun en w' => ∃ g X, en = .returned (.pointer (some ⟨g, 0, none⟩)) ∧ TabF w' X g ro idl 0 0 [] ∧ (∀ k, X k → w.heap.size ≤ k) ∧ Below w.heap.size w w' := by
  refine (newF_in w ro idl h1 h2 h3 h4).mono ?_
  rintro en w' ⟨g, m, e, rfl, hT, hg, hm, he, hB⟩
  have hlt := hT.lt
  refine ⟨g, fun k => k = g ∨ k = m ∨ k = e, rfl, ⟨m, e, 0, 0, [], _, _, _, hT, rfl, by simp, by simp, ⟨h1, h2⟩, ⟨h3, h4⟩, by simp, by simp; omega, fun k hk => ?_, fun k hk => ?_⟩, fun k hk => ?_, hB⟩
  · simpa using hk
  · rcases hk with rfl | rfl | rfl
    · exact hlt.1
    · exact hlt.2.1
    · exact hlt.2.2 _ (by simp)
  · rcases hk with rfl | rfl | rfl <;> assumption
theorem lenFX {w : World} {X : Nat → Prop} {g : Nat} {ro idl now : Int} {n : Nat} {E : List EnV} (h : TabF w X g ro idl now n E) : Calls Try.prog 47 #[.pointer (some ⟨g, 0, none⟩)] w fun en w' => en = .returned (.int .i64 E.length) ∧ w = w' := by
  obtain ⟨m, e, ca, we, l, dt, bk, nx, h1, h2, h3, h4, h5, h6, h7, h8, h9, h10⟩ := h
  refine (lenF_in h1).mono ?_
  rintro en w' ⟨rfl, rfl⟩
  exact ⟨by rw [← h2, List.length_map], rfl⟩
theorem peekFX {w : World} {X : Nat → Prop} {g : Nat} {ro idl now : Int} {n : Nat} {E : List EnV} (h : TabF w X g ro idl now n E) (f : Flo) (hf : FloOk f) : Calls Try.prog 43 #[.pointer (some ⟨g, 0, none⟩), .agg #[.int .i64 f.pr, .int .u32 f.src, .int .u32 f.dst, .int .i64 f.sp, .int .i64 f.dp]] w fun en w' => en = .returned (.tuple #[enA (peekN E f).1, .bool (peekN E f).2]) ∧ Below w.heap.size w w' := by
  obtain ⟨m, e, ca, we, l, dt, bk, nx, h1, h2, h3, h4, h5, h6, h7, h8, h9, h10⟩ := h
  rcases h1.cases f with hno | ⟨p, x, q, rfl, hx, hxp, hxq, hp, hq⟩
  · have e1 : peekN E f = (ze, false) := by
      unfold peekN
      rw [← h2, (find_none (f := f) (E := l.map dt) fun y hy => by obtain ⟨k, hk, rfl⟩ := List.mem_map.1 hy; exact hno k hk).1]
    rw [e1]
    exact peekF_miss h1 f hf hno
  · have e1 : peekN E f = (dt x, true) := by
      unfold peekN
      rw [← h2, List.map_append, List.map_cons, (mid_find hx hp hq).1]
    rw [e1]
    exact peekF_hit h1 f hf (by simp) hx
theorem allFX {w : World} {X : Nat → Prop} {g : Nat} {ro idl now : Int} {n : Nat} {E : List EnV} (h : TabF w X g ro idl now n E) : Calls Try.prog 48 #[.pointer (some ⟨g, 0, none⟩)] w fun en w' => ∃ v, en = .returned v ∧ Rows enK w' w.heap.size w.heap.size 62 v E ∧ Below w.heap.size w w' := by
  obtain ⟨m, e, ca, we, l, dt, bk, nx, h1, h2, h3, h4, h5, h6, h7, h8, h9, h10⟩ := h
  have hll : l.length = E.length := by rw [← h2, List.length_map]
  refine (allF_in h1 (by omega)).mono ?_
  rintro en w' ⟨v, rfl, hr, hb⟩
  rw [h2] at hr
  exact ⟨v, rfl, hr, hb⟩
theorem getFX {w : World} {X : Nat → Prop} {g : Nat} {ro idl now : Int} {n : Nat} {E : List EnV} (h : TabF w X g ro idl now n E) (f : Flo) (hf : FloOk f) (t : Int) (ht : t ≤ 9223372036854775807) : Calls Try.prog 42 #[.pointer (some ⟨g, 0, none⟩), .agg #[.int .i64 f.pr, .int .u32 f.src, .int .u32 f.dst, .int .i64 f.sp, .int .i64 f.dp], .int .i64 t] w fun en w' => en = .returned (.tuple #[.int .i64 (getN E f (max now t)).1, .bool (getN E f (max now t)).2.1]) ∧ TabF w' X g ro idl (max now t) n (getN E f (max now t)).2.2 ∧ Chg w w' X := by
  obtain ⟨m, e, ca, we, l, dt, bk, nx, h1, h2, h3, h4, h5, h6, h7, h8, h9, h10⟩ := h
  rcases h1.cases f with hno | ⟨p, x, q, rfl, hx, hxp, hxq, hp, hq⟩
  · have e1 : getN E f (max now t) = (0, false, E) := by
      unfold getN
      rw [← h2, (find_none (f := f) (E := l.map dt) fun y hy => by obtain ⟨k, hk, rfl⟩ := List.mem_map.1 hy; exact hno k hk).1]
    rw [e1]
    refine (getF_miss h1 f hf t hno).mono ?_
    rintro en w' ⟨rfl, h1', hC⟩
    exact ⟨rfl, ⟨m, e, ca, we, l, dt, bk, nx, h1', h2, h3, h4, h5, h6, by omega, h8, h9, fun k hk => Nat.lt_of_lt_of_le (h10 k hk) hC.size⟩, hC.mono fun i _ q1 => h9 i (.inl q1)⟩
  · have hmid := mid_find hx hp hq
    have e1 : getN E f (max now t) = ((dt x).be, true, p.map dt ++ q.map dt ++ [{ dt x with la := max now t }]) := by
      unfold getN
      rw [← h2, List.map_append, List.map_cons, hmid.1]
      simp only
      rw [hmid.2.1]
    rw [e1]
    refine (getF_hit h1 f hf t hx).mono ?_
    rintro en w' ⟨rfl, h1', hC⟩
    have hE : E.length = p.length + (q.length + 1) := by rw [← h2, List.length_map, List.length_append, List.length_cons]
    refine ⟨rfl, ⟨m, e, ca, we, _, _, _, _, h1', ?_, h3, h4, h5, h6, by omega, ?_, fun k hk => h9 k ?_, fun k hk => Nat.lt_of_lt_of_le (h10 k hk) hC.size⟩, hC.mono fun i _ q1 => h9 i (q1.elim .inl fun q2 => .inr (.inr q2))⟩
    · rw [List.map_append, List.map_append, map_upd hxp, map_upd hxq]
      simp [upd_same]
    · rw [List.length_append, List.length_append, List.length_map, List.length_map, List.length_singleton]; omega
    · rcases hk with q1 | q1 | q1
      · exact .inl q1
      · exact .inr (.inl q1)
      · refine .inr (.inr ?_)
        rcases List.mem_cons.1 q1 with q2 | q2
        · rw [q2]; simp
        · refine List.mem_cons_of_mem _ ?_
          simp at q2 ⊢
          rcases q2 with q2 | q2 | q2 <;> simp [q2]
theorem dropFX {w : World} {X : Nat → Prop} {g : Nat} {ro idl now : Int} {n : Nat} {E : List EnV} (h : TabF w X g ro idl now n E) (f : Flo) (hf : FloOk f) : Calls Try.prog 45 #[.pointer (some ⟨g, 0, none⟩), .agg #[.int .i64 f.pr, .int .u32 f.src, .int .u32 f.dst, .int .i64 f.sp, .int .i64 f.dp]] w fun en w' => en = .returned (.bool (E.any (isF f))) ∧ TabF w' X g ro idl now n (keepF f E) ∧ Chg w w' X := by
  obtain ⟨m, e, ca, we, l, dt, bk, nx, h1, h2, h3, h4, h5, h6, h7, h8, h9, h10⟩ := h
  rcases h1.cases f with hno | ⟨p, x, q, rfl, hx, hxp, hxq, hp, hq⟩
  · have hn : ∀ y ∈ E, y.fl ≠ f := fun y hy => by rw [← h2] at hy; obtain ⟨k, hk, rfl⟩ := List.mem_map.1 hy; exact hno k hk
    have e1 : keepF f E = E := List.filter_eq_self.2 fun y hy => by rw [isF_no (hn y hy)]; rfl
    rw [e1, (find_none hn).2]
    refine (dropF_miss h1 f hf hno).mono ?_
    rintro en w' ⟨rfl, hb⟩
    exact ⟨rfl, ⟨m, e, ca, we, l, dt, bk, nx, h1.fwd hb, h2, h3, h4, h5, h6, h7, h8, h9, fun k hk => Nat.lt_of_lt_of_le (h10 k hk) hb.size⟩, Chg.of_below hb⟩
  · have hmid := mid_find hx hp hq
    rw [← h2, List.map_append, List.map_cons, hmid.2.1, hmid.2.2]
    refine (dropF_hit h1 f hf hx).mono ?_
    rintro en w' ⟨rfl, h1', hC⟩
    have hE : E.length = p.length + (q.length + 1) := by rw [← h2, List.length_map, List.length_append, List.length_cons]
    refine ⟨rfl, ⟨m, e, ca, we, _, _, _, _, h1', by rw [List.map_append], h3, h4, h5, h6, h7, by rw [List.length_append, List.length_map, List.length_map]; omega, fun k hk => h9 k ?_, fun k hk => Nat.lt_of_lt_of_le (h10 k hk) hC.size⟩, hC.mono fun i _ q1 => h9 i (.inr q1)⟩
    rcases hk with q1 | q1 | q1
    · exact .inl q1
    · exact .inr (.inl q1)
    · refine .inr (.inr ?_)
      rcases List.mem_cons.1 q1 with q2 | q2
      · rw [q2]; simp
      · refine List.mem_cons_of_mem _ ?_
        simp at q2 ⊢
        rcases q2 with q2 | q2 <;> simp [q2]
theorem foot_filter {X : Nat → Prop} {g m e : Nat} {l : List Nat} (h9 : ∀ k, k = g ∨ k = m ∨ k ∈ e :: l → X k) (so : Nat → Bool) : ∀ k, k = g ∨ k = m ∨ k ∈ e :: l.filter so → X k := fun k hk => h9 k (by
  rcases hk with q1 | q1 | q1
  · exact .inl q1
  · exact .inr (.inl q1)
  · refine .inr (.inr ?_)
    rcases List.mem_cons.1 q1 with q2 | q2
    · rw [q2]; simp
    · exact List.mem_cons_of_mem _ (List.mem_filter.1 q2).1)
theorem map_filter_dt (l : List Nat) (dt : Nat → EnV) (so : EnV → Bool) : (l.filter fun k => so (dt k)).map dt = (l.map dt).filter so := by
  rw [List.filter_map]; rfl
theorem purgeFX {w : World} {X : Nat → Prop} {g : Nat} {ro idl now : Int} {n : Nat} {E : List EnV} (h : TabF w X g ro idl now n E) (z : Int) : Calls Try.prog 46 #[.pointer (some ⟨g, 0, none⟩), .int .i64 z] w fun en w' => en = .returned (.int .i64 (E.filter (soB z)).length) ∧ TabF w' X g ro idl now n (E.filter fun x => !(soB z x)) ∧ Chg w w' X := by
  obtain ⟨m, e, ca, we, l, dt, bk, nx, h1, h2, h3, h4, h5, h6, h7, h8, h9, h10⟩ := h
  have hll : l.length = E.length := by rw [← h2, List.length_map]
  refine (purgeF_in h1 z (by omega)).mono ?_
  rintro en w' ⟨bk', nx', rfl, h1', hC⟩
  have e1 := map_filter_dt l dt (soB z)
  have e2 := map_filter_dt l dt (fun x => !(soB z x))
  rw [h2] at e1 e2
  refine ⟨by rw [← e1, List.length_map], ⟨m, e, ca, we, _, _, _, _, h1', e2, h3, h4, h5, h6, h7, ?_, foot_filter h9 _, fun k hk => Nat.lt_of_lt_of_le (h10 k hk) hC.size⟩, hC.mono fun i _ q1 => h9 i (.inr q1)⟩
  have := List.length_filter_le (fun x => !(soB z x)) E
  omega
theorem expireFX {w : World} {X : Nat → Prop} {g : Nat} {ro idl now : Int} {n : Nat} {E : List EnV} (h : TabF w X g ro idl now n E) (t : Int) (ht : t ≤ 9223372036854775807) : Calls Try.prog 41 #[.pointer (some ⟨g, 0, none⟩), .int .i64 t] w fun en w' => ∃ v, en = .returned v ∧ Rows enK w' w.heap.size w.heap.size 62 v (E.filter (soE (max now t) idl)) ∧ TabF w' X g ro idl (max now t) n (E.filter fun x => !(soE (max now t) idl x)) ∧ Chg w w' X := by
  obtain ⟨m, e, ca, we, l, dt, bk, nx, h1, h2, h3, h4, h5, h6, h7, h8, h9, h10⟩ := h
  have hll : l.length = E.length := by rw [← h2, List.length_map]
  refine (expireF_in h1 t (by omega) h7.1 (by omega) (by omega)).mono ?_
  rintro en w' ⟨v, bk', nx', rfl, h1', hr, hC⟩
  have e1 := map_filter_dt l dt (soE (max now t) idl)
  have e2 := map_filter_dt l dt (fun x => !(soE (max now t) idl x))
  rw [h2] at e1 e2
  rw [e1] at hr
  refine ⟨v, rfl, hr, ⟨m, e, ca, we, _, _, _, _, h1', e2, h3, h4, h5, h6, by omega, ?_, foot_filter h9 _, fun k hk => Nat.lt_of_lt_of_le (h10 k hk) hC.size⟩, hC.mono fun i _ q1 => h9 i q1⟩
  have := List.length_filter_le (fun x => !(soE (max now t) idl x)) E
  omega
theorem putFX {w : World} {X : Nat → Prop} {g : Nat} {ro idl now : Int} {n : Nat} {E : List EnV} (h : TabF w X g ro idl now n E) (f : Flo) (hf : FloOk f) (b t : Int) (ht : t ≤ 9223372036854775807) (hn : n ≤ 1000000) : Calls Try.prog 40 #[.pointer (some ⟨g, 0, none⟩), .agg #[.int .i64 f.pr, .int .u32 f.src, .int .u32 f.dst, .int .i64 f.sp, .int .i64 f.dp], .int .i64 b, .int .i64 t] w fun en w' => en = .returned (.tuple #[enA (putN ro E f b (max now t)).1, .bool (putN ro E f b (max now t)).2.1]) ∧ TabF w' (fun k => X k ∨ (w.heap.size ≤ k ∧ k < w'.heap.size)) g ro idl (max now t) (n + 1) (putN ro E f b (max now t)).2.2 ∧ Chg w w' X := by
  obtain ⟨m, e, ca, we, l, dt, bk, nx, h1, h2, h3, h4, h5, h6, h7, h8, h9, h10⟩ := h
  have hll : l.length = E.length := by rw [← h2, List.length_map]
  rcases h1.cases f with hno | ⟨p, x, q, rfl, hx, hxp, hxq, hp, hq⟩
  · have hnE : ∀ y ∈ E, y.fl ≠ f := fun y hy => by rw [← h2] at hy; obtain ⟨k, hk, rfl⟩ := List.mem_map.1 hy; exact hno k hk
    refine (putF_miss h1 f hf b t hno h5.1 (by omega) (by omega)).mono ?_
    rintro en w' ⟨gv, md, l', we', kb, bk', nx', rfl, hsp, hkb, h1', hC⟩
    have hz := hC.size
    have hlt := h1'.lt
    have hspE : putN ro E f b (max now t) = (gv, md, l'.map dt ++ [⟨f, b, max now t⟩]) ∧ (∀ k ∈ l', k ∈ l) ∧ ((l'.length : Int) + 1 ≤ ro) ∧ (0 ≤ we' ∧ we' ≤ (n + 1 : Nat)) := by
      unfold putN
      rw [if_neg (by rw [(find_none hnE).2]; simp)]
      rcases hsp with ⟨q1, rfl, rfl, rfl, rfl⟩ | ⟨q1, x, rfl, rfl, rfl, rfl⟩
      · rw [if_pos (by omega), h2]
        exact ⟨rfl, fun k hk => hk, by omega, by omega⟩
      · rw [if_neg (by omega), ← h2]
        refine ⟨rfl, fun k hk => List.mem_cons_of_mem _ hk, ?_, by omega⟩
        rw [List.length_cons] at hll
        omega
    obtain ⟨hspE, hsub, hlen, hwe⟩ := hspE
    rw [hspE]
    have hkb2 : kb ∉ l' := by
      have := h1'.nd
      rw [List.nodup_cons, List.nodup_append] at this
      exact fun q1 => this.2.2.2 kb q1 kb (by simp) rfl
    refine ⟨rfl, ⟨m, e, ca + 1, we', _, _, _, _, h1', ?_, by omega, hwe, h5, h6, by omega, ?_, fun k hk => ?_, fun k hk => ?_⟩, hC.mono fun i _ q1 => h9 i q1⟩
    · rw [List.map_append, map_upd hkb2]; simp [upd_same]
    · rw [List.length_append, List.length_map, List.length_singleton]; omega
    · rcases hk with q1 | q1 | q1
      · exact .inl (h9 k (.inl q1))
      · exact .inl (h9 k (.inr (.inl q1)))
      · rcases List.mem_cons.1 q1 with q2 | q2
        · exact .inl (h9 k (.inr (.inr (by rw [q2]; simp))))
        · rcases List.mem_append.1 q2 with q2 | q2
          · exact .inl (h9 k (.inr (.inr (List.mem_cons_of_mem _ (hsub k q2)))))
          · have : k = kb := by simpa using q2
            exact .inr ⟨by omega, hlt.2.2 k q1⟩
    · rcases hk with q1 | q1
      · exact Nat.lt_of_lt_of_le (h10 k q1) hz
      · exact q1.2
  · have hmid := mid_find hx hp hq
    have e1 : putN ro E f b (max now t) = (ze, false, p.map dt ++ q.map dt ++ [⟨f, b, max now t⟩]) := by
      unfold putN
      rw [← h2, List.map_append, List.map_cons, if_pos hmid.2.2, hmid.2.1]
    rw [e1]
    refine (putF_hit h1 f hf b t hx).mono ?_
    rintro en w' ⟨rfl, h1', hC⟩
    have hE : E.length = p.length + (q.length + 1) := by rw [← h2, List.length_map, List.length_append, List.length_cons]
    refine ⟨rfl, ⟨m, e, ca, we, _, _, _, _, h1', ?_, by omega, by omega, h5, h6, by omega, ?_, fun k hk => .inl (h9 k ?_), fun k hk => ?_⟩, hC.mono fun i _ q1 => h9 i (q1.elim .inl fun q2 => .inr (.inr q2))⟩
    · rw [List.map_append, List.map_append, map_upd hxp, map_upd hxq]
      simp [upd_same]
    · rw [List.length_append, List.length_append, List.length_map, List.length_map, List.length_singleton]; omega
    · rcases hk with q1 | q1 | q1
      · exact .inl q1
      · exact .inr (.inl q1)
      · refine .inr (.inr ?_)
        rcases List.mem_cons.1 q1 with q2 | q2
        · rw [q2]; simp
        · refine List.mem_cons_of_mem _ ?_
          simp at q2 ⊢
          rcases q2 with q2 | q2 | q2 <;> simp [q2]
    · rcases hk with q1 | q1
      · exact Nat.lt_of_lt_of_le (h10 k q1) hC.size
      · exact q1.2
end Go.Proofs.Ytejgekoinbdhjaa
