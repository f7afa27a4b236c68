/- A map with int keys in plain terms: what it holds at each number. -/
import Derived.Test.YtejgekoinbdhjaaChg
namespace Go.Proofs.Ytejgekoinbdhjaa
set_option linter.unusedVariables false
open Go Go.RowKit Go.Maps Go.MapKept Go.ChangeMaps

theorem ikey : Keyed Try.prog 3 := int_keyed Try.underlying3
def IdIn (id : Int) : Prop := -9223372036854775808 ≤ id ∧ id ≤ 9223372036854775807
theorem ilit {z : Int} (h : IdIn z) : keyOf Try.prog 3 (.int .i64 z) = some (.int .i64 z) :=
  keyOf_int_mk Try.underlying3 (by simp only [Lit.wf, Bool.and_eq_true, decide_eq_true_eq]; exact h)
def entF {V : Type} (enc : V → Value) (p : Int × V) : Value × Value := (.int .i64 p.1, enc p.2)
def FMap {V : Type} (enc : V → Value) (w : World) (b : Nat) (f : Int → Option V) : Prop :=
  ∃ l : List (Int × V), Ent Try.prog 3 w b (l.map (entF enc)) ∧ (∀ p ∈ l, IdIn p.1) ∧ ∀ id v, (id, v) ∈ l ↔ f id = some v
def upd {V : Type} (f : Int → Option V) (id : Int) (o : Option V) : Int → Option V := fun j => if j = id then o else f j
section
variable {V : Type} {enc : V → Value} {w w' : World} {b : Nat} {f : Int → Option V} {T E : TypeId} {id : Int} {v : V}
theorem FMap.lt (h : FMap enc w b f) : b < w.heap.size := by obtain ⟨l, h1, _⟩ := h; exact h1.lt
theorem FMap.keep (h : FMap enc w b f) (hk : w'.heap[b]? = w.heap[b]?) : FMap enc w' b f := by obtain ⟨l, h1, h2⟩ := h; exact ⟨l, h1.keep hk, h2⟩
theorem FMap.nx (h : FMap enc w b f) (hb : Below w.heap.size w w') : FMap enc w' b f := h.keep (hb.block b h.lt)
theorem FMap.chg {X : Nat → Prop} (h : FMap enc w b f) (hc : Chg w w' X) (hg : ¬ X b) : FMap enc w' b f := h.keep (hc.block b h.lt hg)
theorem FMap.inj {g' : Int → Option V} (hinj : ∀ u v, enc u = enc v → u = v) (h : FMap enc w b f) (h' : FMap enc w b g') : f = g' := by
  obtain ⟨l, ⟨es, c, e1, _, _, e2⟩, _, h3⟩ := h
  obtain ⟨l', ⟨es', c', e1', _, _, e2'⟩, _, h3'⟩ := h'
  rw [e1] at e1'
  have e3 := Option.some.inj e1'
  injection e3 with e3 _
  subst e3
  rw [e2] at e2'
  have hl : l = l' := by
    refine List.map_inj_right (f := entF enc) ?_ |>.1 e2'
    intro p q e
    have q1 := congrArg Prod.fst e
    have q2 := hinj _ _ (congrArg Prod.snd e)
    simp only [entF, Value.int.injEq, true_and] at q1
    exact Prod.ext q1 q2
  subst hl
  funext id
  cases hg : g' id with
  | none =>
    cases hf : f id with
    | none => rfl
    | some v => rw [(h3' id v).1 ((h3 id v).2 hf)] at hg; cases hg
  | some v => exact (h3 id v).1 ((h3' id v).2 hg)
theorem FMap.made (w : World) : FMap enc (w.alloc (.map #[] 0)) w.heap.size (fun _ => none) := ⟨[], Ent.made w, by simp, by simp⟩
theorem entF_keys (l : List (Int × V)) : (l.map (entF enc)).map Prod.fst = (l.map Prod.fst).map (Value.int .i64) := by
  rw [List.map_map, List.map_map]; rfl
theorem ent_distinct {l : List (Int × V)} (h : Ent Try.prog 3 w b (l.map (entF enc))) : l.Pairwise fun p q => p.1 ≠ q.1 := by
  have h1 := h.nodup
  rw [entF_keys, List.map_map] at h1
  exact (List.pairwise_map.1 h1).imp fun hne e => hne (by simp [e])
theorem key_out {l : List (Int × V)} (h : ∀ u, (id, u) ∉ l) : (Value.int .i64 id) ∉ (l.map (entF enc)).map Prod.fst := by
  rw [entF_keys]
  intro hm
  obtain ⟨z, hz, e⟩ := List.mem_map.1 hm
  simp only [Value.int.injEq, true_and] at e
  subst e
  obtain ⟨p, hp, rfl⟩ := List.mem_map.1 hz
  exact h p.2 hp
theorem FMap.hit (h : FMap enc w b f) (ht : Try.prog.underlying T = some (.map 3 E)) (hid : IdIn id) (hf : f id = some v) (c : Bool) :
    (Instr.lookup T (.map (some b)) (.int .i64 id) c).run Try.prog w = .ok (if c then .tuple #[enc v, .bool true] else enc v) w := by
  obtain ⟨l, h1, h2, h3⟩ := h
  exact h1.hit ikey ht (ilit hid) (List.mem_map.2 ⟨(id, v), (h3 id v).2 hf, rfl⟩) c
theorem FMap.miss (h : FMap enc w b f) (ht : Try.prog.underlying T = some (.map 3 E)) {z : Value} (hz : ∀ w, (zeroValue E).run Try.prog w = .ok z w) (hid : IdIn id) (hf : f id = none) (c : Bool) :
    (Instr.lookup T (.map (some b)) (.int .i64 id) c).run Try.prog w = .ok (if c then .tuple #[z, .bool false] else z) w := by
  obtain ⟨l, h1, h2, h3⟩ := h
  exact h1.miss ikey ht (hz w) (ilit hid) (key_out fun u hu => by rw [(h3 id u).1 hu] at hf; cases hf) c
theorem FMap.hit1 (h : FMap enc w b f) (ht : Try.prog.underlying T = some (.map 3 E)) (hid : IdIn id) (hf : f id = some v) : (Instr.lookup T (.map (some b)) (.int .i64 id) true).run Try.prog w = .ok (.tuple #[enc v, .bool true]) w := h.hit ht hid hf true
theorem FMap.hit0 (h : FMap enc w b f) (ht : Try.prog.underlying T = some (.map 3 E)) (hid : IdIn id) (hf : f id = some v) : (Instr.lookup T (.map (some b)) (.int .i64 id) false).run Try.prog w = .ok (enc v) w := h.hit ht hid hf false
theorem FMap.miss1 (h : FMap enc w b f) (ht : Try.prog.underlying T = some (.map 3 E)) {z : Value} (hz : ∀ w, (zeroValue E).run Try.prog w = .ok z w) (hid : IdIn id) (hf : f id = none) : (Instr.lookup T (.map (some b)) (.int .i64 id) true).run Try.prog w = .ok (.tuple #[z, .bool false]) w := h.miss ht hz hid hf true
theorem FMap.miss0 (h : FMap enc w b f) (ht : Try.prog.underlying T = some (.map 3 E)) {z : Value} (hz : ∀ w, (zeroValue E).run Try.prog w = .ok z w) (hid : IdIn id) (hf : f id = none) : (Instr.lookup T (.map (some b)) (.int .i64 id) false).run Try.prog w = .ok z w := h.miss ht hz hid hf false
theorem pair_key {l : List (Int × V)} (h : l.Pairwise fun p q => p.1 ≠ q.1) {i j : Nat} {p q : Int × V} (hi : l[i]? = some p) (hj : l[j]? = some q) (e : p.1 = q.1) : i = j := by
  obtain ⟨h1, rfl⟩ := List.getElem?_eq_some_iff.1 hi
  obtain ⟨h2, rfl⟩ := List.getElem?_eq_some_iff.1 hj
  rw [List.pairwise_iff_getElem] at h
  rcases Nat.lt_trichotomy i j with q | q | q
  · exact absurd e (h i j h1 h2 q)
  · exact q
  · exact absurd e.symm (h j i h2 h1 q)
theorem FMap.put (h : FMap enc w b f) (ht : Try.prog.underlying T = some (.map 3 E)) (hid : IdIn id) (v : V) :
    ∃ w', (Instr.mapUpdate T (.map (some b)) (.int .i64 id) (enc v)).run Try.prog w = .ok () w' ∧ FMap enc w' b (upd f id (some v)) ∧ w.grownBy w' (some b) := by
  obtain ⟨l, h1, h2, h3⟩ := h
  cases hf : f id with
  | none =>
    obtain ⟨w', r1, r2, r3⟩ := h1.put_new ikey ht (ilit hid) (key_out fun u hu => by rw [(h3 id u).1 hu] at hf; cases hf) (enc v)
    refine ⟨w', r1, ⟨l ++ [(id, v)], by rw [List.map_append]; exact r2, fun p hp => ?_, fun j u => ?_⟩, r3⟩
    · rcases List.mem_append.1 hp with hp | hp
      · exact h2 p hp
      · rw [List.mem_singleton] at hp; subst hp; exact hid
    · rw [List.mem_append, h3, List.mem_singleton, Prod.mk.injEq]
      unfold upd
      by_cases e : j = id
      · subst e; rw [if_pos rfl, hf]; simp [eq_comm]
      · rw [if_neg e]; simp [e]
  | some v0 =>
    obtain ⟨i, hi⟩ := List.getElem?_of_mem ((h3 id v0).2 hf)
    have hpw := ent_distinct h1
    obtain ⟨w', r1, r2, r3⟩ := h1.put_old ikey ht (ilit hid) (j := i) (v0 := enc v0) (by rw [List.getElem?_map, hi]; rfl) (enc v)
    have hil := (List.getElem?_eq_some_iff.1 hi).1
    refine ⟨w', r1, ⟨l.set i (id, v), by rw [List.map_set]; exact r2, fun p hp => ?_, fun j u => ?_⟩, r3⟩
    · rcases List.mem_or_eq_of_mem_set hp with hp | rfl
      · exact h2 p hp
      · exact hid
    · unfold upd
      constructor
      · intro hm
        obtain ⟨k, hk⟩ := List.getElem?_of_mem hm
        by_cases hki : k = i
        · subst hki
          rw [List.getElem?_set_self hil] at hk
          have e0 := Option.some.inj hk
          have e1 : id = j := congrArg Prod.fst e0
          have e2 : v = u := congrArg Prod.snd e0
          rw [if_pos e1.symm, e2]
        · rw [List.getElem?_set_ne (fun e => hki e.symm)] at hk
          have hne : j ≠ id := fun e => hki (pair_key hpw hk hi e)
          rw [if_neg hne]
          exact (h3 j u).1 (List.mem_of_getElem? hk)
      · intro hm
        by_cases e : j = id
        · rw [if_pos e] at hm
          have e2 : v = u := Option.some.inj hm
          rw [e, ← e2]
          exact List.mem_of_getElem? (List.getElem?_set_self hil)
        · rw [if_neg e] at hm
          obtain ⟨k, hk⟩ := List.getElem?_of_mem ((h3 j u).2 hm)
          have hki : i ≠ k := fun q => by subst q; rw [hi] at hk; injection hk with hk; injection hk with q1 q2; exact e q1.symm
          exact List.mem_of_getElem? (by rw [List.getElem?_set_ne hki]; exact hk)
theorem FMap.del (h : FMap enc w b f) (ht : Try.prog.underlying T = some (.map 3 E)) (hid : IdIn id) (ty : TypeId) :
    ∃ w', (Builtin.delete_ #[T, 3] ty #[.map (some b), .int .i64 id]).run Try.prog w = .ok (.tuple #[]) w' ∧ FMap enc w' b (upd f id none) ∧ w.grownBy w' (some b) := by
  obtain ⟨l, h1, h2, h3⟩ := h
  cases hf : f id with
  | none =>
    obtain ⟨w', r1, r2, r3⟩ := h1.del_miss ikey ht (ilit hid) (key_out fun u hu => by rw [(h3 id u).1 hu] at hf; cases hf) ty
    refine ⟨w', r1, ⟨l, r2, h2, fun j u => ?_⟩, r3⟩
    rw [h3]
    unfold upd
    by_cases e : j = id
    · subst e; rw [if_pos rfl, hf]
    · rw [if_neg e]
  | some v0 =>
    obtain ⟨i, hi⟩ := List.getElem?_of_mem ((h3 id v0).2 hf)
    have hpw := ent_distinct h1
    obtain ⟨w', r1, r2, r3⟩ := h1.del_hit ikey ht (ilit hid) (j := i) (v0 := enc v0) (by rw [List.getElem?_map, hi]; rfl) ty
    refine ⟨w', r1, ⟨l.eraseIdx i, by rw [map_eraseIdx']; exact r2, fun p hp => h2 p (List.mem_of_mem_eraseIdx hp), fun j u => ?_⟩, r3⟩
    unfold upd
    constructor
    · intro hm
      obtain ⟨k, hk⟩ := List.getElem?_of_mem hm
      rw [List.getElem?_eraseIdx] at hk
      have hne : j ≠ id := fun e => by
        split at hk
        · exact absurd (pair_key hpw hk hi e) (by omega)
        · exact absurd (pair_key hpw hk hi e) (by omega)
      rw [if_neg hne]
      exact (h3 j u).1 (List.mem_of_mem_eraseIdx hm)
    · intro hm
      by_cases e : j = id
      · rw [if_pos e] at hm; cases hm
      · rw [if_neg e] at hm
        obtain ⟨k, hk⟩ := List.getElem?_of_mem ((h3 j u).2 hm)
        have hki : k ≠ i := fun q => by subst q; rw [hi] at hk; injection hk with hk; injection hk with q1 q2; exact e q1.symm
        rcases Nat.lt_or_gt_of_ne hki with q | q
        · exact List.mem_of_getElem? (i := k) (by rw [List.getElem?_eraseIdx, if_pos q]; exact hk)
        · exact List.mem_of_getElem? (i := k - 1) (by rw [List.getElem?_eraseIdx, if_neg (by omega), show k - 1 + 1 = k by omega]; exact hk)
/-- the keys, if these are known. -/
theorem FMap.ids (h : FMap enc w b f) {ks : List Int} (hn : ks.Nodup) (hk : ∀ id, id ∈ ks ↔ (f id).isSome = true) : ∃ l : List (Int × V), Ent Try.prog 3 w b (l.map (entF enc)) ∧ (l.map Prod.fst).Perm ks := by
  obtain ⟨l, h1, h2, h3⟩ := h
  refine ⟨l, h1, ?_⟩
  have hpw := ent_distinct h1
  rw [List.perm_ext_iff_of_nodup (List.pairwise_map.2 hpw) hn]
  intro id
  rw [hk, List.mem_map]
  constructor
  · rintro ⟨p, hp, rfl⟩
    rw [(h3 p.1 p.2).1 hp]; rfl
  · intro hs
    obtain ⟨u, hu⟩ := Option.isSome_iff_exists.1 hs
    exact ⟨(id, u), (h3 id u).2 hu, rfl⟩
theorem FMap.len (h : FMap enc w b f) (ht : Try.prog.underlying T = some (.map 3 E)) {ks : List Int} (hn : ks.Nodup) (hk : ∀ id, id ∈ ks ↔ (f id).isSome = true) (ty : TypeId) :
    (Builtin.len_ #[T] ty #[.map (some b)]).run Try.prog w = .ok (.int .i64 ks.length) w := by
  obtain ⟨l, h1, h2⟩ := h.ids hn hk
  have := h1.len ht ty
  rw [List.length_map, ← List.length_map (f := Prod.fst), h2.length_eq] at this
  exact this
end
section
variable {V : Type} {enc : V → Value} {w : World} {b : Nat} {f : Int → Option V} {T E : TypeId} {id : Int} {v : V} {o : Oper} {a : Act} {KQ : Act → World → Prop} {Q : Exit → Act → World → Prop} {ops : Array Oper} {rest : List Oper}
theorem wp_fput (h : FMap enc w b f) (ht : Try.prog.underlying T = some (.map 3 E)) (hid : IdIn id) (m x y : Operand) (ho : o.op = .mapUpdate T m x y) (hm : a.eval m = .map (some b)) (hx : a.eval x = .int .i64 id) (hv : a.eval y = enc v)
    (hK : ∀ w', FMap enc w' b (upd f id (some v)) → w.grownBy w' (some b) → KQ (a.put o.dst undef) w') : o.wp Try.prog a w KQ Q := by
  obtain ⟨w', hrun, r1, r2⟩ := h.put ht hid v
  unfold Oper.wp
  simp [execOp, ho, hm, hx, hv, hrun, Result.andThen]
  exact hK w' r1 r2
theorem wpList_fput (hgd : o.guard = none) (h : FMap enc w b f) (ht : Try.prog.underlying T = some (.map 3 E)) (hid : IdIn id) (m x y : Operand) (ho : o.op = .mapUpdate T m x y) (hm : a.eval m = .map (some b)) (hx : a.eval x = .int .i64 id) (hv : a.eval y = enc v)
    (hK : ∀ w', FMap enc w' b (upd f id (some v)) → w.grownBy w' (some b) → wpList Try.prog ops Q rest (a.put o.dst undef) w') : wpList Try.prog ops Q (o :: rest) a w :=
  wpList_plain hgd fun _ hK' => wp_fput h ht hid m x y ho hm hx hv fun w' h1 h2 => hK' _ _ (hK w' h1 h2)
theorem wp_fdel (h : FMap enc w b f) (ht : Try.prog.underlying T = some (.map 3 E)) (hid : IdIn id) (m x : Operand) (ho : o.op = Op.call { callee := Callee.builtin Builtin.delete, args := #[m, x], argTypes := #[T, 3] }) (hm : a.eval m = .map (some b)) (hx : a.eval x = .int .i64 id)
    (hK : ∀ w', FMap enc w' b (upd f id none) → w.grownBy w' (some b) → KQ (a.put o.dst (.tuple #[])) w') : o.wp Try.prog a w KQ Q := by
  obtain ⟨w', hrun, r1, r2⟩ := h.del ht hid o.type
  unfold Oper.wp
  simp [execOp, ho, resolve, invoke, builtin, hm, hx, hrun, Result.andThen]
  exact hK w' r1 r2
theorem wpList_fdel (hgd : o.guard = none) (h : FMap enc w b f) (ht : Try.prog.underlying T = some (.map 3 E)) (hid : IdIn id) (m x : Operand) (ho : o.op = Op.call { callee := Callee.builtin Builtin.delete, args := #[m, x], argTypes := #[T, 3] }) (hm : a.eval m = .map (some b)) (hx : a.eval x = .int .i64 id)
    (hK : ∀ w', FMap enc w' b (upd f id none) → w.grownBy w' (some b) → wpList Try.prog ops Q rest (a.put o.dst (.tuple #[])) w') : wpList Try.prog ops Q (o :: rest) a w :=
  wpList_plain hgd fun _ hK' => wp_fdel h ht hid m x ho hm hx fun w' h1 h2 => hK' _ _ (hK w' h1 h2)
end
end Go.Proofs.Ytejgekoinbdhjaa
