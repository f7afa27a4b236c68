/- timer: Arm. -/
import Derived.Test.YtejgekoinbdhjaaTiI
namespace Go.Proofs.Ytejgekoinbdhjaa
set_option linter.unusedVariables false
open Go Go.RowKit Go.Maps

theorem grown_cellO {w w' : World} {row : Option Nat} (h : w.grownBy w' row) {b o : Nat} (hb : b < w.heap.size) (hne : row ≠ some b) : w'.cell? ⟨b, o, none⟩ = w.cell? ⟨b, o, none⟩ := by
  unfold World.cell?
  rw [h.block b hb (fun e => hne e.symm)]
section
variable {α : Type} {R : RK α} {w w' : World} {S S' : Nat → Prop} {lo base n : Nat} {A : Option Addr} {et : TypeId} {v : Value} {l : List α}
variable {P : Program} {st : TypeId} {bytes : Nat} {z : Value} {o : Oper} {a : Act} {Q : Exit → Act → World → Prop} {KQ : Act → World → Prop}
/-- 'append(v, x...)': x reads as the elements m. -/
theorem wp_rowsO (E : ElemOk P st et R.size bytes z) (s x : Operand)
    (ho : o.op = .call { callee := .builtin .append, args := #[s, x], argTypes := #[st, st] }) (h : Rows R w lo base et v l) (hs : a.eval s = v) {X : Option Addr} {k c : Nat} {m : List α} (hx : a.eval x = .slice X k c) (hm : Seen R w S X k m)
    (hok : ∀ e ∈ m, R.ok w (fun b => lo ≤ b ∧ b < w.heap.size ∧ v.ownBlock ≠ some b) e) (h63 : l.length + k ≤ maxLen) (hbytes : (l.length + k) * bytes ≤ 140737488355328) (hbase : base ≤ w.heap.size)
    (hK : ∀ v' w', Rows R w' lo base et v' (l ++ m) → w.grownBy w' v.ownBlock → (v'.ownBlock = v.ownBlock ∨ v'.ownBlock = some w.heap.size) → KQ (a.put o.dst v') w') : o.wp P a w KQ Q := by
  have hml := hm.1
  refine wp_app1 w E s x ho base v l.length (l.flatMap R.cel) hs h.1 X k c (m.flatMap R.cel) hx (by rw [flat_len, hml]) (fun hk => ?_) ?_ h63 hbytes hbase ?_
  · obtain ⟨b, off, e, _, hc⟩ := hm.2.2 hk
    refine ⟨b, off, e, fun j hj => ?_⟩
    have hdiv : j / R.size < m.length := by rw [hml]; exact Nat.div_lt_of_lt_mul (by rw [Nat.mul_comm]; exact hj)
    have hmod : j % R.size < R.size := Nat.mod_lt _ R.pos
    have e1 : j / R.size * R.size + j % R.size = j := Nat.div_add_mod' j R.size
    have h1 := hc (j / R.size) _ (List.getElem?_eq_getElem hdiv) (j % R.size) hmod
    have h2 := flat_get R m (j / R.size) (j % R.size) _ (List.getElem?_eq_getElem hdiv) hmod
    rw [e1] at h1 h2
    rw [h1, h2]
  · intro u hu
    obtain ⟨a, _, hu⟩ := List.mem_flatMap.1 hu
    exact R.one a u hu
  · intro v' w' h1 h2 h3
    refine hK v' w' ⟨?_, ?_⟩ h2 h3
    · rw [List.flatMap_append, List.length_append, hml]; exact h1
    · intro e he
      have hold : R.ok w (fun b => lo ≤ b ∧ b < w.heap.size ∧ v.ownBlock ≠ some b) e := by
        rcases List.mem_append.1 he with he | he
        · exact h.2 e he
        · exact hok e he
      refine R.more (R.keep hold fun p hp => ?_) fun b q => ⟨q.1, Nat.lt_of_lt_of_le q.2.1 h2.size, ?_⟩
      · unfold World.cell?
        rw [h2.block p.block hp.2.1 (fun e => hp.2.2 e.symm)]
      · rcases h3 with e | e
        · rw [e]; exact q.2.2
        · rw [e]; intro e2; injection e2 with e2; have := q.2.1; omega
end
theorem own_ne_blk {w : World} {base size n g : Nat} {et T : TypeId} {v : Value} {xs : List Value} {cs : Array Value} (h : Own1 w base et size v n xs) (hb : Blk w g T cs) (hne : et ≠ T) : v.ownBlock ≠ some g := by
  intro e
  obtain ⟨_, h2 | ⟨r, cap, cur, q, _, hh, _⟩⟩ := h
  · rw [h2.1] at e; cases e
  · rw [q] at e
    injection e with e
    have e : r = g := e
    unfold Blk at hb
    rw [e, hb] at hh
    injection hh with hh
    injection hh with _ hh
    exact hne hh.symm
theorem own_ne_ent {P : Program} {K : TypeId} {w : World} {base size n b : Nat} {et : TypeId} {v : Value} {xs : List Value} {l : List (Value × Value)} (h : Own1 w base et size v n xs) (hb : Ent P K w b l) : v.ownBlock ≠ some b := by
  intro e
  obtain ⟨_, h2 | ⟨r, cap, cur, q, _, hh, _⟩⟩ := h
  · rw [h2.1] at e; cases e
  · rw [q] at e
    injection e with e
    have e : r = b := e
    obtain ⟨es, c, hx, _⟩ := hb
    rw [e, hx] at hh
    cases hh
theorem Chg.of_grownO {w w' : World} {X : Nat → Prop} {row : Option Nat} (h : w.grownBy w' row) (hr : ∀ k, row = some k → X k) : Chg w w' X :=
  ⟨h.os, h.tape, h.output, h.size, fun k hk hx => h.block k hk fun e => hx (hr k e.symm)⟩
theorem alarm2 : (Try.prog.info? 196).map (·.size) = some 2 := by kernel_rfl
/-- a store into the map turns the entries A into A2. -/
def PutT (b : Nat) (id ex od : Int) (A A2 : List Slo) : Prop :=
  ∀ w : World, Ent Try.prog 3 w b (A.map sloE) → ∃ w', (Instr.mapUpdate 98 (.map (some b)) (.int .i64 id) (.agg #[.int .i64 ex, .int .i64 od])).run Try.prog w = .ok () w' ∧ Ent Try.prog 3 w' b (A2.map sloE) ∧ w.grownBy w' (some b)
theorem putT_new (b : Nat) (id ex od : Int) (A : List Slo) (hid : 0 ≤ id ∧ id ≤ 100000) (hnew : ∀ a ∈ A, a.id ≠ id) : PutT b id ex od A (A ++ [⟨id, ex, od⟩]) := fun w h => by
  obtain ⟨w', h1, h2, h3⟩ := h.put_new tkey tmap_und (tlit id (by omega) (by omega)) (no_idT hnew) (.agg #[.int .i64 ex, .int .i64 od])
  exact ⟨w', h1, by rw [List.map_append]; exact h2, h3⟩
theorem putT_old (b : Nat) (id ex od : Int) (A : List Slo) (hid : 0 ≤ id ∧ id ≤ 100000) {j : Nat} {a : Slo} (hj : A[j]? = some a) (ha : a.id = id) : PutT b id ex od A (A.set j ⟨id, ex, od⟩) := fun w h => by
  have hjE : (A.map sloE)[j]? = some (.int .i64 id, .agg #[.int .i64 a.ex, .int .i64 a.od]) := by rw [List.getElem?_map, hj, ← ha]; rfl
  obtain ⟨w', h1, h2, h3⟩ := h.put_old tkey tmap_und (tlit id (by omega) (by omega)) hjE (.agg #[.int .i64 ex, .int .i64 od])
  exact ⟨w', h1, by rw [List.map_set]; exact h2, h3⟩
theorem wp_put_run {w : World} {o : Oper} {a : Act} {Q : Exit → Act → World → Prop} {KQ : Act → World → Prop} {b : Nat} {id ex od : Int} {A A2 : List Slo} (hp : PutT b id ex od A A2) (h : Ent Try.prog 3 w b (A.map sloE)) (m x v : Operand) (ho : o.op = .mapUpdate 98 m x v) (hm : a.eval m = .map (some b)) (hx : a.eval x = .int .i64 id) (hv : a.eval v = .agg #[.int .i64 ex, .int .i64 od])
    (hK : ∀ w', Ent Try.prog 3 w' b (A2.map sloE) → w.grownBy w' (some b) → KQ (a.put o.dst undef) w') : o.wp Try.prog a w KQ Q := by
  obtain ⟨w', hrun, r1, r2⟩ := hp w h
  unfold Oper.wp
  simp [execOp, ho, hm, hx, hv, hrun, Result.andThen]
  exact hK w' r1 r2
set_option maxRecDepth 100000 in
set_option maxHeartbeats 4000000 in
theorem arm_any (w : World) (g b : Nat) (mo no co : Int) (v : Value) (A H : List Slo) (id n : Int) (h : TabV w g b mo no co v A H) (h0 : 0 ≤ id) (h1 : id < mo) (h2 : 1 ≤ n) (hmo : mo ≤ 1024) (hco : 0 ≤ co ∧ co ≤ 1000000) (hroom : (H.length : Int) + 1 ≤ 4 * mo + 64) (A2 : List Slo) (hput : PutT b id (addT no n) (co + 1) A A2) :
    Calls Try.prog 54 #[.pointer (some ⟨g, 0, none⟩), .int .i64 id, .int .i64 n] w fun e w' => ∃ v', e = .returned (.int .i64 0) ∧ TabV w' g b mo no (co + 1) v' A2 (upL H.length (H ++ [⟨id, addT no n, co + 1⟩]) H.length) ∧ Chg w w' (fun k => k = g ∨ k = b ∨ v.ownBlock = some k) ∧ ∀ i, i < w.heap.size → v'.ownBlock = some i → i = g ∨ i = b ∨ v.ownBlock = some i := by
  have c0 : w.cell? ⟨g, 0, none⟩ = some (.int .i64 mo) := h.blk.cellv 0 rfl
  have c2 : w.cell? ⟨g, 2, none⟩ = some (.int .i64 co) := h.blk.cellv 2 rfl
  have f2 := h.blk.frozen 2
  have ltg := h.ltg
  have kw : IntKind.i64.wrap (co + 1) = co + 1 := IntWalk.i64_in _ (by omega)
  have d1 : decide (id < 0) = false := by simp; omega
  have d2 : decide (mo ≤ id) = false := by simp; omega
  have d3 : decide (n < 1) = false := by simp; omega
  obtain ⟨hb1, hg1⟩ := blk_store h.blk 2 (.int .i64 (co + 1))
  replace hb1 := Lib.hid hb1
  replace hg1 := Lib.hid hg1
  go_enter Try.func54, Try.ntmps54
  go_upto_region 7 with (go_at_call 134; refine (madeT_in h).mono ?_; rintro e w' ⟨rfl, rfl⟩)
  go_upto_region 8 with (fail)
  have hT1 : TabV (w.setCell ⟨g, 2, none⟩ (.int .i64 (co + 1))) g b mo no (co + 1) v A H :=
    ⟨hb1.out, h.ent.grown hg1.out (fun e => h.ne (by injection e with e; exact e.symm)), ⟨h.row.1.kept hg1.out (by
      by_cases hv : v.ownBlock = none
      · exact .inl hv
      · exact .inr h.ng), fun _ _ => trivial⟩, h.ng, h.nb⟩
  have hC1 : Chg w (w.setCell ⟨g, 2, none⟩ (.int .i64 (co + 1))) (fun k => k = g ∨ k = b ∨ v.ownBlock = some k) := Chg.of_grown hg1.out (.inl rfl)
  have hz1 : w.heap.size ≤ (w.setCell ⟨g, 2, none⟩ (.int .i64 (co + 1))).heap.size := hg1.out.size
  clear hb1 hg1 c0 c2 f2 ltg h
  generalize w.setCell ⟨g, 2, none⟩ (.int .i64 (co + 1)) = w1 at *
  have c1 : w1.cell? ⟨g, 1, none⟩ = some (.int .i64 no) := hT1.blk.cellv 1 rfl
  have c2 : w1.cell? ⟨g, 2, none⟩ = some (.int .i64 (co + 1)) := hT1.blk.cellv 2 rfl
  have ltg := hT1.ltg
  -- region 8: 0 1 2 3 4 5C 6 7 8 9 10 11M 12M
  try refine wp_region_noPanic ?_
  have hs1r : Below w1.heap.size w1 w1.drew := (Below.refl _ _).drew
  refine wp_region_held_drew (S := fun w' => Below w1.heap.size w1 w') (by kernel_rfl) hs1r (fun _ => ?_)
  (refine held_takeA 0 (by rfl) ?_ (by kernel_rfl) (fun _ _ _ h => h) hs1r ?_ ?_; rotate_left; (focus (intro wq hSw; have hrd : ∀ b o, b < w1.heap.size → wq.cell? ⟨b, o, none⟩ = w1.cell? ⟨b, o, none⟩ := (fun b o h => hSw.cell (p := ⟨b, o, none⟩) h); go_simp; try with_reducible rfl; done)); try simp only [Act.put, List.setIfInBounds_toArray, List.set_cons_zero, List.set_cons_succ])
  (refine held_takeA 1 (by rfl) ?_ (by kernel_rfl) (fun _ _ _ h => h) hs1r ?_ ?_; rotate_left; (focus (intro wq hSw; have hrd : ∀ b o, b < w1.heap.size → wq.cell? ⟨b, o, none⟩ = w1.cell? ⟨b, o, none⟩ := (fun b o h => hSw.cell (p := ⟨b, o, none⟩) h); go_simp; try with_reducible rfl; done)); try simp only [Act.put, List.setIfInBounds_toArray, List.set_cons_zero, List.set_cons_succ])
  (refine held_takeA 2 (by rfl) ?_ (by kernel_rfl) (fun _ _ _ h => h) hs1r ?_ ?_; rotate_left; (focus (intro wq hSw; have hrd : ∀ b o, b < w1.heap.size → wq.cell? ⟨b, o, none⟩ = w1.cell? ⟨b, o, none⟩ := (fun b o h => hSw.cell (p := ⟨b, o, none⟩) h); go_simp; try with_reducible rfl; done)); try simp only [Act.put, List.setIfInBounds_toArray, List.set_cons_zero, List.set_cons_succ])
  (refine held_takeA 3 (by rfl) ?_ (by kernel_rfl) (fun _ _ _ h => h) hs1r ?_ ?_; rotate_left; (focus (intro wq hSw; have hrd : ∀ b o, b < w1.heap.size → wq.cell? ⟨b, o, none⟩ = w1.cell? ⟨b, o, none⟩ := (fun b o h => hSw.cell (p := ⟨b, o, none⟩) h); go_simp; try with_reducible rfl; done)); try simp only [Act.put, List.setIfInBounds_toArray, List.set_cons_zero, List.set_cons_succ])
  (refine held_takeA 4 (by rfl) ?_ (by kernel_rfl) (fun _ _ _ h => h) hs1r ?_ ?_; rotate_left; (focus (intro wq hSw; have hrd : ∀ b o, b < w1.heap.size → wq.cell? ⟨b, o, none⟩ = w1.cell? ⟨b, o, none⟩ := (fun b o h => hSw.cell (p := ⟨b, o, none⟩) h); go_simp; try with_reducible rfl; done)); try simp only [Act.put, List.setIfInBounds_toArray, List.set_cons_zero, List.set_cons_succ])
  (refine held_takeA 6 (by rfl) ?_ (by kernel_rfl) (fun _ _ _ h => h) hs1r ?_ ?_; rotate_left; (focus (intro wq hSw; have hrd : ∀ b o, b < w1.heap.size → wq.cell? ⟨b, o, none⟩ = w1.cell? ⟨b, o, none⟩ := (fun b o h => hSw.cell (p := ⟨b, o, none⟩) h); go_simp; try with_reducible rfl; done)); try simp only [Act.put, List.setIfInBounds_toArray, List.set_cons_zero, List.set_cons_succ])
  (refine held_takeA 7 (by rfl) ?_ (by kernel_rfl) (fun _ _ _ h => h) hs1r ?_ ?_; rotate_left; (focus (intro wq hSw; have hrd : ∀ b o, b < w1.heap.size → wq.cell? ⟨b, o, none⟩ = w1.cell? ⟨b, o, none⟩ := (fun b o h => hSw.cell (p := ⟨b, o, none⟩) h); go_simp; try with_reducible rfl; done)); try simp only [Act.put, List.setIfInBounds_toArray, List.set_cons_zero, List.set_cons_succ])
  (refine held_takeA 8 (by rfl) ?_ (by kernel_rfl) (fun _ _ _ h => h) hs1r ?_ ?_; rotate_left; (focus (intro wq hSw; have hrd : ∀ b o, b < w1.heap.size → wq.cell? ⟨b, o, none⟩ = w1.cell? ⟨b, o, none⟩ := (fun b o h => hSw.cell (p := ⟨b, o, none⟩) h); go_simp; try with_reducible rfl; done)); try simp only [Act.put, List.setIfInBounds_toArray, List.set_cons_zero, List.set_cons_succ])
  (refine held_takeA 9 (by rfl) ?_ (by kernel_rfl) (fun _ _ _ h => h) hs1r ?_ ?_; rotate_left; (focus (intro wq hSw; have hrd : ∀ b o, b < w1.heap.size → wq.cell? ⟨b, o, none⟩ = w1.cell? ⟨b, o, none⟩ := (fun b o h => hSw.cell (p := ⟨b, o, none⟩) h); go_simp; try with_reducible rfl; done)); try simp only [Act.put, List.setIfInBounds_toArray, List.set_cons_zero, List.set_cons_succ])
  refine held_two 5 11 (by rfl) (by rfl) (by kernel_rfl) (by rfl) (by rfl) (fun KQ hKQ => ?_) (fun KQ hKQ => ?_)
  · skip
    go_simp
    refine (addT_any _ _ _).mono ?_
    rintro e w' ⟨rfl, rfl⟩
    have hs2r := (show Below w1.heap.size w1 w1.drew from (Below.refl _ _).drew)
    refine hKQ.out _ _ hs2r ?_
    clear hKQ KQ
    try simp only [Act.put, List.setIfInBounds_toArray, List.set_cons_zero, List.set_cons_succ]
    (refine held_takeA 10 (by rfl) ?_ (by kernel_rfl) (fun _ _ _ h => h) hs2r ?_ ?_; rotate_left; (focus (intro wq hSw; have hrd : ∀ b o, b < w1.heap.size → wq.cell? ⟨b, o, none⟩ = w1.cell? ⟨b, o, none⟩ := (fun b o h => hSw.cell (p := ⟨b, o, none⟩) h); go_simp; try with_reducible rfl; done)); try simp only [Act.put, List.setIfInBounds_toArray, List.set_cons_zero, List.set_cons_succ])
    refine held_callA 11 (by rfl) (by kernel_rfl) (by rfl) (fun KQ hKQ => ?_)
    go_simp
    have hb2 : Below w1.heap.size w1 (w1.drew.alloc (.cells #[.int .i64 0, .int .i64 0] 196)) := (Below.refl w1.heap.size w1).drew.alloc (Nat.le_refl _) (.cells #[.int .i64 0, .int .i64 0] 196)
    have hp : Blk (w1.drew.alloc (.cells #[.int .i64 0, .int .i64 0] 196)) w1.heap.size 196 #[.int .i64 0, .int .i64 0] := Blk.new w1.drew 196 #[.int .i64 0, .int .i64 0]
    have hd : (w1.alloc (.cells #[.int .i64 0, .int .i64 0] 196)).drew = w1.drew.alloc (.cells #[.int .i64 0, .int .i64 0] 196) := rfl
    try rw [hd]
    clear hd
    generalize w1.drew.alloc (.cells #[.int .i64 0, .int .i64 0] 196) = w2 at *
    have hs3r := hb2
    refine hKQ.out _ _ hs3r ?_
    clear hKQ KQ
    try simp only [Act.put, List.setIfInBounds_toArray, List.set_cons_zero, List.set_cons_succ]
    refine held_callA 12 (by rfl) (by kernel_rfl) (by rfl) (fun KQ hKQ => ?_)
    refine wp_store_blk hp 196 (.tmp 7) (.tmp 43) (by rfl) (by rfl) (by rfl) (by rfl) (by exact alarm2) (by simp [Value.oneCell']) ?_
    intro w3 hp3 hg3
    have hb3 := below_own hb2 hg3 hb2.size (Nat.le_refl _)
    have hs4r := hb3
    refine hKQ.out _ _ hs4r ?_
    clear hKQ KQ
    try simp only [Act.put]
    refine wpAnyH_done (by kernel_rfl) ?_ _
    try refine NoPanic.normal ?_
    have hT3 := hT1.nx hb3
    have hC3 : Chg w w3 (fun k => k = g ∨ k = b ∨ v.ownBlock = some k) := hC1.trans (Chg.of_below (X := fun _ => False) hb3) (fun _ _ h => h.elim)
    have hgb : g ≠ b := hT3.ne
    have ltb1 := hT1.ltb
    have hxb : w1.heap.size ≠ b := by omega
    have hxg : w1.heap.size ≠ g := by omega
    have c3 : w3.cell? ⟨g, 3, none⟩ = some (.map (some b)) := hT3.blk.cellv 3 rfl
    have ltg3 := hT3.ltg
    have ltb3 := hT3.ltb
    clear hp hb2 hg3 c1 c2 ltg
    go_upto_region 9 with (fail)
    -- region 9: 0 1 2 3 4 5 6M
    try refine wp_region_noPanic ?_
    have hs5r : w3.grownBy w3.drew (some b) := grown_drew (grown_refl _ _)
    refine wp_region_held_drew (S := fun w' => w3.grownBy w' (some b)) (by kernel_rfl) hs5r (fun _ => ?_)
    (refine held_takeA 0 (by rfl) ?_ (by kernel_rfl) (fun _ _ _ h => h) hs5r ?_ ?_; rotate_left; (focus (intro wq hSw; have hrd : ∀ b' o, b' < w3.heap.size → b' ≠ b → wq.cell? ⟨b', o, none⟩ = w3.cell? ⟨b', o, none⟩ := (fun b' o h hne => grown_cell hSw h hne); go_simp; try with_reducible rfl; done)); try simp only [Act.put, List.setIfInBounds_toArray, List.set_cons_zero, List.set_cons_succ])
    (refine held_takeA 1 (by rfl) ?_ (by kernel_rfl) (fun _ _ _ h => h) hs5r ?_ ?_; rotate_left; (focus (intro wq hSw; have hrd : ∀ b' o, b' < w3.heap.size → b' ≠ b → wq.cell? ⟨b', o, none⟩ = w3.cell? ⟨b', o, none⟩ := (fun b' o h hne => grown_cell hSw h hne); go_simp; try with_reducible rfl; done)); try simp only [Act.put, List.setIfInBounds_toArray, List.set_cons_zero, List.set_cons_succ])
    (refine held_takeA 2 (by rfl) ?_ (by kernel_rfl) (fun _ _ _ h => h) hs5r ?_ ?_; rotate_left; (focus (intro wq hSw; have hrd : ∀ b' o, b' < w3.heap.size → b' ≠ b → wq.cell? ⟨b', o, none⟩ = w3.cell? ⟨b', o, none⟩ := (fun b' o h hne => grown_cell hSw h hne); go_simp; try with_reducible rfl; done)); try simp only [Act.put, List.setIfInBounds_toArray, List.set_cons_zero, List.set_cons_succ])
    (refine held_takeA 3 (by rfl) ?_ (by kernel_rfl) (fun _ _ _ h => h) hs5r ?_ ?_; rotate_left; (focus (intro wq hSw; have hrd : ∀ b' o, b' < w3.heap.size → b' ≠ b → wq.cell? ⟨b', o, none⟩ = w3.cell? ⟨b', o, none⟩ := (fun b' o h hne => grown_cell hSw h hne); go_simp; try with_reducible rfl; done)); try simp only [Act.put, List.setIfInBounds_toArray, List.set_cons_zero, List.set_cons_succ])
    (refine held_takeA 4 (by rfl) ?_ (by kernel_rfl) (fun _ _ _ h => h) hs5r ?_ ?_; rotate_left; (focus (intro wq hSw; have hrd : ∀ b' o, b' < w3.heap.size → b' ≠ b → wq.cell? ⟨b', o, none⟩ = w3.cell? ⟨b', o, none⟩ := (fun b' o h hne => grown_cell hSw h hne); go_simp; try with_reducible rfl; done)); try simp only [Act.put, List.setIfInBounds_toArray, List.set_cons_zero, List.set_cons_succ])
    (refine held_takeA 5 (by rfl) ?_ (by kernel_rfl) (fun _ _ _ h => h) hs5r ?_ ?_; rotate_left; (focus (intro wq hSw; refine exec_load_blk (x := .tmp 7) ?_ ?_ (hp3.grown hSw (by simp; omega)) _ Try.underlying196 rfl (by kernel_rfl) <;> rfl)); simp only [Act.put, List.setIfInBounds_toArray, List.set_cons_zero, List.set_cons_succ])
    refine held_callA 6 (by rfl) (by kernel_rfl) (by rfl) (fun KQ hKQ => ?_)
    refine wp_put_run hput hT3.ent.drew (.tmp 47) (.tmp 48) (.tmp 49) (by rfl) (by rfl) (by rfl) (by rfl) ?_
    intro w4 he4 hg4
    refine hKQ.out _ _ (grown_trans hs5r hg4) (held_mono (S' := fun w' => w4.grownBy w' (some b)) (fun w' h => grown_trans (grown_trans hs5r hg4) h) _ _ _ _ ?_)
    clear hKQ KQ
    replace hp3 := hp3.grown (grown_trans hs5r hg4) (by simp; omega)
    have hs6r : w4.grownBy w4 (some b) := grown_refl _ _
    try simp only [Act.put]
    refine wpAnyH_done (by kernel_rfl) ?_ _
    try refine NoPanic.normal ?_
    have hg5 : w3.grownBy w4 (some b) := grown_trans (grown_drew (grown_refl w3 (some b))) hg4
    have hT4 : TabV w4 g b mo no (co + 1) v A2 H := ⟨hT3.blk.grown hg5 (by simp; omega), he4, ⟨hT3.row.1.kept hg5 (.inr hT3.nb), fun _ _ => trivial⟩, hT3.ng, hT3.nb⟩
    have hp4 := hp3
    have hC4 : Chg w w4 (fun k => k = g ∨ k = b ∨ v.ownBlock = some k) := hC3.trans (Chg.of_grown (X := fun k => k = b) hg5 rfl) (fun _ _ h => .inr (.inl h))
    have hlen4 : H.length ≤ 5000 := by omega
    have c4 : w4.cell? ⟨g, 4, none⟩ = some v := hT4.blk.cellv 4 rfl
    have ltg4 := hT4.ltg
    have hng := hT4.ng
    have ltx4 := hp4.lt
    have hvx : v.ownBlock ≠ some w1.heap.size := fun e => by have := (hT1.row.1.lt _ e).2; omega
    clear hp3 c3 ltg3 ltb3 he4 hg4 hb3
    go_upto_region 10 with (fail)
    -- region 10: 0 1 2 3 4 5 6 7 8M 9M 10 11 12M
    try refine wp_region_noPanic ?_
    have hs7r : (fun w' => w4.grownBy w' v.ownBlock) w4.drew := grown_drew (grown_refl _ _)
    refine wp_region_E 12 (S := fun w' => w4.grownBy w' v.ownBlock) (by kernel_rfl) hs7r (fun _ => ?_)
    (refine e_takeA 0 (by rfl) ?_ (by kernel_rfl) (fun _ _ _ h => h) hs7r ?_ ?_; rotate_left; (focus (intro wq hSw; have hrd := hSw; have hrd2 : ∀ b' o, b' < w4.heap.size → v.ownBlock ≠ some b' → wq.cell? ⟨b', o, none⟩ = w4.cell? ⟨b', o, none⟩ := (fun b' o h hne => grown_cellO hSw h hne); go_simp; try with_reducible rfl; done)); try simp only [Act.put, List.setIfInBounds_toArray, List.set_cons_zero, List.set_cons_succ])
    (refine e_takeA 1 (by rfl) ?_ (by kernel_rfl) (fun _ _ _ h => h) hs7r ?_ ?_; rotate_left; (focus (intro wq hSw; have hrd := hSw; have hrd2 : ∀ b' o, b' < w4.heap.size → v.ownBlock ≠ some b' → wq.cell? ⟨b', o, none⟩ = w4.cell? ⟨b', o, none⟩ := (fun b' o h hne => grown_cellO hSw h hne); go_simp; try with_reducible rfl; done)); try simp only [Act.put, List.setIfInBounds_toArray, List.set_cons_zero, List.set_cons_succ])
    (refine e_takeA 2 (by rfl) ?_ (by kernel_rfl) (fun _ _ _ h => h) hs7r ?_ ?_; rotate_left; (focus (intro wq hSw; have hrd := hSw; have hrd2 : ∀ b' o, b' < w4.heap.size → v.ownBlock ≠ some b' → wq.cell? ⟨b', o, none⟩ = w4.cell? ⟨b', o, none⟩ := (fun b' o h hne => grown_cellO hSw h hne); go_simp; try with_reducible rfl; done)); try simp only [Act.put, List.setIfInBounds_toArray, List.set_cons_zero, List.set_cons_succ])
    (refine e_takeA 3 (by rfl) ?_ (by kernel_rfl) (fun _ _ _ h => h) hs7r ?_ ?_; rotate_left; (focus (intro wq hSw; have hrd := hSw; have hrd2 : ∀ b' o, b' < w4.heap.size → v.ownBlock ≠ some b' → wq.cell? ⟨b', o, none⟩ = w4.cell? ⟨b', o, none⟩ := (fun b' o h hne => grown_cellO hSw h hne); go_simp; try with_reducible rfl; done)); try simp only [Act.put, List.setIfInBounds_toArray, List.set_cons_zero, List.set_cons_succ])
    (refine e_takeA 4 (by rfl) ?_ (by kernel_rfl) (fun _ _ _ h => h) hs7r ?_ ?_; rotate_left; (focus (intro wq hSw; have hrd := hSw; have hrd2 : ∀ b' o, b' < w4.heap.size → v.ownBlock ≠ some b' → wq.cell? ⟨b', o, none⟩ = w4.cell? ⟨b', o, none⟩ := (fun b' o h hne => grown_cellO hSw h hne); go_simp; try with_reducible rfl; done)); try simp only [Act.put, List.setIfInBounds_toArray, List.set_cons_zero, List.set_cons_succ])
    (refine e_takeA 5 (by rfl) ?_ (by kernel_rfl) (fun _ _ _ h => h) hs7r ?_ ?_; rotate_left; (focus (intro wq hSw; have hrd := hSw; have hrd2 : ∀ b' o, b' < w4.heap.size → v.ownBlock ≠ some b' → wq.cell? ⟨b', o, none⟩ = w4.cell? ⟨b', o, none⟩ := (fun b' o h hne => grown_cellO hSw h hne); go_simp; try with_reducible rfl; done)); try simp only [Act.put, List.setIfInBounds_toArray, List.set_cons_zero, List.set_cons_succ])
    (refine e_takeA 6 (by rfl) ?_ (by kernel_rfl) (fun _ _ _ h => h) hs7r ?_ ?_; rotate_left; (focus (intro wq hSw; refine exec_load_blk (x := .tmp 7) ?_ ?_ (hp4.grown hSw (fun e => hvx e.symm)) _ Try.underlying196 rfl (by kernel_rfl) <;> rfl)); simp only [Act.put, List.setIfInBounds_toArray, List.set_cons_zero, List.set_cons_succ])
    (refine e_takeA 7 (by rfl) ?_ (by kernel_rfl) (fun _ _ _ h => h) hs7r ?_ ?_; rotate_left; (focus (intro wq hSw; have hrd := hSw; have hrd2 : ∀ b' o, b' < w4.heap.size → v.ownBlock ≠ some b' → wq.cell? ⟨b', o, none⟩ = w4.cell? ⟨b', o, none⟩ := (fun b' o h hne => grown_cellO hSw h hne); go_simp; try with_reducible rfl; done)); try simp only [Act.put, List.setIfInBounds_toArray, List.set_cons_zero, List.set_cons_succ])
    refine e_callA 8 (by rfl) (by kernel_rfl) (by rfl) (fun KQ hKQ => ?_)
    go_simp
    have hb5 : Below w4.heap.size w4 (w4.drew.alloc (.cells #[.int .i64 id, .int .i64 (addT no n), .int .i64 (co + 1)] 198)) := (Below.refl w4.heap.size w4).drew.alloc (Nat.le_refl _) (.cells #[.int .i64 id, .int .i64 (addT no n), .int .i64 (co + 1)] 198)
    have hseen : Seen sloK (w4.drew.alloc (.cells #[.int .i64 id, .int .i64 (addT no n), .int .i64 (co + 1)] 198)) (fun _ => True) (some ⟨w4.heap.size, 0, none⟩) 1 [(⟨id, addT no n, co + 1⟩ : Slo)] := seen_one (R := sloK) (S := fun _ => False) (S' := fun _ => True) w4.drew 198 (⟨id, addT no n, co + 1⟩ : Slo) #[.int .i64 id, .int .i64 (addT no n), .int .i64 (co + 1)] rfl trivial (fun _ h => h.elim) trivial (fun _ h => h.elim)
    have hT5 := hT4.nx hb5
    have hd : (w4.alloc (.cells #[.int .i64 id, .int .i64 (addT no n), .int .i64 (co + 1)] 198)).drew = w4.drew.alloc (.cells #[.int .i64 id, .int .i64 (addT no n), .int .i64 (co + 1)] 198) := rfl
    try rw [hd]
    clear hd
    generalize w4.drew.alloc (.cells #[.int .i64 id, .int .i64 (addT no n), .int .i64 (co + 1)] 198) = w5 at *
    have hg5' := grown_of_below hb5 (Nat.le_refl _) v.ownBlock
    have hs8r := hg5'
    refine hKQ.out _ _ hs8r ?_
    clear hKQ KQ
    try simp only [Act.put, List.setIfInBounds_toArray, List.set_cons_zero, List.set_cons_succ]
    refine e_callA 9 (by rfl) (by kernel_rfl) (by rfl) (fun KQ hKQ => ?_)
    refine wp_rowsO slo_ok (.tmp 54) (.tmp 58) (by rfl) hT5.row (by rfl) (by rfl) hseen (fun _ _ => trivial) (by unfold maxLen; omega) (by omega) (Nat.zero_le _) ?_
    intro v6 w6 hR6 hg6 ho6
    have hz5 : w.heap.size ≤ w5.heap.size := Nat.le_trans hC4.size hb5.size
    obtain ⟨L, hL⟩ : ∃ L, L = (H ++ [(⟨id, addT no n, co + 1⟩ : Slo)]).length := ⟨_, rfl⟩
    have hL1 : Hid (L = H.length + 1) := Lib.hid (by rw [hL]; simp)
    obtain ⟨A7, c7, e7, -⟩ := hR6.1.any
    rw [← hL] at e7
    subst e7
    replace hL := Lib.hid hL
    have hg46 := grown_trans hg5' hg6
    have hs9r := hg46
    refine hKQ.out _ _ hs9r ?_
    clear hKQ KQ
    try simp only [Act.put, List.setIfInBounds_toArray, List.set_cons_zero, List.set_cons_succ]
    (refine e_takeA 10 (by rfl) ?_ (by kernel_rfl) (fun _ _ _ h => h) hs9r ?_ ?_; rotate_left; (focus (intro wq hSw; have hrd := hSw; have hrd2 : ∀ b' o, b' < w4.heap.size → v.ownBlock ≠ some b' → wq.cell? ⟨b', o, none⟩ = w4.cell? ⟨b', o, none⟩ := (fun b' o h hne => grown_cellO hSw h hne); go_simp; try with_reducible rfl; done)); try simp only [Act.put, List.setIfInBounds_toArray, List.set_cons_zero, List.set_cons_succ])
    (refine e_takeA 11 (by rfl) ?_ (by kernel_rfl) (fun _ _ _ h => h) hs9r ?_ ?_; rotate_left; (focus (intro wq hSw; have hrd := hSw; have hrd2 : ∀ b' o, b' < w4.heap.size → v.ownBlock ≠ some b' → wq.cell? ⟨b', o, none⟩ = w4.cell? ⟨b', o, none⟩ := (fun b' o h hne => grown_cellO hSw h hne); go_simp; try with_reducible rfl; done)); try simp only [Act.put, List.setIfInBounds_toArray, List.set_cons_zero, List.set_cons_succ])
    have hq6 := hT4.blk.grown hg46 (fun e => hng e.symm)
    have hm6 := hT4.ent.grown hg46 (fun e => hT4.nb e.symm)
    have hC6 : Chg w w6 (fun k => k = g ∨ k = b ∨ v.ownBlock = some k) := hC4.trans (Chg.of_grownO (X := fun k => v.ownBlock = some k) hg46 (fun _ e => e)) (fun _ _ h => .inr (.inr h))
    have hX7 : ∀ i, i < w.heap.size → (Value.slice A7 L c7).ownBlock = some i → i = g ∨ i = b ∨ v.ownBlock = some i := fun i hi e => by
      rcases ho6 with q | q
      · exact .inr (.inr (q ▸ e))
      · rw [q] at e; injection e with e; omega
    have n1 := own_ne_blk hR6.1 hq6 (by decide)
    have n2 := own_ne_ent hR6.1 hm6
    have f4 := hq6.frozen 4
    have ltg6 := hq6.lt
    have c46 : w6.cell? ⟨g, 4, none⟩ = some v := hq6.cellv 4 rfl
    refine e_last (by rfl) (by kernel_rfl) (by rfl) (fun KQ hKQ => ?_)
    go_simp
    obtain ⟨hq7, hg7⟩ := blk_store hq6 4 (.slice A7 L c7)
    have hT7 : TabV (w6.setCell ⟨g, 4, none⟩ (.slice A7 L c7)) g b mo no (co + 1) (.slice A7 L c7) A2 (H ++ [⟨id, addT no n, co + 1⟩]) := ⟨hq7, hm6.grown hg7 (fun e => hgb (by injection e with e; exact e.symm)), ⟨hR6.1.kept hg7 (.inr n1), fun _ _ => trivial⟩, n1, n2⟩
    have hC7 : Chg w (w6.setCell ⟨g, 4, none⟩ (.slice A7 L c7)) (fun k => k = g ∨ k = b ∨ v.ownBlock = some k) := hC6.trans (Chg.of_grown (X := fun k => k = g) hg7 rfl) (fun _ _ h => .inl h)
    generalize w6.setCell ⟨g, 4, none⟩ (.slice A7 L c7) = w7 at *
    refine hKQ.out _ _ ?_
    clear hKQ KQ
    try simp only [Act.put]
    refine e_done (by kernel_rfl) ?_ _
    try refine NoPanic.normal ?_
    clear hq7 hg7 hC6 hm6 hq6 hg46 hR6 n1 n2 f4 ltg6 c46 hT5 hg5' hseen hb5 hvx ltx4 hng ltg4 c4 hC4 hp4 hT4 hg5 hC3 hT3 hg6 ho6
    have e1 : (L : Int) - 1 = (H.length : Int) := by have := hL1.out; omega
    have kwL : IntKind.i64.wrap (H.length : Int) = (H.length : Int) := IntWalk.i64_in _ (by omega)
    have kw4 : IntKind.i64.wrap (4 * mo) = 4 * mo := IntWalk.i64_in _ (by omega)
    have kw5 : IntKind.i64.wrap (4 * mo + 64) = 4 * mo + 64 := IntWalk.i64_in _ (by omega)
    have d9 : decide (4 * mo + 64 < (L : Int)) = false := by have := hL1.out; simp; omega
    have c4 : w7.cell? ⟨g, 4, none⟩ = some (.slice A7 L c7) := hT7.blk.cellv 4 rfl
    have ltg := hT7.ltg
    have hup := fun w => up_any w g b mo no (co + 1) (.slice A7 L c7) A2 (H ++ [(⟨id, addT no n, co + 1⟩ : Slo)])
    have hi9 : H.length < (H ++ [(⟨id, addT no n, co + 1⟩ : Slo)]).length := by rw [← hL.out]; omega
    have hn9 : (H ++ [(⟨id, addT no n, co + 1⟩ : Slo)]).length ≤ 1000000 := by rw [← hL.out]; omega
    replace hi9 := Lib.hid hi9
    replace hn9 := Lib.hid hn9
    go_upto_region 12 with (go_at_call 135; refine (hup w7 hT7 H.length hi9.out hn9.out).mono ?_; rintro e w8 ⟨rfl, hT8, hg8⟩)
    have c0 : w8.cell? ⟨g, 0, none⟩ = some (.int .i64 mo) := hT8.blk.cellv 0 rfl
    have c48 : w8.cell? ⟨g, 4, none⟩ = some (.slice A7 L c7) := hT8.blk.cellv 4 rfl
    have ltg8 := hT8.ltg
    have hC8 := hC7.trans (Chg.of_grownO (X := fun k => (Value.slice A7 L c7).ownBlock = some k) hg8 (fun _ e => e)) (fun i hi e => hX7 i hi e)
    go_region
    go_wp2_with fail
    go_ret
    exact ⟨_, rfl, hT8.nx (Below.refl _ _).drew, hC8.trans (Chg.of_below (X := fun _ => False) (Below.refl _ _).drew) (fun _ _ h => h.elim), hX7⟩
  · skip
    go_simp
    have hb2 : Below w1.heap.size w1 (w1.drew.alloc (.cells #[.int .i64 0, .int .i64 0] 196)) := (Below.refl w1.heap.size w1).drew.alloc (Nat.le_refl _) (.cells #[.int .i64 0, .int .i64 0] 196)
    have hp : Blk (w1.drew.alloc (.cells #[.int .i64 0, .int .i64 0] 196)) w1.heap.size 196 #[.int .i64 0, .int .i64 0] := Blk.new w1.drew 196 #[.int .i64 0, .int .i64 0]
    have hd : (w1.alloc (.cells #[.int .i64 0, .int .i64 0] 196)).drew = w1.drew.alloc (.cells #[.int .i64 0, .int .i64 0] 196) := rfl
    try rw [hd]
    clear hd
    generalize w1.drew.alloc (.cells #[.int .i64 0, .int .i64 0] 196) = w2 at *
    have hs10r := hb2
    refine hKQ.out _ _ hs10r ?_
    clear hKQ KQ
    try simp only [Act.put, List.setIfInBounds_toArray, List.set_cons_zero, List.set_cons_succ]
    refine held_callA 5 (by rfl) (by kernel_rfl) (by rfl) (fun KQ hKQ => ?_)
    go_simp
    refine (addT_any _ _ _).mono ?_
    rintro e w' ⟨rfl, rfl⟩
    have hs11r := hb2
    refine hKQ.out _ _ hs11r ?_
    clear hKQ KQ
    try simp only [Act.put, List.setIfInBounds_toArray, List.set_cons_zero, List.set_cons_succ]
    (refine held_takeA 10 (by rfl) ?_ (by kernel_rfl) (fun _ _ _ h => h) hs11r ?_ ?_; rotate_left; (focus (intro wq hSw; have hrd : ∀ b o, b < w1.heap.size → wq.cell? ⟨b, o, none⟩ = w1.cell? ⟨b, o, none⟩ := (fun b o h => hSw.cell (p := ⟨b, o, none⟩) h); go_simp; try with_reducible rfl; done)); try simp only [Act.put, List.setIfInBounds_toArray, List.set_cons_zero, List.set_cons_succ])
    refine held_callA 12 (by rfl) (by kernel_rfl) (by rfl) (fun KQ hKQ => ?_)
    refine wp_store_blk hp 196 (.tmp 7) (.tmp 43) (by rfl) (by rfl) (by rfl) (by rfl) (by exact alarm2) (by simp [Value.oneCell']) ?_
    intro w3 hp3 hg3
    have hb3 := below_own hb2 hg3 hb2.size (Nat.le_refl _)
    have hs12r := hb3
    refine hKQ.out _ _ hs12r ?_
    clear hKQ KQ
    try simp only [Act.put]
    refine wpAnyH_done (by kernel_rfl) ?_ _
    try refine NoPanic.normal ?_
    have hT3 := hT1.nx hb3
    have hC3 : Chg w w3 (fun k => k = g ∨ k = b ∨ v.ownBlock = some k) := hC1.trans (Chg.of_below (X := fun _ => False) hb3) (fun _ _ h => h.elim)
    have hgb : g ≠ b := hT3.ne
    have ltb1 := hT1.ltb
    have hxb : w1.heap.size ≠ b := by omega
    have hxg : w1.heap.size ≠ g := by omega
    have c3 : w3.cell? ⟨g, 3, none⟩ = some (.map (some b)) := hT3.blk.cellv 3 rfl
    have ltg3 := hT3.ltg
    have ltb3 := hT3.ltb
    clear hp hb2 hg3 c1 c2 ltg
    go_upto_region 9 with (fail)
    -- region 9: 0 1 2 3 4 5 6M
    try refine wp_region_noPanic ?_
    have hs13r : w3.grownBy w3.drew (some b) := grown_drew (grown_refl _ _)
    refine wp_region_held_drew (S := fun w' => w3.grownBy w' (some b)) (by kernel_rfl) hs13r (fun _ => ?_)
    (refine held_takeA 0 (by rfl) ?_ (by kernel_rfl) (fun _ _ _ h => h) hs13r ?_ ?_; rotate_left; (focus (intro wq hSw; have hrd : ∀ b' o, b' < w3.heap.size → b' ≠ b → wq.cell? ⟨b', o, none⟩ = w3.cell? ⟨b', o, none⟩ := (fun b' o h hne => grown_cell hSw h hne); go_simp; try with_reducible rfl; done)); try simp only [Act.put, List.setIfInBounds_toArray, List.set_cons_zero, List.set_cons_succ])
    (refine held_takeA 1 (by rfl) ?_ (by kernel_rfl) (fun _ _ _ h => h) hs13r ?_ ?_; rotate_left; (focus (intro wq hSw; have hrd : ∀ b' o, b' < w3.heap.size → b' ≠ b → wq.cell? ⟨b', o, none⟩ = w3.cell? ⟨b', o, none⟩ := (fun b' o h hne => grown_cell hSw h hne); go_simp; try with_reducible rfl; done)); try simp only [Act.put, List.setIfInBounds_toArray, List.set_cons_zero, List.set_cons_succ])
    (refine held_takeA 2 (by rfl) ?_ (by kernel_rfl) (fun _ _ _ h => h) hs13r ?_ ?_; rotate_left; (focus (intro wq hSw; have hrd : ∀ b' o, b' < w3.heap.size → b' ≠ b → wq.cell? ⟨b', o, none⟩ = w3.cell? ⟨b', o, none⟩ := (fun b' o h hne => grown_cell hSw h hne); go_simp; try with_reducible rfl; done)); try simp only [Act.put, List.setIfInBounds_toArray, List.set_cons_zero, List.set_cons_succ])
    (refine held_takeA 3 (by rfl) ?_ (by kernel_rfl) (fun _ _ _ h => h) hs13r ?_ ?_; rotate_left; (focus (intro wq hSw; have hrd : ∀ b' o, b' < w3.heap.size → b' ≠ b → wq.cell? ⟨b', o, none⟩ = w3.cell? ⟨b', o, none⟩ := (fun b' o h hne => grown_cell hSw h hne); go_simp; try with_reducible rfl; done)); try simp only [Act.put, List.setIfInBounds_toArray, List.set_cons_zero, List.set_cons_succ])
    (refine held_takeA 4 (by rfl) ?_ (by kernel_rfl) (fun _ _ _ h => h) hs13r ?_ ?_; rotate_left; (focus (intro wq hSw; have hrd : ∀ b' o, b' < w3.heap.size → b' ≠ b → wq.cell? ⟨b', o, none⟩ = w3.cell? ⟨b', o, none⟩ := (fun b' o h hne => grown_cell hSw h hne); go_simp; try with_reducible rfl; done)); try simp only [Act.put, List.setIfInBounds_toArray, List.set_cons_zero, List.set_cons_succ])
    (refine held_takeA 5 (by rfl) ?_ (by kernel_rfl) (fun _ _ _ h => h) hs13r ?_ ?_; rotate_left; (focus (intro wq hSw; refine exec_load_blk (x := .tmp 7) ?_ ?_ (hp3.grown hSw (by simp; omega)) _ Try.underlying196 rfl (by kernel_rfl) <;> rfl)); simp only [Act.put, List.setIfInBounds_toArray, List.set_cons_zero, List.set_cons_succ])
    refine held_callA 6 (by rfl) (by kernel_rfl) (by rfl) (fun KQ hKQ => ?_)
    refine wp_put_run hput hT3.ent.drew (.tmp 47) (.tmp 48) (.tmp 49) (by rfl) (by rfl) (by rfl) (by rfl) ?_
    intro w4 he4 hg4
    refine hKQ.out _ _ (grown_trans hs13r hg4) (held_mono (S' := fun w' => w4.grownBy w' (some b)) (fun w' h => grown_trans (grown_trans hs13r hg4) h) _ _ _ _ ?_)
    clear hKQ KQ
    replace hp3 := hp3.grown (grown_trans hs13r hg4) (by simp; omega)
    have hs14r : w4.grownBy w4 (some b) := grown_refl _ _
    try simp only [Act.put]
    refine wpAnyH_done (by kernel_rfl) ?_ _
    try refine NoPanic.normal ?_
    have hg5 : w3.grownBy w4 (some b) := grown_trans (grown_drew (grown_refl w3 (some b))) hg4
    have hT4 : TabV w4 g b mo no (co + 1) v A2 H := ⟨hT3.blk.grown hg5 (by simp; omega), he4, ⟨hT3.row.1.kept hg5 (.inr hT3.nb), fun _ _ => trivial⟩, hT3.ng, hT3.nb⟩
    have hp4 := hp3
    have hC4 : Chg w w4 (fun k => k = g ∨ k = b ∨ v.ownBlock = some k) := hC3.trans (Chg.of_grown (X := fun k => k = b) hg5 rfl) (fun _ _ h => .inr (.inl h))
    have hlen4 : H.length ≤ 5000 := by omega
    have c4 : w4.cell? ⟨g, 4, none⟩ = some v := hT4.blk.cellv 4 rfl
    have ltg4 := hT4.ltg
    have hng := hT4.ng
    have ltx4 := hp4.lt
    have hvx : v.ownBlock ≠ some w1.heap.size := fun e => by have := (hT1.row.1.lt _ e).2; omega
    clear hp3 c3 ltg3 ltb3 he4 hg4 hb3
    go_upto_region 10 with (fail)
    -- region 10: 0 1 2 3 4 5 6 7 8M 9M 10 11 12M
    try refine wp_region_noPanic ?_
    have hs15r : (fun w' => w4.grownBy w' v.ownBlock) w4.drew := grown_drew (grown_refl _ _)
    refine wp_region_E 12 (S := fun w' => w4.grownBy w' v.ownBlock) (by kernel_rfl) hs15r (fun _ => ?_)
    (refine e_takeA 0 (by rfl) ?_ (by kernel_rfl) (fun _ _ _ h => h) hs15r ?_ ?_; rotate_left; (focus (intro wq hSw; have hrd := hSw; have hrd2 : ∀ b' o, b' < w4.heap.size → v.ownBlock ≠ some b' → wq.cell? ⟨b', o, none⟩ = w4.cell? ⟨b', o, none⟩ := (fun b' o h hne => grown_cellO hSw h hne); go_simp; try with_reducible rfl; done)); try simp only [Act.put, List.setIfInBounds_toArray, List.set_cons_zero, List.set_cons_succ])
    (refine e_takeA 1 (by rfl) ?_ (by kernel_rfl) (fun _ _ _ h => h) hs15r ?_ ?_; rotate_left; (focus (intro wq hSw; have hrd := hSw; have hrd2 : ∀ b' o, b' < w4.heap.size → v.ownBlock ≠ some b' → wq.cell? ⟨b', o, none⟩ = w4.cell? ⟨b', o, none⟩ := (fun b' o h hne => grown_cellO hSw h hne); go_simp; try with_reducible rfl; done)); try simp only [Act.put, List.setIfInBounds_toArray, List.set_cons_zero, List.set_cons_succ])
    (refine e_takeA 2 (by rfl) ?_ (by kernel_rfl) (fun _ _ _ h => h) hs15r ?_ ?_; rotate_left; (focus (intro wq hSw; have hrd := hSw; have hrd2 : ∀ b' o, b' < w4.heap.size → v.ownBlock ≠ some b' → wq.cell? ⟨b', o, none⟩ = w4.cell? ⟨b', o, none⟩ := (fun b' o h hne => grown_cellO hSw h hne); go_simp; try with_reducible rfl; done)); try simp only [Act.put, List.setIfInBounds_toArray, List.set_cons_zero, List.set_cons_succ])
    (refine e_takeA 3 (by rfl) ?_ (by kernel_rfl) (fun _ _ _ h => h) hs15r ?_ ?_; rotate_left; (focus (intro wq hSw; have hrd := hSw; have hrd2 : ∀ b' o, b' < w4.heap.size → v.ownBlock ≠ some b' → wq.cell? ⟨b', o, none⟩ = w4.cell? ⟨b', o, none⟩ := (fun b' o h hne => grown_cellO hSw h hne); go_simp; try with_reducible rfl; done)); try simp only [Act.put, List.setIfInBounds_toArray, List.set_cons_zero, List.set_cons_succ])
    (refine e_takeA 4 (by rfl) ?_ (by kernel_rfl) (fun _ _ _ h => h) hs15r ?_ ?_; rotate_left; (focus (intro wq hSw; have hrd := hSw; have hrd2 : ∀ b' o, b' < w4.heap.size → v.ownBlock ≠ some b' → wq.cell? ⟨b', o, none⟩ = w4.cell? ⟨b', o, none⟩ := (fun b' o h hne => grown_cellO hSw h hne); go_simp; try with_reducible rfl; done)); try simp only [Act.put, List.setIfInBounds_toArray, List.set_cons_zero, List.set_cons_succ])
    (refine e_takeA 5 (by rfl) ?_ (by kernel_rfl) (fun _ _ _ h => h) hs15r ?_ ?_; rotate_left; (focus (intro wq hSw; have hrd := hSw; have hrd2 : ∀ b' o, b' < w4.heap.size → v.ownBlock ≠ some b' → wq.cell? ⟨b', o, none⟩ = w4.cell? ⟨b', o, none⟩ := (fun b' o h hne => grown_cellO hSw h hne); go_simp; try with_reducible rfl; done)); try simp only [Act.put, List.setIfInBounds_toArray, List.set_cons_zero, List.set_cons_succ])
    (refine e_takeA 6 (by rfl) ?_ (by kernel_rfl) (fun _ _ _ h => h) hs15r ?_ ?_; rotate_left; (focus (intro wq hSw; refine exec_load_blk (x := .tmp 7) ?_ ?_ (hp4.grown hSw (fun e => hvx e.symm)) _ Try.underlying196 rfl (by kernel_rfl) <;> rfl)); simp only [Act.put, List.setIfInBounds_toArray, List.set_cons_zero, List.set_cons_succ])
    (refine e_takeA 7 (by rfl) ?_ (by kernel_rfl) (fun _ _ _ h => h) hs15r ?_ ?_; rotate_left; (focus (intro wq hSw; have hrd := hSw; have hrd2 : ∀ b' o, b' < w4.heap.size → v.ownBlock ≠ some b' → wq.cell? ⟨b', o, none⟩ = w4.cell? ⟨b', o, none⟩ := (fun b' o h hne => grown_cellO hSw h hne); go_simp; try with_reducible rfl; done)); try simp only [Act.put, List.setIfInBounds_toArray, List.set_cons_zero, List.set_cons_succ])
    refine e_callA 8 (by rfl) (by kernel_rfl) (by rfl) (fun KQ hKQ => ?_)
    go_simp
    have hb5 : Below w4.heap.size w4 (w4.drew.alloc (.cells #[.int .i64 id, .int .i64 (addT no n), .int .i64 (co + 1)] 198)) := (Below.refl w4.heap.size w4).drew.alloc (Nat.le_refl _) (.cells #[.int .i64 id, .int .i64 (addT no n), .int .i64 (co + 1)] 198)
    have hseen : Seen sloK (w4.drew.alloc (.cells #[.int .i64 id, .int .i64 (addT no n), .int .i64 (co + 1)] 198)) (fun _ => True) (some ⟨w4.heap.size, 0, none⟩) 1 [(⟨id, addT no n, co + 1⟩ : Slo)] := seen_one (R := sloK) (S := fun _ => False) (S' := fun _ => True) w4.drew 198 (⟨id, addT no n, co + 1⟩ : Slo) #[.int .i64 id, .int .i64 (addT no n), .int .i64 (co + 1)] rfl trivial (fun _ h => h.elim) trivial (fun _ h => h.elim)
    have hT5 := hT4.nx hb5
    have hd : (w4.alloc (.cells #[.int .i64 id, .int .i64 (addT no n), .int .i64 (co + 1)] 198)).drew = w4.drew.alloc (.cells #[.int .i64 id, .int .i64 (addT no n), .int .i64 (co + 1)] 198) := rfl
    try rw [hd]
    clear hd
    generalize w4.drew.alloc (.cells #[.int .i64 id, .int .i64 (addT no n), .int .i64 (co + 1)] 198) = w5 at *
    have hg5' := grown_of_below hb5 (Nat.le_refl _) v.ownBlock
    have hs16r := hg5'
    refine hKQ.out _ _ hs16r ?_
    clear hKQ KQ
    try simp only [Act.put, List.setIfInBounds_toArray, List.set_cons_zero, List.set_cons_succ]
    refine e_callA 9 (by rfl) (by kernel_rfl) (by rfl) (fun KQ hKQ => ?_)
    refine wp_rowsO slo_ok (.tmp 54) (.tmp 58) (by rfl) hT5.row (by rfl) (by rfl) hseen (fun _ _ => trivial) (by unfold maxLen; omega) (by omega) (Nat.zero_le _) ?_
    intro v6 w6 hR6 hg6 ho6
    have hz5 : w.heap.size ≤ w5.heap.size := Nat.le_trans hC4.size hb5.size
    obtain ⟨L, hL⟩ : ∃ L, L = (H ++ [(⟨id, addT no n, co + 1⟩ : Slo)]).length := ⟨_, rfl⟩
    have hL1 : Hid (L = H.length + 1) := Lib.hid (by rw [hL]; simp)
    obtain ⟨A7, c7, e7, -⟩ := hR6.1.any
    rw [← hL] at e7
    subst e7
    replace hL := Lib.hid hL
    have hg46 := grown_trans hg5' hg6
    have hs17r := hg46
    refine hKQ.out _ _ hs17r ?_
    clear hKQ KQ
    try simp only [Act.put, List.setIfInBounds_toArray, List.set_cons_zero, List.set_cons_succ]
    (refine e_takeA 10 (by rfl) ?_ (by kernel_rfl) (fun _ _ _ h => h) hs17r ?_ ?_; rotate_left; (focus (intro wq hSw; have hrd := hSw; have hrd2 : ∀ b' o, b' < w4.heap.size → v.ownBlock ≠ some b' → wq.cell? ⟨b', o, none⟩ = w4.cell? ⟨b', o, none⟩ := (fun b' o h hne => grown_cellO hSw h hne); go_simp; try with_reducible rfl; done)); try simp only [Act.put, List.setIfInBounds_toArray, List.set_cons_zero, List.set_cons_succ])
    (refine e_takeA 11 (by rfl) ?_ (by kernel_rfl) (fun _ _ _ h => h) hs17r ?_ ?_; rotate_left; (focus (intro wq hSw; have hrd := hSw; have hrd2 : ∀ b' o, b' < w4.heap.size → v.ownBlock ≠ some b' → wq.cell? ⟨b', o, none⟩ = w4.cell? ⟨b', o, none⟩ := (fun b' o h hne => grown_cellO hSw h hne); go_simp; try with_reducible rfl; done)); try simp only [Act.put, List.setIfInBounds_toArray, List.set_cons_zero, List.set_cons_succ])
    have hq6 := hT4.blk.grown hg46 (fun e => hng e.symm)
    have hm6 := hT4.ent.grown hg46 (fun e => hT4.nb e.symm)
    have hC6 : Chg w w6 (fun k => k = g ∨ k = b ∨ v.ownBlock = some k) := hC4.trans (Chg.of_grownO (X := fun k => v.ownBlock = some k) hg46 (fun _ e => e)) (fun _ _ h => .inr (.inr h))
    have hX7 : ∀ i, i < w.heap.size → (Value.slice A7 L c7).ownBlock = some i → i = g ∨ i = b ∨ v.ownBlock = some i := fun i hi e => by
      rcases ho6 with q | q
      · exact .inr (.inr (q ▸ e))
      · rw [q] at e; injection e with e; omega
    have n1 := own_ne_blk hR6.1 hq6 (by decide)
    have n2 := own_ne_ent hR6.1 hm6
    have f4 := hq6.frozen 4
    have ltg6 := hq6.lt
    have c46 : w6.cell? ⟨g, 4, none⟩ = some v := hq6.cellv 4 rfl
    refine e_last (by rfl) (by kernel_rfl) (by rfl) (fun KQ hKQ => ?_)
    go_simp
    obtain ⟨hq7, hg7⟩ := blk_store hq6 4 (.slice A7 L c7)
    have hT7 : TabV (w6.setCell ⟨g, 4, none⟩ (.slice A7 L c7)) g b mo no (co + 1) (.slice A7 L c7) A2 (H ++ [⟨id, addT no n, co + 1⟩]) := ⟨hq7, hm6.grown hg7 (fun e => hgb (by injection e with e; exact e.symm)), ⟨hR6.1.kept hg7 (.inr n1), fun _ _ => trivial⟩, n1, n2⟩
    have hC7 : Chg w (w6.setCell ⟨g, 4, none⟩ (.slice A7 L c7)) (fun k => k = g ∨ k = b ∨ v.ownBlock = some k) := hC6.trans (Chg.of_grown (X := fun k => k = g) hg7 rfl) (fun _ _ h => .inl h)
    generalize w6.setCell ⟨g, 4, none⟩ (.slice A7 L c7) = w7 at *
    refine hKQ.out _ _ ?_
    clear hKQ KQ
    try simp only [Act.put]
    refine e_done (by kernel_rfl) ?_ _
    try refine NoPanic.normal ?_
    clear hq7 hg7 hC6 hm6 hq6 hg46 hR6 n1 n2 f4 ltg6 c46 hT5 hg5' hseen hb5 hvx ltx4 hng ltg4 c4 hC4 hp4 hT4 hg5 hC3 hT3 hg6 ho6
    have e1 : (L : Int) - 1 = (H.length : Int) := by have := hL1.out; omega
    have kwL : IntKind.i64.wrap (H.length : Int) = (H.length : Int) := IntWalk.i64_in _ (by omega)
    have kw4 : IntKind.i64.wrap (4 * mo) = 4 * mo := IntWalk.i64_in _ (by omega)
    have kw5 : IntKind.i64.wrap (4 * mo + 64) = 4 * mo + 64 := IntWalk.i64_in _ (by omega)
    have d9 : decide (4 * mo + 64 < (L : Int)) = false := by have := hL1.out; simp; omega
    have c4 : w7.cell? ⟨g, 4, none⟩ = some (.slice A7 L c7) := hT7.blk.cellv 4 rfl
    have ltg := hT7.ltg
    have hup := fun w => up_any w g b mo no (co + 1) (.slice A7 L c7) A2 (H ++ [(⟨id, addT no n, co + 1⟩ : Slo)])
    have hi9 : H.length < (H ++ [(⟨id, addT no n, co + 1⟩ : Slo)]).length := by rw [← hL.out]; omega
    have hn9 : (H ++ [(⟨id, addT no n, co + 1⟩ : Slo)]).length ≤ 1000000 := by rw [← hL.out]; omega
    replace hi9 := Lib.hid hi9
    replace hn9 := Lib.hid hn9
    go_upto_region 12 with (go_at_call 135; refine (hup w7 hT7 H.length hi9.out hn9.out).mono ?_; rintro e w8 ⟨rfl, hT8, hg8⟩)
    have c0 : w8.cell? ⟨g, 0, none⟩ = some (.int .i64 mo) := hT8.blk.cellv 0 rfl
    have c48 : w8.cell? ⟨g, 4, none⟩ = some (.slice A7 L c7) := hT8.blk.cellv 4 rfl
    have ltg8 := hT8.ltg
    have hC8 := hC7.trans (Chg.of_grownO (X := fun k => (Value.slice A7 L c7).ownBlock = some k) hg8 (fun _ e => e)) (fun i hi e => hX7 i hi e)
    go_region
    go_wp2_with fail
    go_ret
    exact ⟨_, rfl, hT8.nx (Below.refl _ _).drew, hC8.trans (Chg.of_below (X := fun _ => False) (Below.refl _ _).drew) (fun _ _ h => h.elim), hX7⟩
end Go.Proofs.Ytejgekoinbdhjaa
