/- Rows that the call itself makes, of whatever element type: append. -/
import Derived.Test.YthllemlkdflhkaaBlk
import Derived.Test.YthllemlkdflhkaaOpen
import Derived.Maps.AppendAt
import Derived.Deep.AppendLies
import Derived.RegionTactic
import Derived.OwnWalk
namespace Go.Proofs.Ythllemlkdflhkaa
set_option linter.unusedVariables false
open Go.RowKit

/-- what the table says of a slice type and its elements. -/
structure ElemOk (P : Program) (st et : TypeId) (size bytes : Nat) (z : Value) : Prop where
  slice : P.underlying st = some (.slice et)
  info : (P.info? et).map (fun i => (i.zero, i.size, i.bytes)) = some (some z, size, bytes)
  cells : z.cells.size = size
  pos : 0 < size

section
variable {w w' : World} {base n cap g size : Nat} {et : TypeId} {v : Value} {xs : List Value}
/-- the slice value v of n elements of type et is the call's own, from block 'base' on, and its cells are xs. -/
def Own1 (w : World) (base : Nat) (et : TypeId) (size : Nat) (v : Value) (n : Nat) (xs : List Value) : Prop := w.ownsRow base et size v n xs
theorem Own1.nil (w : World) (base : Nat) (et : TypeId) (size : Nat) : Own1 w base et size (.slice none 0 0) 0 [] := World.ownsRow_nil w base et size
theorem Own1.len (h : Own1 w base et size v n xs) : xs.length = n * size := h.1
theorem Own1.form (h : Own1 w base et size v n xs) (hn : 0 < n) : ∃ g cap, v = .slice (some ⟨g, 0, none⟩) n cap ∧ base ≤ g ∧ g < w.heap.size ∧ n ≤ cap ∧ cap ≤ maxLen := by
  rcases h.2 with ⟨_, h0⟩ | ⟨g, cap, cur, e, hb, hg, hnc, hm, _⟩
  · omega
  · exact ⟨g, cap, e, hb, (Array.getElem?_eq_some_iff.1 hg).1, hnc, hm⟩
theorem Own1.any (h : Own1 w base et size v n xs) : ∃ A cap, v = .slice A n cap ∧ n ≤ cap ∧ (∀ a, A = some a → base ≤ a.block) ∧ (0 < n → ∃ g, A = some ⟨g, 0, none⟩ ∧ g < w.heap.size ∧ ∀ j, j < n * size → w.cell? ⟨g, j, none⟩ = xs[j]?) := by
  rcases h.2 with ⟨e, h0⟩ | ⟨g, cap, cur, e, hb, hg, hnc, hm, hs, ht⟩
  · subst h0
    exact ⟨none, 0, e, Nat.le_refl _, fun a h => by (cases h), fun h => absurd h (by omega)⟩
  · refine ⟨_, cap, e, hnc, fun a h => by (cases h; exact hb), fun hn => ⟨g, rfl, (Array.getElem?_eq_some_iff.1 hg).1, fun j hj => ?_⟩⟩
    subst e
    exact World.ownsRow.cellAt h j hj
theorem Own1.kept {row : Option Nat} (h : Own1 w base et size v n xs) (hg : w.grownBy w' row) (hne : v.ownBlock = none ∨ v.ownBlock ≠ row) : Own1 w' base et size v n xs := World.ownsRow.kept h hg hne
theorem Own1.below (h : Own1 w base et size v n xs) (hb : Below w.heap.size w w') : Own1 w' base et size v n xs :=
  World.ownsRow.kept h (grown_of hb (Nat.le_refl _) none) (by cases hv : v.ownBlock <;> simp)
theorem Own1.alloc (h : Own1 w base et size v n xs) (o : Obj) : Own1 (w.alloc o) base et size v n xs := World.ownsRow.alloc h o
theorem Own1.drew (h : Own1 w base et size v n xs) : Own1 w.drew base et size v n xs := h
theorem Own1.drewN (h : Own1 w base et size v n xs) (k : Nat) : Own1 (w.drewN k) base et size v n xs := h
/-- a store into a block that is another's. -/
theorem Own1.setOther (h : Own1 w base et size v n xs) {p : Addr} (hp : v.ownBlock ≠ some p.block) (u : Value) : Own1 (w.setCell p u) base et size v n xs :=
  World.ownsRow.kept h (row := some p.block) ⟨rfl, rfl, rfl, by simp [World.setCell], fun k _ hk => Below.heap_setCell _ _ _ _ (fun e => hk (by rw [e]))⟩ (.inr hp)
theorem Own1.lt (h : Own1 w base et size v n xs) : ∀ k, v.ownBlock = some k → base ≤ k ∧ k < w.heap.size := World.ownsRow.lt h
theorem Own1.store (h : Own1 w base et size (.slice (some ⟨g, 0, none⟩) n cap) n xs) (j : Nat) (u : Value) :
    Own1 (w.setCell ⟨g, j, none⟩ u) base et size (.slice (some ⟨g, 0, none⟩) n cap) n (xs.set j u) := (World.ownsRow.stored h j u).1
theorem Own1.free (h : Own1 w base et size (.slice (some ⟨g, 0, none⟩) n cap) n xs) (j : Nat) : w.frozen? ⟨g, j, none⟩ = false := World.ownsRow.frozenAt h j
theorem Own1.cell (h : Own1 w base et size (.slice (some ⟨g, 0, none⟩) n cap) n xs) (j : Nat) (hj : j < n * size) : w.cell? ⟨g, j, none⟩ = xs[j]? := World.ownsRow.cellAt h j hj
/-- a literal. -/
theorem Own1.lit (w : World) (cs : Array Value) (n : Nat) (hb : base ≤ w.heap.size) (hm : n ≤ maxLen) (hs : cs.size = n * size) :
    Own1 (w.alloc (.cells cs et)) base et size (.slice (some ⟨w.heap.size, 0, none⟩) n n) n cs.toList := World.ownsRow_lit (size := size) (e := et) w cs n hb hm hs
end

section
variable {P : Program} {st et : TypeId} {size bytes : Nat} {z : Value} (w : World)
theorem run_app1_nilsrc (E : ElemOk P st et size bytes z) (base : Nat) (ty : TypeId) (v : Value) (n : Nat) (xs : List Value) (hown : Own1 w base et size v n xs) (c : Nat) :
    (Builtin.append_ #[st, st] ty #[v, .slice none 0 c]).run P w = .ok v w := by
  obtain ⟨i, hi, _, _, _⟩ := info_parts E.info
  rcases hown.2 with ⟨rfl, rfl⟩ | ⟨g, cap, cur, rfl, _, _, hnc, _⟩
  · simp [Builtin.append_, run_underlying E.slice, sizeOf, typeInfo, hi, Builtin.lenOf, Builtin.firstCells]
  · simp [Builtin.append_, run_underlying E.slice, sizeOf, typeInfo, hi, Builtin.lenOf, Builtin.firstCells, hnc, storeCells]

/-- 'append(v, x...)': v the call's own; x's m elements are the cells 'news'. -/
theorem run_app1 (E : ElemOk P st et size bytes z) (base : Nat) (ty : TypeId) (v : Value) (n : Nat) (xs : List Value) (hown : Own1 w base et size v n xs) (X : Option Addr) (m c : Nat) (news : List Value)
    (hl : news.length = m * size) (hr : 0 < m → ∃ b off, X = some ⟨b, off, none⟩ ∧ ∀ j, j < m * size → w.cell? ⟨b, off + j, none⟩ = news[j]?) (h1 : ∀ u ∈ news, u.oneCell' = true)
    (h63 : n + m ≤ maxLen) (hbytes : (n + m) * bytes ≤ 140737488355328) (hbase : base ≤ w.heap.size) :
    ∃ v' w', (Builtin.append_ #[st, st] ty #[v, .slice X m c]).run P w = .ok v' w' ∧ Own1 w' base et size v' (n + m) (xs ++ news) ∧ w.grownBy w' v.ownBlock ∧
      (v'.ownBlock = v.ownBlock ∨ v'.ownBlock = some w.heap.size) := by
  obtain ⟨i, hi, hz, hs, hb⟩ := info_parts E.info
  rcases Nat.eq_zero_or_pos m with h0 | h0
  · subst h0
    obtain rfl : news = [] := List.eq_nil_of_length_eq_zero (by simpa using hl)
    cases X with
    | none => exact ⟨v, w, run_app1_nilsrc w E base ty v n xs hown c, by simpa using hown, World.grownBy.refl w _, .inl rfl⟩
    | some ad =>
      obtain ⟨v', w', e1, e2, e3, _, e5⟩ := run_append_own_at (P := P) w base st ty et i _ size bytes E.slice hi hz hs hb E.cells E.pos v n xs hown ad 0 c [] (by simp) (by simp) (by simp) h63 hbytes hbase
      exact ⟨v', w', e1, by simpa [Own1] using e2, e3, e5⟩
  · obtain ⟨b, off, rfl, hc⟩ := hr h0
    obtain ⟨v', w', e1, e2, e3, _, e5⟩ := run_append_own_at (P := P) w base st ty et i _ size bytes E.slice hi hz hs hb E.cells E.pos v n xs hown ⟨b, off, none⟩ m c news hl
      (fun j u hu => by
        have hj : j < m * size := by have := (List.getElem?_eq_some_iff.1 hu).1; omega
        rw [Go.WideShapes.add_plain, hc j hj]; exact hu) h1 h63 hbytes hbase
    exact ⟨v', w', e1, e2, e3, e5⟩

theorem wp_app1 (E : ElemOk P st et size bytes z) {o : Oper} {a : Act} {K : Act → World → Prop} {Q : Exit → Act → World → Prop} (s x : Operand)
    (ho : o.op = .call { callee := .builtin .append, args := #[s, x], argTypes := #[st, st] })
    (base : Nat) (v : Value) (n : Nat) (xs : List Value) (hs : a.eval s = v) (hown : Own1 w base et size v n xs) (X : Option Addr) (m c : Nat) (news : List Value) (hx : a.eval x = .slice X m c)
    (hl : news.length = m * size) (hr : 0 < m → ∃ b off, X = some ⟨b, off, none⟩ ∧ ∀ j, j < m * size → w.cell? ⟨b, off + j, none⟩ = news[j]?) (h1 : ∀ u ∈ news, u.oneCell' = true)
    (h63 : n + m ≤ maxLen) (hbytes : (n + m) * bytes ≤ 140737488355328) (hbase : base ≤ w.heap.size)
    (h : ∀ v' w', Own1 w' base et size v' (n + m) (xs ++ news) → w.grownBy w' v.ownBlock → (v'.ownBlock = v.ownBlock ∨ v'.ownBlock = some w.heap.size) → K (a.put o.dst v') w') : o.wp P a w K Q := by
  obtain ⟨v', w', hrun, h2, h3, h4⟩ := run_app1 w E base o.type v n xs hown X m c news hl hr h1 h63 hbytes hbase
  unfold Oper.wp execOp
  simp only [ho, resolve, invoke, builtin, Sem.run_bind, Sem.run_pure, Result.andThen_ok, List.map_toArray, List.map_cons, List.map_nil, hs, hx, hrun]
  exact h v' w' h2 h3 h4

theorem wpList_app1 (E : ElemOk P st et size bytes z) {ops : Array Oper} {rest : List Oper} {o : Oper} {a : Act} {Q : Exit → Act → World → Prop} (hgd : o.guard = none) (s x : Operand)
    (ho : o.op = .call { callee := .builtin .append, args := #[s, x], argTypes := #[st, st] })
    (base : Nat) (v : Value) (n : Nat) (xs : List Value) (hs : a.eval s = v) (hown : Own1 w base et size v n xs) (X : Option Addr) (m c : Nat) (news : List Value) (hx : a.eval x = .slice X m c)
    (hl : news.length = m * size) (hr : 0 < m → ∃ b off, X = some ⟨b, off, none⟩ ∧ ∀ j, j < m * size → w.cell? ⟨b, off + j, none⟩ = news[j]?) (h1 : ∀ u ∈ news, u.oneCell' = true)
    (h63 : n + m ≤ maxLen) (hbytes : (n + m) * bytes ≤ 140737488355328) (hbase : base ≤ w.heap.size)
    (h : ∀ v' w', Own1 w' base et size v' (n + m) (xs ++ news) → w.grownBy w' v.ownBlock → (v'.ownBlock = v.ownBlock ∨ v'.ownBlock = some w.heap.size) → wpList P ops Q rest (a.put o.dst v') w') : wpList P ops Q (o :: rest) a w :=
  wpList_plain hgd fun _ hK => wp_app1 w E s x ho base v n xs hs hown X m c news hx hl hr h1 h63 hbytes hbase fun v' w' h2 h3 h4 => hK _ _ (h v' w' h2 h3 h4)

/-- 'append(v, x)' of one element of one cell: it was laid in a block of its own first. -/
theorem one_src (w : World) (x : Value) (t : TypeId) : 0 < 1 → ∃ b off, (some (⟨w.heap.size, 0, none⟩ : Addr)) = some ⟨b, off, none⟩ ∧ ∀ j, j < 1 * 1 → (w.alloc (.cells #[x] t)).cell? ⟨b, off + j, none⟩ = [x][j]? :=
  fun _ => ⟨_, 0, rfl, fun j hj => by
    obtain rfl : j = 0 := by omega
    exact (Blk.new w t #[x]).cell 0⟩
end
theorem Own1.below_app {w w' : World} {base n size : Nat} {et : TypeId} {v : Value} {xs : List Value} (h : Own1 w base et size v n xs) (hg : w.grownBy w' v.ownBlock) (hb : base ≤ w.heap.size) : Below base w w' :=
  (Below.refl base w).grown hg hb fun k e => (World.ownsRow.lt h k e).1
end Go.Proofs.Ythllemlkdflhkaa
