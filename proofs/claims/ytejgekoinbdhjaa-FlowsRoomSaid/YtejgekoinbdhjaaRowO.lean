/- append of elements that says where the new row lies. -/
import Derived.Test.YtejgekoinbdhjaaLib
import Derived.Test.YtejgekoinbdhjaaChg
namespace Go.Proofs.Ytejgekoinbdhjaa
set_option linter.unusedVariables false
open Go Go.RowKit Go.Maps

theorem grown_cellO {w w' : World} {row : Option Nat} (h : w.grownBy w' row) {b o : Nat} (hb : b < w.heap.size) (hne : row ≠ some b) : w'.cell? ⟨b, o, none⟩ = w.cell? ⟨b, o, none⟩ := by
  unfold World.cell?
  rw [h.block b hb (fun e => hne e.symm)]
section
variable {α : Type} {R : RK α} {w w' : World} {S S' : Nat → Prop} {lo base n : Nat} {A : Option Addr} {et : TypeId} {v : Value} {l : List α}
variable {P : Program} {st : TypeId} {bytes : Nat} {z : Value} {o : Oper} {a : Act} {Q : Exit → Act → World → Prop} {KQ : Act → World → Prop}
/-- 'append(v, x...)': x reads as the elements m. -/
theorem wp_rowsO (E : ElemOk P st et R.size bytes z) (s x : Operand)
    (ho : o.op = .call { callee := .builtin .append, args := #[s, x], argTypes := #[st, st] }) (h : Rows R w lo base et v l) (hs : a.eval s = v) {X : Option Addr} {k c : Nat} {m : List α} (hx : a.eval x = .slice X k c) (hm : Seen R w S X k m)
    (hok : ∀ e ∈ m, R.ok w (fun b => lo ≤ b ∧ b < w.heap.size ∧ v.ownBlock ≠ some b) e) (h63 : l.length + k ≤ maxLen) (hbytes : (l.length + k) * bytes ≤ 140737488355328) (hbase : base ≤ w.heap.size)
    (hK : ∀ v' w', Rows R w' lo base et v' (l ++ m) → w.grownBy w' v.ownBlock → (v'.ownBlock = v.ownBlock ∨ v'.ownBlock = some w.heap.size) → KQ (a.put o.dst v') w') : o.wp P a w KQ Q := by
  have hml := hm.1
  refine wp_app1 w E s x ho base v l.length (l.flatMap R.cel) hs h.1 X k c (m.flatMap R.cel) hx (by rw [flat_len, hml]) (fun hk => ?_) ?_ h63 hbytes hbase ?_
  · obtain ⟨b, off, e, _, hc⟩ := hm.2.2 hk
    refine ⟨b, off, e, fun j hj => ?_⟩
    have hdiv : j / R.size < m.length := by rw [hml]; exact Nat.div_lt_of_lt_mul (by rw [Nat.mul_comm]; exact hj)
    have hmod : j % R.size < R.size := Nat.mod_lt _ R.pos
    have e1 : j / R.size * R.size + j % R.size = j := Nat.div_add_mod' j R.size
    have h1 := hc (j / R.size) _ (List.getElem?_eq_getElem hdiv) (j % R.size) hmod
    have h2 := flat_get R m (j / R.size) (j % R.size) _ (List.getElem?_eq_getElem hdiv) hmod
    rw [e1] at h1 h2
    rw [h1, h2]
  · intro u hu
    obtain ⟨a, _, hu⟩ := List.mem_flatMap.1 hu
    exact R.one a u hu
  · intro v' w' h1 h2 h3
    refine hK v' w' ⟨?_, ?_⟩ h2 h3
    · rw [List.flatMap_append, List.length_append, hml]; exact h1
    · intro e he
      have hold : R.ok w (fun b => lo ≤ b ∧ b < w.heap.size ∧ v.ownBlock ≠ some b) e := by
        rcases List.mem_append.1 he with he | he
        · exact h.2 e he
        · exact hok e he
      refine R.more (R.keep hold fun p hp => ?_) fun b q => ⟨q.1, Nat.lt_of_lt_of_le q.2.1 h2.size, ?_⟩
      · unfold World.cell?
        rw [h2.block p.block hp.2.1 (fun e => hp.2.2 e.symm)]
      · rcases h3 with e | e
        · rw [e]; exact q.2.2
        · rw [e]; intro e2; injection e2 with e2; have := q.2.1; omega
end
theorem own_ne_blk {w : World} {base size n g : Nat} {et T : TypeId} {v : Value} {xs : List Value} {cs : Array Value} (h : Own1 w base et size v n xs) (hb : Blk w g T cs) (hne : et ≠ T) : v.ownBlock ≠ some g := by
  intro e
  obtain ⟨_, h2 | ⟨r, cap, cur, q, _, hh, _⟩⟩ := h
  · rw [h2.1] at e; cases e
  · rw [q] at e
    injection e with e
    have e : r = g := e
    unfold Blk at hb
    rw [e, hb] at hh
    injection hh with hh
    injection hh with _ hh
    exact hne hh.symm
theorem own_ne_ent {P : Program} {K : TypeId} {w : World} {base size n b : Nat} {et : TypeId} {v : Value} {xs : List Value} {l : List (Value × Value)} (h : Own1 w base et size v n xs) (hb : Ent P K w b l) : v.ownBlock ≠ some b := by
  intro e
  obtain ⟨_, h2 | ⟨r, cap, cur, q, _, hh, _⟩⟩ := h
  · rw [h2.1] at e; cases e
  · rw [q] at e
    injection e with e
    have e : r = b := e
    obtain ⟨es, c, hx, _⟩ := hb
    rw [e, hx] at hh
    cases hh
theorem Chg.of_grownO {w w' : World} {X : Nat → Prop} {row : Option Nat} (h : w.grownBy w' row) (hr : ∀ k, row = some k → X k) : Chg w w' X :=
  ⟨h.os, h.tape, h.output, h.size, fun k hk hx => h.block k hk fun e => hx (hr k e.symm)⟩
end Go.Proofs.Ytejgekoinbdhjaa
