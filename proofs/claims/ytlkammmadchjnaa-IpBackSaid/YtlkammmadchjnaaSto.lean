/- Stores into blocks that are known, their worlds left open; results that lie in a block. -/
import Derived.Test.YtlkammmadchjnaaBlk
import Derived.Test.YtlkammmadchjnaaDraw2
import Derived.Test.YtlkammmadchjnaaOpen2
import Derived.Laws.IdiomCopy
namespace Go.Proofs.Ytlkammmadchjnaa
set_option linter.unusedVariables false
open Go Go.RowKit

section
variable {P : Program} {w w' : World} {g B n : Nat} {T : TypeId} {cs : Array Value}
theorem Byt.grownB {row : Nat} {A : Option Addr} {l : List UInt8} (h : Byt w B A n l) (hg : w.grownBy w' (some row)) (hB : B ≤ w.heap.size) (hr : B ≤ row) : Byt w' B A n l :=
  h.keep fun p hp => by
    unfold World.cell?
    rw [hg.block p.block (by omega) (by simp; omega)]
theorem Below.of_grown {B row : Nat} (hg : w.grownBy w' (some row)) (hB : B ≤ w.heap.size) (hr : B ≤ row) : Below B w w' :=
  ⟨hg.os, hg.tape, hg.output, hg.size, fun k hk => hg.block k (by omega) (by simp; omega)⟩
/-- a store of one cell. -/
theorem blk_store (h : Blk w g T cs) (i : Nat) (v : Value) : Blk (w.setCell ⟨g, i, none⟩ v) g T (cs.setIfInBounds i v) ∧ w.grownBy (w.setCell ⟨g, i, none⟩ v) (some g) :=
  ⟨h.set_ i v, grown_setCell (grown_refl w _) (.inl rfl) v⟩
theorem blk_setCells : ∀ (vs : List Value) (o : Nat) (w : World) (l : List Value), Blk w g T l.toArray → o + vs.length = l.length → Blk (w.setCells g o vs) g T (l.take o ++ vs).toArray ∧ w.grownBy (w.setCells g o vs) (some g)
  | [], o, w, l, h, hl => by
    have hl' : l.length = o := by simpa using hl.symm
    rw [World.setCells, List.append_nil, List.take_of_length_le (by omega)]
    exact ⟨h, grown_refl w _⟩
  | v :: r, o, w, l, h, hl => by
    have hl' : o + (r.length + 1) = l.length := by simpa using hl
    rw [World.setCells]
    have h1 := h.set_ o v
    rw [List.setIfInBounds_toArray] at h1
    obtain ⟨h2, h3⟩ := blk_setCells r (o + 1) _ _ h1 (by rw [List.length_set]; omega)
    refine ⟨?_, grown_trans (blk_store h o v).2 h3⟩
    have e : (l.set o v).take (o + 1) ++ r = l.take o ++ v :: r := by
      rw [List.take_add_one, List.take_set_of_le (Nat.le_refl _), List.getElem?_set_self (by omega)]
      simp
    rw [e] at h2
    exact h2
/-- a store of a whole struct into its block. -/
theorem wp_store_blk {op : Oper} {a : Act} {K : Act → World → Prop} {Q : Exit → Act → World → Prop} {cells : Array Value} (h : Blk w g T cs) (ty : TypeId) (x y : Operand) (ho : op.op = .store ty x y)
    (hx : a.eval x = .pointer (some ⟨g, 0, none⟩)) (hy : a.eval y = .agg cells) (hs : cells.size = cs.size) (hi : (P.info? ty).map (·.size) = some cells.size) (h1 : cells.all (·.oneCell') = true)
    (hk : ∀ w', Blk w' g T cells → w.grownBy w' (some g) → K (a.put op.dst undef) w') : op.wp P a w K Q := by
  have hb := h
  obtain ⟨e1, e2⟩ := blk_setCells (T := T) (g := g) cells.toList 0 w cs.toList h (by simp [hs])
  simp at e1
  refine wp_store_mid ty x y ho g 0 cells hx hy (fun j hj => ?_) hi h1 (hk _ e1 e2)
  rw [Nat.zero_add]
  exact ⟨by rw [h.cell, Array.getElem?_eq_getElem (by omega)]; rfl, h.frozen j⟩
theorem wpList_store_blk {ops : Array Oper} {rest : List Oper} {op : Oper} {a : Act} {Q : Exit → Act → World → Prop} {cells : Array Value} (hgd : op.guard = none) (h : Blk w g T cs) (ty : TypeId) (x y : Operand) (ho : op.op = .store ty x y)
    (hx : a.eval x = .pointer (some ⟨g, 0, none⟩)) (hy : a.eval y = .agg cells) (hs : cells.size = cs.size) (hi : (P.info? ty).map (·.size) = some cells.size) (h1 : cells.all (·.oneCell') = true)
    (hk : ∀ w', Blk w' g T cells → w.grownBy w' (some g) → wpList P ops Q rest (a.put op.dst undef) w') : wpList P ops Q (op :: rest) a w :=
  wpList_plain hgd fun _ hK => wp_store_blk h ty x y ho hx hy hs hi h1 fun w' h2 h3 => hK _ _ (hk w' h2 h3)
theorem load_blk {ty : TypeId} {d : TypeDesc} (h : Blk w g T cs) (hu : P.underlying ty = some d) (hd : d.isRow = true) (hi : (P.info? ty).map (·.size) = some cs.size) : (loadVar ty ⟨g, 0, none⟩).run P w = .ok (.agg cs) w := by
  have := run_loadVar_mid (P := P) w g 0 ty cs.toList d (fun j v hj => by rw [Nat.zero_add, h.cell]; simpa using hj) hu hd (by simpa using hi)
  simpa using this
end
theorem results_c {P : Program} {fn : Func} {a : Tmp} {ty : TypeId} {w : World} {ad : Addr} {v : Value} (h : fn.results = #[.cell a ty]) (tmps : Array Value) (ha : tmps.getD a undef = .pointer (some ad)) (hl : (loadVar ty ad).run P w = .ok v w) :
    (results fn tmps).run P w = .ok v w := by
  have ha2 := ha
  simp only [Array.getD_eq_getD_getElem?] at ha2
  simp [results, h, ha2, asAddr, hl]
theorem results_ct {P : Program} {fn : Func} {a u : Tmp} {ty : TypeId} {w : World} {ad : Addr} {v : Value} (h : fn.results = #[.cell a ty, .tmp u]) (tmps : Array Value) (ha : tmps.getD a undef = .pointer (some ad)) (hl : (loadVar ty ad).run P w = .ok v w) :
    (results fn tmps).run P w = .ok (.tuple #[v, tmps.getD u undef]) w := by
  have ha2 := ha
  simp only [Array.getD_eq_getD_getElem?] at ha2
  simp [results, h, ha2, asAddr, hl]
theorem results_ctt {P : Program} {fn : Func} {a u u2 : Tmp} {ty : TypeId} {w : World} {ad : Addr} {v : Value} (h : fn.results = #[.cell a ty, .tmp u, .tmp u2]) (tmps : Array Value) (ha : tmps.getD a undef = .pointer (some ad)) (hl : (loadVar ty ad).run P w = .ok v w) :
    (results fn tmps).run P w = .ok (.tuple #[v, tmps.getD u undef, tmps.getD u2 undef]) w := by
  have ha2 := ha
  simp only [Array.getD_eq_getD_getElem?] at ha2
  simp [results, h, ha2, asAddr, hl]
end Go.Proofs.Ytlkammmadchjnaa
