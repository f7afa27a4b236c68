/- flows: a table; New, time, Len, Counts, gone. -/
import Derived.Test.YtgdeecmhhbdjgaaFlC
namespace Go.Proofs.Ytgdeecmhhbdjgaa
set_option linter.unusedVariables false
open Go Go.RowKit Go.Maps

def keyE (dt : Nat → EnV) (k : Nat) : Value × Value := (floV (dt k).fl, .pointer (some ⟨k, 0, none⟩))
/-- block g is a table: its map in block m, its ring from e, on which l stand. -/
structure RingV (w : World) (g m e : Nat) (ro idl now ca we : Int) (l : List Nat) (dt : Nat → EnV) (bk nx : Nat → Nat) : Prop where
  blk : Blk w g 166 (tabC ro idl now m e ca we)
  nod : Nod w (e :: l) dt bk nx
  cyc : Cyc bk nx e l
  nd : (e :: l).Nodup
  ent : ∃ A, Ent Try.prog 159 w m A ∧ A.Perm (l.map (keyE dt))
  ok : ∀ k ∈ l, FloOk (dt k).fl
theorem ent_blk_ne {K : TypeId} {w : World} {b x : Nat} {l : List (Value × Value)} {T : TypeId} {cs : Array Value} (h : Ent Try.prog K w b l) (hx : Blk w x T cs) : x ≠ b := by
  intro e
  obtain ⟨es, c, h2, _⟩ := h
  unfold Blk at hx
  rw [e, h2] at hx
  cases hx
section
variable {w w' : World} {g m e : Nat} {ro idl now ca we : Int} {l : List Nat} {dt : Nat → EnV} {bk nx : Nat → Nat}
theorem RingV.gN (h : RingV w g m e ro idl now ca we l dt bk nx) : g ∉ e :: l := fun q => blk_apart h.blk (h.nod g q) (by decide) rfl
theorem RingV.mN (h : RingV w g m e ro idl now ca we l dt bk nx) : m ∉ e :: l := fun q => by
  obtain ⟨A, h1, _⟩ := h.ent
  exact ent_blk_ne h1 (h.nod m q) rfl
theorem RingV.gm (h : RingV w g m e ro idl now ca we l dt bk nx) : g ≠ m := by
  obtain ⟨A, h1, _⟩ := h.ent
  exact ent_blk_ne h1 h.blk
theorem RingV.chg {X : Nat → Prop} (h : RingV w g m e ro idl now ca we l dt bk nx) (hc : Chg w w' X) (h1 : ¬ X g) (h2 : ¬ X m) (h3 : ∀ k ∈ e :: l, ¬ X k) : RingV w' g m e ro idl now ca we l dt bk nx := by
  obtain ⟨A, ha, hp⟩ := h.ent
  exact ⟨hc.blk h.blk h1, h.nod.chg hc h3, h.cyc, h.nd, ⟨A, hc.ent ha h2, hp⟩, h.ok⟩
theorem RingV.fwd (h : RingV w g m e ro idl now ca we l dt bk nx) (hb : Below w.heap.size w w') : RingV w' g m e ro idl now ca we l dt bk nx := h.chg (Chg.of_below (X := fun _ => False) hb) id id (fun _ _ q => q)
theorem RingV.lt (h : RingV w g m e ro idl now ca we l dt bk nx) : g < w.heap.size ∧ m < w.heap.size ∧ ∀ k ∈ e :: l, k < w.heap.size := by
  obtain ⟨A, ha, hp⟩ := h.ent
  exact ⟨h.blk.lt, ha.lt, fun k hk => (h.nod k hk).lt⟩
/-- a number of the table is stored. -/
theorem RingV.tab (h : RingV w g m e ro idl now ca we l dt bk nx) {i : Nat} {v : Value} {ro2 idl2 now2 ca2 we2 : Int} (hs : (tabC ro idl now m e ca we).setIfInBounds i v = tabC ro2 idl2 now2 m e ca2 we2) :
    RingV (w.setCell ⟨g, i, none⟩ v) g m e ro2 idl2 now2 ca2 we2 l dt bk nx ∧ Chg w (w.setCell ⟨g, i, none⟩ v) (fun k => k = g) := by
  obtain ⟨h1, h2⟩ := blk_store h.blk i v
  have hc : Chg w (w.setCell ⟨g, i, none⟩ v) (fun k => k = g) := Chg.of_grown h2 rfl
  rw [hs] at h1
  obtain ⟨A, ha, hp⟩ := h.ent
  exact ⟨⟨h1, h.nod.chg hc (fun k hk q => h.gN (q ▸ hk)), h.cyc, h.nd, ⟨A, hc.ent ha h.gm.symm, hp⟩, h.ok⟩, hc⟩
theorem flo_inj {f f' : Flo} (h : floV f = floV f') : f = f' := by
  unfold floV at h
  injection h with h
  simp at h
  cases f; cases f'
  simp_all
/-- what the map gives of a flow. -/
theorem RingV.find (h : RingV w g m e ro idl now ca we l dt bk nx) (f : Flo) (hf : FloOk f) :
    (∃ k ∈ l, (dt k).fl = f ∧ (Instr.lookup 164 (.map (some m)) (floV f) false).run Try.prog w = .ok (.pointer (some ⟨k, 0, none⟩)) w) ∨
    ((∀ k ∈ l, (dt k).fl ≠ f) ∧ (Instr.lookup 164 (.map (some m)) (floV f) false).run Try.prog w = .ok (.pointer none) w) := by
  obtain ⟨A, ha, hp⟩ := h.ent
  obtain ⟨kl, hk⟩ := flo_lit f hf
  by_cases hm : ∃ k ∈ l, (dt k).fl = f
  · obtain ⟨k, hk1, hk2⟩ := hm
    refine .inl ⟨k, hk1, hk2, ?_⟩
    exact ha.hit0 fkey fmap_und hk (hp.mem_iff.2 (List.mem_map.2 ⟨k, hk1, by unfold keyE; rw [hk2]⟩))
  · refine .inr ⟨fun k hk1 hk2 => hm ⟨k, hk1, hk2⟩, ?_⟩
    refine ha.miss0 fkey fmap_und flink_zero hk fun q => ?_
    obtain ⟨x, hx, hx2⟩ := List.mem_map.1 q
    obtain ⟨k, hk1, rfl⟩ := List.mem_map.1 (hp.mem_iff.1 hx)
    exact hm ⟨k, hk1, flo_inj hx2⟩
end
def zerC : Array Value := #[.int .i64 0, .int .i64 0, .int .i64 0, .map none, .pointer none, .int .i64 0, .int .i64 0]
end Go.Proofs.Ytgdeecmhhbdjgaa
