import Derived.Test.YtgdeecmhhbdjgaaGreatMVipActs1
import Derived.Test.YtgdeecmhhbdjgaaGreatMVipActs2
import Derived.BigGuardPart
import Derived.Deep.Cut
import Derived.WalkSpells
import Derived.DeepKeys4
import Derived.BigRegion
/- flows: the keys of the map. -/
namespace Go.Proofs.YtgdeecmhhbdjgaaGreat
set_option linter.unusedVariables false
open Go Go.RowKit Go.Maps

structure Flo where
  pr : Int
  src : Int
  dst : Int
  sp : Int
  dp : Int
deriving DecidableEq
def floV (f : Flo) : Value := .agg #[.int .i64 f.pr, .int .u32 f.src, .int .u32 f.dst, .int .i64 f.sp, .int .i64 f.dp]
def FloOk (f : Flo) : Prop := (Lit.int .i64 f.pr).wf = true ∧ (Lit.int .u32 f.src).wf = true ∧ (Lit.int .u32 f.dst).wf = true ∧ (Lit.int .i64 f.sp).wf = true ∧ (Lit.int .i64 f.dp).wf = true
theorem fkey : Keyed Tryz.prog 84 := Keyed.of_law (deep_law_laid (m := 3) (by kernel_rfl) (by decide) (of_decide_eq_true (by kernel_rfl)) (by kernel_rfl) (by kernel_rfl))
theorem fmap_und : Tryz.prog.underlying 181 = some (.map 84 180) := Tryz.underlying181
@[go_sem] theorem make_fmap (w : World) : (Instr.makeMap 181 none).run Tryz.prog w = .ok (.map (some w.heap.size)) (w.alloc (.map #[] 0)) := rfl
theorem flink_zero (w : World) : (zeroValue 180).run Tryz.prog w = .ok (.pointer none) w := by kernel_rfl
theorem keyLits_int {d : Nat} {t : TypeId} {q : IntKind} (h : Tryz.prog.underlying t = some (.int q)) {n : Int} (hw : (Lit.int q n).wf = true) : Tryz.prog.keyLits (d + 1) t [.int q n] = some [.int q n] := by
  unfold Program.keyLits
  simp [h, hw]
theorem flo_lit (f : Flo) (h : FloOk f) : ∃ kl, keyOf Tryz.prog 84 (floV f) = some kl := by
  obtain ⟨h1, h2, h3, h4, h5⟩ := h
  have hs : ∃ m, Tryz.prog.types.size = m + 2 := ⟨Tryz.prog.types.size - 2, by kernel_rfl⟩
  obtain ⟨m, hm⟩ := hs
  have hkt : Tryz.prog.keyType 84 = true := by kernel_rfl
  have c5 : Tryz.prog.cellsOf 84 = 5 := by kernel_rfl
  have c1 : Tryz.prog.cellsOf 3 = 1 := by kernel_rfl
  have c2 : Tryz.prog.cellsOf 22 = 1 := by kernel_rfl
  unfold keyOf
  simp only [Tryz.underlying84]
  rw [if_pos (by simp [hkt, floV, Value.formed, Tryz.underlying84, c5]), hm]
  unfold Program.keyLits
  simp only [Tryz.underlying84, Value.cells, floV]
  rw [if_pos ⟨by rw [c5]; rfl, by kernel_rfl⟩]
  simp only [List.mapM_cons, List.mapM_nil, c1, c2]
  simp [keyLits_int Tryz.underlying3, keyLits_int Tryz.underlying22, h1, h2, h3, h4, h5]
end Go.Proofs.YtgdeecmhhbdjgaaGreat

/- flows: links, out. -/
namespace Go.Proofs.YtgdeecmhhbdjgaaGreat
set_option linter.unusedVariables false
open Go Go.RowKit Go.Maps

structure EnV where
  fl : Flo
  be : Int
  la : Int
deriving DecidableEq
def lnkC (e : EnV) (b n : Nat) : Array Value := #[.int .i64 e.fl.pr, .int .u32 e.fl.src, .int .u32 e.fl.dst, .int .i64 e.fl.sp, .int .i64 e.fl.dp, .int .i64 e.be, .int .i64 e.la, .pointer (some ⟨b, 0, none⟩), .pointer (some ⟨n, 0, none⟩)]
def Nod (w : World) (N : List Nat) (dt : Nat → EnV) (bk nx : Nat → Nat) : Prop := ∀ k ∈ N, Blk w k 186 (lnkC (dt k) (bk k) (nx k))
def upd {α : Type} (f : Nat → α) (a : Nat) (b : α) : Nat → α := fun k => if k = a then b else f k
theorem upd_same {α : Type} (f : Nat → α) (a : Nat) (b : α) : upd f a b a = b := by unfold upd; rw [if_pos rfl]
theorem upd_other {α : Type} (f : Nat → α) {a k : Nat} (b : α) (h : k ≠ a) : upd f a b k = f k := by unfold upd; rw [if_neg h]
section
variable {w w' : World} {N : List Nat} {dt : Nat → EnV} {bk nx : Nat → Nat}
theorem Nod.chg {X : Nat → Prop} (h : Nod w N dt bk nx) (hc : Chg w w' X) (hX : ∀ k ∈ N, ¬ X k) : Nod w' N dt bk nx := fun k hk => hc.blk (h k hk) (hX k hk)
theorem Nod.next (h : Nod w N dt bk nx) {b : Nat} (hb : b ∈ N) (n : Nat) : Nod (w.setCell ⟨b, 8, none⟩ (.pointer (some ⟨n, 0, none⟩))) N dt bk (upd nx b n) ∧ w.grownBy (w.setCell ⟨b, 8, none⟩ (.pointer (some ⟨n, 0, none⟩))) (some b) := by
  obtain ⟨h1, h2⟩ := blk_store (h b hb) 8 (.pointer (some ⟨n, 0, none⟩))
  refine ⟨fun k hk => ?_, h2⟩
  by_cases e : k = b
  · subst e
    rw [upd_same]
    exact h1
  · rw [upd_other _ _ e]
    exact (h k hk).grown h2 (by simpa using e)
theorem Nod.back (h : Nod w N dt bk nx) {b : Nat} (hb : b ∈ N) (n : Nat) : Nod (w.setCell ⟨b, 7, none⟩ (.pointer (some ⟨n, 0, none⟩))) N dt (upd bk b n) nx ∧ w.grownBy (w.setCell ⟨b, 7, none⟩ (.pointer (some ⟨n, 0, none⟩))) (some b) := by
  obtain ⟨h1, h2⟩ := blk_store (h b hb) 7 (.pointer (some ⟨n, 0, none⟩))
  refine ⟨fun k hk => ?_, h2⟩
  by_cases e : k = b
  · subst e
    rw [upd_same]
    exact h1
  · rw [upd_other _ _ e]
    exact (h k hk).grown h2 (by simpa using e)
theorem Nod.last (h : Nod w N dt bk nx) {b : Nat} (hb : b ∈ N) (z : Int) : Nod (w.setCell ⟨b, 6, none⟩ (.int .i64 z)) N (upd dt b { dt b with la := z }) bk nx ∧ w.grownBy (w.setCell ⟨b, 6, none⟩ (.int .i64 z)) (some b) := by
  obtain ⟨h1, h2⟩ := blk_store (h b hb) 6 (.int .i64 z)
  refine ⟨fun k hk => ?_, h2⟩
  by_cases e : k = b
  · subst e
    rw [upd_same]
    exact h1
  · rw [upd_other _ _ e]
    exact (h k hk).grown h2 (by simpa using e)
theorem Nod.be (h : Nod w N dt bk nx) {b : Nat} (hb : b ∈ N) (z : Int) : Nod (w.setCell ⟨b, 5, none⟩ (.int .i64 z)) N (upd dt b { dt b with be := z }) bk nx ∧ w.grownBy (w.setCell ⟨b, 5, none⟩ (.int .i64 z)) (some b) := by
  obtain ⟨h1, h2⟩ := blk_store (h b hb) 5 (.int .i64 z)
  refine ⟨fun k hk => ?_, h2⟩
  by_cases e : k = b
  · subst e
    rw [upd_same]
    exact h1
  · rw [upd_other _ _ e]
    exact (h k hk).grown h2 (by simpa using e)
end
set_option maxRecDepth 100000 in
set_option maxHeartbeats 2000000 in
theorem out_any (w : World) (N : List Nat) (dt : Nat → EnV) (bk nx : Nat → Nat) (h : Nod w N dt bk nx) (x : Nat) (hx : x ∈ N) (hb : bk x ∈ N) (hn : nx x ∈ N) :
    Calls Tryz.prog 118 #[.pointer (some ⟨x, 0, none⟩)] w fun e w' => e = .returned (.tuple #[]) ∧ Nod w' N dt (upd bk (nx x) (bk x)) (upd nx (bk x) (nx x)) ∧ Chg w w' (fun k => k ∈ N) := by
  have c7 : w.cell? ⟨x, 7, none⟩ = some (.pointer (some ⟨bk x, 0, none⟩)) := (h x hx).cellv 7 rfl
  have c8 : w.cell? ⟨x, 8, none⟩ = some (.pointer (some ⟨nx x, 0, none⟩)) := (h x hx).cellv 8 rfl
  have ltx := (h x hx).lt
  have ltb := (h _ hb).lt
  have ltn := (h _ hn).lt
  have d7 : w.cell? ⟨nx x, 7, none⟩ = some (.pointer (some ⟨bk (nx x), 0, none⟩)) := (h _ hn).cellv 7 rfl
  have d8 : w.cell? ⟨bk x, 8, none⟩ = some (.pointer (some ⟨nx (bk x), 0, none⟩)) := (h _ hb).cellv 8 rfl
  have f7 := (h _ hn).frozen 7
  have f8 := (h _ hb).frozen 8
  obtain ⟨h1, g1⟩ := h.next hb (nx x)
  obtain ⟨h2, g2⟩ := h1.back hn (bk x)
  have hC : Chg w _ (fun k => k ∈ N) := (Chg.of_grown (X := fun k => k ∈ N) g1 hb).trans (Chg.of_grown (X := fun k => k ∈ N) g2 hn) (fun _ _ q => q)
  replace h2 := Lib.hid h2
  replace hC := Lib.hid hC
  clear h1 g1 g2 h hx hb hn
  generalize bk x = b at *
  generalize nx x = n at *
  go_enter Tryz.func118, Tryz.ntmps118
  go_region
  go_end0
  exact ⟨rfl, h2.out.chg (Chg.of_below (X := fun _ => False) (Below.refl _ _).drew) (fun _ _ q => q), hC.out.trans (Chg.of_below (X := fun _ => False) (Below.refl _ _).drew) (fun _ _ q => q.elim)⟩
def tabC (room idle now : Int) (m e : Nat) (came went : Int) : Array Value := #[.int .i64 room, .int .i64 idle, .int .i64 now, .map (some m), .pointer (some ⟨e, 0, none⟩), .int .i64 came, .int .i64 went]
theorem blk_apart {w : World} {a b : Nat} {T U : TypeId} {cs ds : Array Value} (h : Blk w a T cs) (k : Blk w b U ds) (hn : T ≠ U) : a ≠ b := by
  intro e
  subst e
  unfold Blk at h k
  rw [h] at k
  injection k with k
  injection k with _ k
  exact hn k
set_option maxRecDepth 100000 in
set_option maxHeartbeats 4000000 in
theorem last_any (w : World) (g : Nat) (room idle now : Int) (m e : Nat) (came went : Int) (hg : Blk w g 183 (tabC room idle now m e came went)) (N : List Nat) (dt : Nat → EnV) (bk nx : Nat → Nat) (h : Nod w N dt bk nx) (x : Nat) (hx : x ∈ N) (he : e ∈ N) (hb : bk e ∈ N) (hxe : x ≠ e) :
    Calls Tryz.prog 119 #[.pointer (some ⟨g, 0, none⟩), .pointer (some ⟨x, 0, none⟩)] w fun en w' => en = .returned (.tuple #[]) ∧ Nod w' N (upd dt x { dt x with la := now }) (upd (upd bk x (bk e)) e x) (upd (upd nx x e) (bk e) x) ∧ Chg w w' (fun k => k ∈ N) := by
  have hgN : g ∉ N := fun q => blk_apart hg (h g q) (by decide) rfl
  have c2 : w.cell? ⟨g, 2, none⟩ = some (.int .i64 now) := hg.cellv 2 rfl
  have ltg := hg.lt
  have ltx := (h x hx).lt
  have c6 : w.cell? ⟨x, 6, none⟩ = some (.int .i64 (dt x).la) := (h x hx).cellv 6 rfl
  have f6 := (h x hx).frozen 6
  obtain ⟨h1, g1⟩ := h.last hx now
  have hC1 := Chg.of_grown (X := fun k => k ∈ N) g1 hx
  replace h1 := Lib.hid h1
  replace hC1 := Lib.hid hC1
  go_enter Tryz.func119, Tryz.ntmps119
  go_upto_region 1 with (fail)
  replace h1 := h1.out
  replace hC1 := hC1.out
  have hg1 := hC1.blk hg hgN
  clear g1 c2 c6 f6 ltg ltx h
  generalize w.setCell ⟨x, 6, none⟩ (.int .i64 now) = w1 at *
  have c4 : w1.cell? ⟨g, 4, none⟩ = some (.pointer (some ⟨e, 0, none⟩)) := hg1.cellv 4 rfl
  have ltg := hg1.lt
  have ltx := (h1 x hx).lt
  have lte := (h1 e he).lt
  have c7 : w1.cell? ⟨x, 7, none⟩ = some (.pointer (some ⟨bk x, 0, none⟩)) := (h1 x hx).cellv 7 rfl
  have c8 : w1.cell? ⟨x, 8, none⟩ = some (.pointer (some ⟨nx x, 0, none⟩)) := (h1 x hx).cellv 8 rfl
  have e7 : w1.cell? ⟨e, 7, none⟩ = some (.pointer (some ⟨bk e, 0, none⟩)) := (h1 e he).cellv 7 rfl
  have f7 := (h1 x hx).frozen 7
  have f8 := (h1 x hx).frozen 8
  obtain ⟨h2, g2⟩ := h1.back hx (bk e)
  obtain ⟨h3, g3⟩ := h2.next hx e
  have hC3 : Chg w _ (fun k => k ∈ N) := (hC1.trans (Chg.of_grown (X := fun k => k ∈ N) g2 hx) (fun _ _ q => q)).trans (Chg.of_grown (X := fun k => k ∈ N) g3 hx) (fun _ _ q => q)
  replace h3 := Lib.hid h3
  replace hC3 := Lib.hid hC3
  clear h2 g2 g3 hC1 hg1 h1
  obtain ⟨b, hbe⟩ : ∃ b, b = bk e := ⟨_, rfl⟩
  rw [← hbe] at h3 hC3 e7 hb
  have hbx : (upd bk x b) e = b := by rw [upd_other _ _ hxe.symm, hbe]
  replace hbx := Lib.hid hbx
  replace hbe := Lib.hid hbe
  go_region
  go_upto_region 2 with (fail)
  replace h3 := h3.out.chg (Chg.of_below (X := fun _ => False) (Below.refl _ _).drew) (fun _ _ q => q)
  replace hC3 := hC3.out.trans (Chg.of_below (X := fun _ => False) (Below.refl _ _).drew) (fun _ _ q => q.elim)
  have hg3 := hC3.blk hg hgN
  clear c4 ltg ltx lte c7 c8 e7 f7 f8
  generalize World.drew _ = w3 at *
  have c4 : w3.cell? ⟨g, 4, none⟩ = some (.pointer (some ⟨e, 0, none⟩)) := hg3.cellv 4 rfl
  have ltg := hg3.lt
  have ltx := (h3 x hx).lt
  have lte := (h3 e he).lt
  have ltb := (h3 b hb).lt
  have x7 : w3.cell? ⟨x, 7, none⟩ = some (.pointer (some ⟨b, 0, none⟩)) := by have q := (h3 x hx).cellv 7 (v := .pointer (some ⟨upd bk x b x, 0, none⟩)) rfl; rw [upd_same bk x b] at q; exact q
  have e7 : w3.cell? ⟨e, 7, none⟩ = some (.pointer (some ⟨b, 0, none⟩)) := by have q := (h3 e he).cellv 7 (v := .pointer (some ⟨upd bk x b e, 0, none⟩)) rfl; rw [hbx.out] at q; exact q
  have b8 : w3.cell? ⟨b, 8, none⟩ = some (.pointer (some ⟨upd nx x e b, 0, none⟩)) := (h3 b hb).cellv 8 rfl
  have f8 := (h3 b hb).frozen 8
  have f7 := (h3 e he).frozen 7
  obtain ⟨h4, g4⟩ := h3.next hb x
  obtain ⟨h5, g5⟩ := h4.back he x
  have hC5 : Chg w _ (fun k => k ∈ N) := (hC3.trans (Chg.of_grown (X := fun k => k ∈ N) g4 hb) (fun _ _ q => q)).trans (Chg.of_grown (X := fun k => k ∈ N) g5 he) (fun _ _ q => q)
  replace h5 := Lib.hid h5
  replace hC5 := Lib.hid hC5
  clear h4 g4 g5 hC3 hg3 h3
  go_region
  go_end0
  rw [← hbe.out]
  exact ⟨rfl, h5.out.chg (Chg.of_below (X := fun _ => False) (Below.refl _ _).drew) (fun _ _ q => q), hC5.out.trans (Chg.of_below (X := fun _ => False) (Below.refl _ _).drew) (fun _ _ q => q.elim)⟩
end Go.Proofs.YtgdeecmhhbdjgaaGreat

/- flows: rings, in plain terms. -/
namespace Go.Proofs.YtgdeecmhhbdjgaaGreat
set_option linter.unusedVariables false

def LnkL (bk nx : Nat → Nat) : List Nat → Prop
  | a :: b :: r => nx a = b ∧ bk b = a ∧ LnkL bk nx (b :: r)
  | _ => True
theorem lnk_split {bk nx : Nat → Nat} : ∀ (u : List Nat) (b : Nat) (v : List Nat), LnkL bk nx (u ++ b :: v) ↔ LnkL bk nx (u ++ [b]) ∧ LnkL bk nx (b :: v)
  | [], b, v => ⟨fun h => ⟨trivial, h⟩, fun h => h.2⟩
  | [a], b, v => by
    constructor
    · rintro ⟨h1, h2, h3⟩; exact ⟨⟨h1, h2, trivial⟩, h3⟩
    · rintro ⟨⟨h1, h2, _⟩, h3⟩; exact ⟨h1, h2, h3⟩
  | a :: c :: u, b, v => by
    have ih := lnk_split (bk := bk) (nx := nx) (c :: u) b v
    constructor
    · rintro ⟨h1, h2, h3⟩
      obtain ⟨h4, h5⟩ := ih.1 h3
      exact ⟨⟨h1, h2, h4⟩, h5⟩
    · rintro ⟨⟨h1, h2, h3⟩, h4⟩
      exact ⟨h1, h2, ih.2 ⟨h3, h4⟩⟩
theorem lnk_congr {bk nx bk' nx' : Nat → Nat} : ∀ {c : List Nat}, LnkL bk nx c → (∀ k ∈ c.dropLast, nx' k = nx k) → (∀ k ∈ c.tail, bk' k = bk k) → LnkL bk' nx' c
  | [], _, _, _ => trivial
  | [a], _, _, _ => trivial
  | a :: b :: r, ⟨h1, h2, h3⟩, hn, hb => by
    refine ⟨(hn a (by simp)).trans h1, (hb b (by simp)).trans h2, lnk_congr h3 (fun k hk => hn k ?_) fun k hk => hb k ?_⟩
    · rw [List.dropLast_cons_cons]; exact List.mem_cons_of_mem _ hk
    · simp only [List.tail_cons] at hk ⊢; exact List.mem_cons_of_mem _ hk
theorem snoc_form {α : Type} (a : α) (l : List α) : ∃ u b, a :: l = u ++ [b] := ⟨(a :: l).dropLast, (a :: l).getLast (by simp), (List.dropLast_concat_getLast (by simp)).symm⟩
def Cyc (bk nx : Nat → Nat) (e : Nat) (l : List Nat) : Prop := LnkL bk nx (e :: l ++ [e])
theorem cyc_at {bk nx : Nat → Nat} {e x : Nat} {p q : List Nat} (h : Cyc bk nx e (p ++ x :: q)) :
    (∃ u, e :: p = u ++ [bk x]) ∧ (∃ v, q ++ [e] = nx x :: v) := by
  obtain ⟨u, b, hu⟩ := snoc_form e p
  have h1 : LnkL bk nx (u ++ b :: (x :: (q ++ [e]))) := by
    have : e :: (p ++ x :: q) ++ [e] = u ++ b :: (x :: (q ++ [e])) := by
      rw [← List.cons_append, hu]; simp
    rw [← this]; exact h
  obtain ⟨_, h2, h3, h4⟩ := (lnk_split u b _).1 h1
  refine ⟨⟨u, by rw [h3, hu]⟩, ?_⟩
  cases q with
  | nil => exact ⟨[], by have := h4.1; simp at this ⊢; exact this.symm⟩
  | cons y q => exact ⟨q ++ [e], by have := h4.1; rw [this]; rfl⟩
theorem cyc_out {bk nx : Nat → Nat} {e x : Nat} {p q : List Nat} (h : Cyc bk nx e (p ++ x :: q)) (hn : (e :: (p ++ x :: q)).Nodup) :
    Cyc (upd bk (nx x) (bk x)) (upd nx (bk x) (nx x)) e (p ++ q) := by
  obtain ⟨⟨u, hu⟩, v, hv⟩ := cyc_at h
  have e1 : e :: (p ++ x :: q) ++ [e] = u ++ bk x :: (x :: (nx x :: v)) := by
    rw [← List.cons_append, hu, ← hv]; simp
  have e2 : e :: (p ++ q) ++ [e] = u ++ bk x :: (nx x :: v) := by
    rw [← List.cons_append, hu, ← hv]; simp
  have h1 := h
  unfold Cyc at h1 ⊢
  rw [e1] at h1
  rw [e2]
  obtain ⟨h2, h3⟩ := (lnk_split u _ _).1 h1
  have h4 := h3.2.2.2.2
  rw [List.nodup_cons, List.mem_append, List.mem_cons] at hn
  obtain ⟨hne, hn⟩ := hn
  rw [List.nodup_append, List.nodup_cons] at hn
  obtain ⟨hp, ⟨hxq, hq⟩, hpq⟩ := hn
  have hep : (e :: p).Nodup := List.nodup_cons.2 ⟨fun q => hne (.inl q), hp⟩
  have hqe : (q ++ [e]).Nodup := by
    rw [List.nodup_append]
    exact ⟨hq, by simp, fun a ha b hb => by rw [List.mem_singleton] at hb; subst hb; exact fun q => hne (.inr (.inr (q ▸ ha)))⟩
  have hbm : bk x ∈ e :: p := by rw [hu]; simp
  have hnm : nx x ∈ q ++ [e] := by rw [hv]; simp
  refine (lnk_split u _ _).2 ⟨lnk_congr h2 (fun k hk => upd_other _ _ ?_) (fun k hk => upd_other _ _ ?_), upd_same _ _ _, upd_same _ _ _, lnk_congr h4 (fun k hk => upd_other _ _ ?_) (fun k hk => upd_other _ _ ?_)⟩
  · intro q
    subst q
    rw [hu, List.nodup_append] at hep
    rw [List.dropLast_concat] at hk
    exact hep.2.2 _ hk _ (by simp) rfl
  · intro hq2
    subst hq2
    rw [← hu, List.tail_cons] at hk
    rcases List.mem_append.1 hnm with h | h
    · exact hpq _ hk _ (List.mem_cons_of_mem _ h) rfl
    · rw [List.mem_singleton] at h
      rw [h] at hk
      exact hne (.inl hk)
  · intro hq2
    subst hq2
    rw [← hv, List.dropLast_concat] at hk
    rcases List.mem_cons.1 hbm with h | h
    · rw [h] at hk; exact hne (.inr (.inr hk))
    · exact hpq _ h _ (List.mem_cons_of_mem _ hk) rfl
  · intro hq2
    subst hq2
    rw [hv, List.nodup_cons] at hqe
    exact hqe.1 hk
theorem cyc_back {bk nx : Nat → Nat} {e : Nat} {l : List Nat} (h : Cyc bk nx e l) : ∃ u, e :: l = u ++ [bk e] := by
  obtain ⟨u, b, hu⟩ := snoc_form e l
  have h1 : LnkL bk nx (u ++ b :: [e]) := by
    have : e :: l ++ [e] = u ++ b :: [e] := by rw [hu]; simp
    rw [← this]; exact h
  have h2 := ((lnk_split u b _).1 h1).2.2.1
  exact ⟨u, by rw [h2, hu]⟩
theorem cyc_next {bk nx : Nat → Nat} {e : Nat} {l : List Nat} (h : Cyc bk nx e l) : ∃ v, l ++ [e] = nx e :: v := by
  cases l with
  | nil => exact ⟨[], by have := h.1; rw [this]; rfl⟩
  | cons x l => exact ⟨l ++ [e], by have := h.1; rw [this]; rfl⟩
theorem cyc_last {bk nx : Nat → Nat} {e x : Nat} {l : List Nat} (h : Cyc bk nx e l) (hn : (e :: l).Nodup) (hx : x ∉ e :: l) :
    Cyc (upd (upd bk x (bk e)) e x) (upd (upd nx x e) (bk e) x) e (l ++ [x]) := by
  obtain ⟨u, hu⟩ := cyc_back h
  have e1 : e :: l ++ [e] = u ++ bk e :: [e] := by rw [hu]; simp
  have e2 : e :: (l ++ [x]) ++ [e] = u ++ bk e :: [x, e] := by rw [← List.cons_append, hu]; simp
  have h1 := h
  unfold Cyc at h1 ⊢
  rw [e1] at h1
  rw [e2]
  have h2 := ((lnk_split u _ _).1 h1).1
  have hbm : bk e ∈ e :: l := by rw [hu]; simp
  have hxe : x ≠ e := fun q => hx (by rw [q]; simp)
  have hxb : x ≠ bk e := fun q => hx (by rw [q]; exact hbm)
  refine (lnk_split u _ _).2 ⟨lnk_congr h2 (fun k hk => ?_) (fun k hk => ?_), upd_same _ _ _, ?_, ?_, upd_same _ _ _, trivial⟩
  · rw [List.dropLast_concat] at hk
    have hk2 : k ∈ e :: l := by rw [hu]; exact List.mem_append_left _ hk
    rw [upd_other _ _ (fun q => ?_), upd_other _ _ (fun q : k = x => hx (q ▸ hk2))]
    subst q
    rw [hu, List.nodup_append] at hn
    exact hn.2.2 _ hk _ (by simp) rfl
  · rw [← hu, List.tail_cons] at hk
    rw [upd_other _ _ (fun q : k = e => (List.nodup_cons.1 hn).1 (q ▸ hk)), upd_other _ _ (fun q : k = x => hx (q ▸ List.mem_cons_of_mem _ hk))]
  · rw [upd_other _ _ hxe, upd_same]
  · rw [upd_other _ _ hxb, upd_same]
end Go.Proofs.YtgdeecmhhbdjgaaGreat

/- flows: a table; New, time, Len, Counts, gone. -/
namespace Go.Proofs.YtgdeecmhhbdjgaaGreat
set_option linter.unusedVariables false
open Go Go.RowKit Go.Maps

def keyE (dt : Nat → EnV) (k : Nat) : Value × Value := (floV (dt k).fl, .pointer (some ⟨k, 0, none⟩))
structure RingV (w : World) (g m e : Nat) (ro idl now ca we : Int) (l : List Nat) (dt : Nat → EnV) (bk nx : Nat → Nat) : Prop where
  blk : Blk w g 183 (tabC ro idl now m e ca we)
  nod : Nod w (e :: l) dt bk nx
  cyc : Cyc bk nx e l
  nd : (e :: l).Nodup
  ent : ∃ A, Ent Tryz.prog 84 w m A ∧ A.Perm (l.map (keyE dt))
  ok : ∀ k ∈ l, FloOk (dt k).fl
theorem ent_blk_ne {K : TypeId} {w : World} {b x : Nat} {l : List (Value × Value)} {T : TypeId} {cs : Array Value} (h : Ent Tryz.prog K w b l) (hx : Blk w x T cs) : x ≠ b := by
  intro e
  obtain ⟨es, c, h2, _⟩ := h
  unfold Blk at hx
  rw [e, h2] at hx
  cases hx
section
variable {w w' : World} {g m e : Nat} {ro idl now ca we : Int} {l : List Nat} {dt : Nat → EnV} {bk nx : Nat → Nat}
theorem RingV.gN (h : RingV w g m e ro idl now ca we l dt bk nx) : g ∉ e :: l := fun q => blk_apart h.blk (h.nod g q) (by decide) rfl
theorem RingV.mN (h : RingV w g m e ro idl now ca we l dt bk nx) : m ∉ e :: l := fun q => by
  obtain ⟨A, h1, _⟩ := h.ent
  exact ent_blk_ne h1 (h.nod m q) rfl
theorem RingV.gm (h : RingV w g m e ro idl now ca we l dt bk nx) : g ≠ m := by
  obtain ⟨A, h1, _⟩ := h.ent
  exact ent_blk_ne h1 h.blk
theorem RingV.chg {X : Nat → Prop} (h : RingV w g m e ro idl now ca we l dt bk nx) (hc : Chg w w' X) (h1 : ¬ X g) (h2 : ¬ X m) (h3 : ∀ k ∈ e :: l, ¬ X k) : RingV w' g m e ro idl now ca we l dt bk nx := by
  obtain ⟨A, ha, hp⟩ := h.ent
  exact ⟨hc.blk h.blk h1, h.nod.chg hc h3, h.cyc, h.nd, ⟨A, hc.ent ha h2, hp⟩, h.ok⟩
theorem RingV.fwd (h : RingV w g m e ro idl now ca we l dt bk nx) (hb : Below w.heap.size w w') : RingV w' g m e ro idl now ca we l dt bk nx := h.chg (Chg.of_below (X := fun _ => False) hb) id id (fun _ _ q => q)
theorem RingV.lt (h : RingV w g m e ro idl now ca we l dt bk nx) : g < w.heap.size ∧ m < w.heap.size ∧ ∀ k ∈ e :: l, k < w.heap.size := by
  obtain ⟨A, ha, hp⟩ := h.ent
  exact ⟨h.blk.lt, ha.lt, fun k hk => (h.nod k hk).lt⟩
theorem RingV.tab (h : RingV w g m e ro idl now ca we l dt bk nx) {i : Nat} {v : Value} {ro2 idl2 now2 ca2 we2 : Int} (hs : (tabC ro idl now m e ca we).setIfInBounds i v = tabC ro2 idl2 now2 m e ca2 we2) :
    RingV (w.setCell ⟨g, i, none⟩ v) g m e ro2 idl2 now2 ca2 we2 l dt bk nx ∧ Chg w (w.setCell ⟨g, i, none⟩ v) (fun k => k = g) := by
  obtain ⟨h1, h2⟩ := blk_store h.blk i v
  have hc : Chg w (w.setCell ⟨g, i, none⟩ v) (fun k => k = g) := Chg.of_grown h2 rfl
  rw [hs] at h1
  obtain ⟨A, ha, hp⟩ := h.ent
  exact ⟨⟨h1, h.nod.chg hc (fun k hk q => h.gN (q ▸ hk)), h.cyc, h.nd, ⟨A, hc.ent ha h.gm.symm, hp⟩, h.ok⟩, hc⟩
theorem flo_inj {f f' : Flo} (h : floV f = floV f') : f = f' := by
  unfold floV at h
  injection h with h
  simp at h
  cases f; cases f'
  simp_all
theorem RingV.find (h : RingV w g m e ro idl now ca we l dt bk nx) (f : Flo) (hf : FloOk f) :
    (∃ k ∈ l, (dt k).fl = f ∧ (Instr.lookup 181 (.map (some m)) (floV f) false).run Tryz.prog w = .ok (.pointer (some ⟨k, 0, none⟩)) w) ∨
    ((∀ k ∈ l, (dt k).fl ≠ f) ∧ (Instr.lookup 181 (.map (some m)) (floV f) false).run Tryz.prog w = .ok (.pointer none) w) := by
  obtain ⟨A, ha, hp⟩ := h.ent
  obtain ⟨kl, hk⟩ := flo_lit f hf
  by_cases hm : ∃ k ∈ l, (dt k).fl = f
  · obtain ⟨k, hk1, hk2⟩ := hm
    refine .inl ⟨k, hk1, hk2, ?_⟩
    exact ha.hit0 fkey fmap_und hk (hp.mem_iff.2 (List.mem_map.2 ⟨k, hk1, by unfold keyE; rw [hk2]⟩))
  · refine .inr ⟨fun k hk1 hk2 => hm ⟨k, hk1, hk2⟩, ?_⟩
    refine ha.miss0 fkey fmap_und flink_zero hk fun q => ?_
    obtain ⟨x, hx, hx2⟩ := List.mem_map.1 q
    obtain ⟨k, hk1, rfl⟩ := List.mem_map.1 (hp.mem_iff.1 hx)
    exact hm ⟨k, hk1, flo_inj hx2⟩
end
set_option maxRecDepth 100000 in
theorem madeF_in {w : World} {g m e : Nat} {ro idl now ca we : Int} {l : List Nat} {dt : Nat → EnV} {bk nx : Nat → Nat} (h : RingV w g m e ro idl now ca we l dt bk nx) :
    Calls Tryz.prog 115 #[.pointer (some ⟨g, 0, none⟩)] w fun en w' => en = .returned (.bool true) ∧ w = w' := by
  have c4 : w.cell? ⟨g, 4, none⟩ = some (.pointer (some ⟨e, 0, none⟩)) := h.blk.cellv 4 rfl
  go_enter Tryz.func115, Tryz.ntmps115
  go_wp2_with fail
  go_ret
  exact ⟨rfl, rfl⟩
def zerC : Array Value := #[.int .i64 0, .int .i64 0, .int .i64 0, .map none, .pointer none, .int .i64 0, .int .i64 0]
set_option maxRecDepth 100000 in
theorem timeF_any {w : World} {g m e : Nat} {ro idl now ca we : Int} {l : List Nat} {dt : Nat → EnV} {bk nx : Nat → Nat} (h : RingV w g m e ro idl now ca we l dt bk nx) (t : Int) :
    Calls Tryz.prog 116 #[.pointer (some ⟨g, 0, none⟩), .int .i64 t] w fun en w' => en = .returned (.tuple #[]) ∧ RingV w' g m e ro idl (max now t) ca we l dt bk nx ∧ Chg w w' (fun k => k = g) := by
  have c2 : w.cell? ⟨g, 2, none⟩ = some (.int .i64 now) := h.blk.cellv 2 rfl
  have f2 := h.blk.frozen 2
  have ltg := h.blk.lt
  have h1 := h.tab (i := 2) (v := .int .i64 now) (now2 := now) (ro2 := ro) (idl2 := idl) (ca2 := ca) (we2 := we) rfl
  have h2 := h.tab (i := 2) (v := .int .i64 t) (now2 := t) (ro2 := ro) (idl2 := idl) (ca2 := ca) (we2 := we) rfl
  replace h1 := Lib.hid h1
  replace h2 := Lib.hid h2
  go_enter Tryz.func116, Tryz.ntmps116
  go_wp2_with fail
  all_goals go_end0
  all_goals first
    | (refine ⟨rfl, ?_⟩; rw [show max now t = t by omega]; exact h2.out)
    | (refine ⟨rfl, ?_⟩; rw [show max now t = now by omega]; exact h1.out)
end Go.Proofs.YtgdeecmhhbdjgaaGreat

/- flows: New, Len, Counts, gone. -/
namespace Go.Proofs.YtgdeecmhhbdjgaaGreat
set_option linter.unusedVariables false
open Go Go.RowKit Go.Maps

def ze : EnV := ⟨⟨0, 0, 0, 0, 0⟩, 0, 0⟩
set_option maxRecDepth 100000 in
set_option maxHeartbeats 2000000 in
theorem newF_in (w : World) (ro idl : Int) (h1 : 1 ≤ ro) (h2 : ro ≤ 1024) (h3 : 1 ≤ idl) (h4 : idl ≤ 1000000) :
    Calls Tryz.prog 107 #[.int .i64 ro, .int .i64 idl] w fun en w' => ∃ g m e, en = .returned (.pointer (some ⟨g, 0, none⟩)) ∧ RingV w' g m e ro idl 0 0 0 [] (fun _ => ze) (fun _ => e) (fun _ => e) ∧ w.heap.size ≤ g ∧ w.heap.size ≤ m ∧ w.heap.size ≤ e ∧ Below w.heap.size w w' := by
  have d1 : decide (ro < 1) = false := by simp; omega
  have d2 : decide (1024 < ro) = false := by simp; omega
  have d3 : decide (idl < 1) = false := by simp; omega
  have d4 : decide (1000000 < idl) = false := by simp; omega
  have hB := (Below.refl w.heap.size w).alloc (Nat.le_refl _) (.cells #[.int .i64 0, .int .u32 0, .int .u32 0, .int .i64 0, .int .i64 0, .int .i64 0, .int .i64 0, .pointer none, .pointer none] 186)
  have hq := Blk.new w 186 #[.int .i64 0, .int .u32 0, .int .u32 0, .int .i64 0, .int .i64 0, .int .i64 0, .int .i64 0, .pointer none, .pointer none]
  go_enter Tryz.func107, Tryz.ntmps107
  go_upto_region 4 with (fail)
  generalize w.alloc (.cells #[.int .i64 0, .int .u32 0, .int .u32 0, .int .i64 0, .int .i64 0, .int .i64 0, .int .i64 0, .pointer none, .pointer none] 186) = w1 at *
  have lte := hq.lt
  have e7 : w1.cell? ⟨w.heap.size, 7, none⟩ = some (.pointer none) := hq.cellv 7 rfl
  have e8 : w1.cell? ⟨w.heap.size, 8, none⟩ = some (.pointer none) := hq.cellv 8 rfl
  have f7 := hq.frozen 7
  have f8 := hq.frozen 8
  obtain ⟨q1, g1⟩ := blk_store hq 7 (.pointer (some ⟨w.heap.size, 0, none⟩))
  obtain ⟨q2, g2⟩ := blk_store q1 8 (.pointer (some ⟨w.heap.size, 0, none⟩))
  have hB2 := below_own (below_own hB g1 hB.size (Nat.le_refl _)) g2 (Nat.le_trans hB.size g1.size) (Nat.le_refl _)
  replace q2 := Lib.hid q2
  replace hB2 := Lib.hid hB2
  clear q1 g1 g2 hB
  go_upto_region 5 with (fail)
  replace q2 := q2.out
  replace hB2 := hB2.out
  clear e7 e8 f7 f8 lte hq
  generalize World.setCell _ _ _ = w2 at *
  have hz2 := hB2.size
  have lte := q2.lt
  have hq3 := (q2.alloc (.map #[] 0)).alloc (.cells (tabC ro idl 0 w2.heap.size w.heap.size 0 0) 183)
  have hm := (Ent.made (P := Tryz.prog) (K := 84) w2).alloc (.cells (tabC ro idl 0 w2.heap.size w.heap.size 0 0) 183)
  have ht := Blk.new (w2.alloc (.map #[] 0)) 183 (tabC ro idl 0 w2.heap.size w.heap.size 0 0)
  have hB3 := (hB2.alloc hz2 (.map #[] 0)).alloc (by simp; omega) (.cells (tabC ro idl 0 w2.heap.size w.heap.size 0 0) 183)
  rw [show (w2.alloc (.map #[] 0)).heap.size = w2.heap.size + 1 by simp] at ht
  replace hq3 := Lib.hid hq3
  replace hm := Lib.hid hm
  replace ht := Lib.hid ht
  replace hB3 := Lib.hid hB3
  go_wp2_with fail
  go_ret
  refine ⟨w2.heap.size + 1, w2.heap.size, w.heap.size, rfl, ⟨ht.out, fun k hk => ?_, ⟨rfl, rfl, trivial⟩, by simp, ⟨[], hm.out, .nil⟩, by simp⟩, by omega, by omega, Nat.le_refl _, hB3.out⟩
  rw [List.mem_singleton] at hk
  subst hk
  exact hq3.out
set_option maxRecDepth 100000 in
theorem lenF_in {w : World} {g m e : Nat} {ro idl now ca we : Int} {l : List Nat} {dt : Nat → EnV} {bk nx : Nat → Nat} (h : RingV w g m e ro idl now ca we l dt bk nx) :
    Calls Tryz.prog 133 #[.pointer (some ⟨g, 0, none⟩)] w fun en w' => en = .returned (.int .i64 l.length) ∧ w = w' := by
  have c3 : w.cell? ⟨g, 3, none⟩ = some (.map (some m)) := h.blk.cellv 3 rfl
  obtain ⟨A, ha, hp⟩ := h.ent
  have hlen := fun ty => ha.len fmap_und ty
  rw [hp.length_eq, List.length_map] at hlen
  go_enter Tryz.func133, Tryz.ntmps133
  go_wp2_with (go_at_call 115; refine (madeF_in h).mono ?_; rintro en w' ⟨rfl, rfl⟩)
  go_ret
  exact ⟨rfl, rfl⟩
set_option maxRecDepth 100000 in
set_option maxHeartbeats 4000000 in
theorem goneF_any {w : World} {g m e : Nat} {ro idl now ca we : Int} {dt : Nat → EnV} {bk nx : Nat → Nat} {p q : List Nat} {x : Nat} (h : RingV w g m e ro idl now ca we (p ++ x :: q) dt bk nx) :
    Calls Tryz.prog 192 #[.pointer (some ⟨g, 0, none⟩), .pointer (some ⟨x, 0, none⟩)] w fun en w' => en = .returned (.tuple #[]) ∧ RingV w' g m e ro idl now ca we (p ++ q) dt (upd bk (nx x) (bk x)) (upd nx (bk x) (nx x)) ∧ Chg w w' (fun k => k = m ∨ k ∈ e :: (p ++ x :: q)) ∧ Blk w' x 186 (lnkC (dt x) (bk x) (nx x)) := by
  obtain ⟨⟨u, hu⟩, v, hv⟩ := cyc_at h.cyc
  have hxN : x ∈ e :: (p ++ x :: q) := by simp
  have hbN : bk x ∈ e :: (p ++ x :: q) := by
    have : bk x ∈ e :: p := by rw [hu]; simp
    rcases List.mem_cons.1 this with q1 | q1
    · rw [q1]; simp
    · exact List.mem_cons_of_mem _ (List.mem_append_left _ q1)
  have hnN : nx x ∈ e :: (p ++ x :: q) := by
    have : nx x ∈ q ++ [e] := by rw [hv]; simp
    rcases List.mem_append.1 this with q1 | q1
    · exact List.mem_cons_of_mem _ (List.mem_append_right _ (List.mem_cons_of_mem _ q1))
    · rw [List.mem_singleton] at q1; rw [q1]; simp
  have hcyc := cyc_out h.cyc h.nd
  have hgN := h.gN
  have hmN := h.mN
  have hgm := h.gm
  replace hu := Lib.hid hu
  replace hv := Lib.hid hv
  have hxn : x ≠ nx x ∧ x ≠ bk x := by
    have hnd := h.nd
    rw [List.nodup_cons, List.mem_append, List.mem_cons, List.nodup_append, List.nodup_cons] at hnd
    obtain ⟨n1, n2, ⟨n3, n4⟩, n5⟩ := hnd
    have hxe : x ≠ e := fun e1 => n1 (.inr (.inl e1.symm))
    constructor
    · intro e1
      have : x ∈ q ++ [e] := by rw [hv.out, ← e1]; simp
      rcases List.mem_append.1 this with q1 | q1
      · exact n3 q1
      · exact hxe (by simpa using q1)
    · intro e1
      have : x ∈ e :: p := by rw [hu.out, ← e1]; simp
      rcases List.mem_cons.1 this with q1 | q1
      · exact hxe q1
      · exact n5 x q1 x (by simp) rfl
  go_enter Tryz.func192, Tryz.ntmps192
  go_upto_region 1 with (go_at_call 118; refine (out_any w _ dt bk nx h.nod x hxN hbN hnN).mono ?_; rintro en w1 ⟨rfl, hN1, hC1⟩)
  have hg1 := hC1.blk h.blk hgN
  obtain ⟨A, ha, hp⟩ := h.ent
  have ha1 := hC1.ent ha hmN
  have hx1 := hN1 x hxN
  rw [upd_other _ _ hxn.1, upd_other _ _ hxn.2] at hx1
  have hok := h.ok
  have hkx : FloOk (dt x).fl := hok x (by simp)
  obtain ⟨kl, hkl⟩ := flo_lit _ hkx
  have hin : keyE dt x ∈ A := hp.mem_iff.2 (List.mem_map.2 ⟨x, by simp, rfl⟩)
  obtain ⟨j, hj⟩ := List.getElem?_of_mem hin
  have hj' : A[j]? = some (floV (dt x).fl, .pointer (some ⟨x, 0, none⟩)) := hj
  have c3 : w1.cell? ⟨g, 3, none⟩ = some (.map (some m)) := hg1.cellv 3 rfl
  have x0 : w1.cell? ⟨x, 0, none⟩ = some (.int .i64 (dt x).fl.pr) := hx1.cellv 0 rfl
  have x1 : w1.cell? ⟨x, 1, none⟩ = some (.int .u32 (dt x).fl.src) := hx1.cellv 1 rfl
  have x2 : w1.cell? ⟨x, 2, none⟩ = some (.int .u32 (dt x).fl.dst) := hx1.cellv 2 rfl
  have x3 : w1.cell? ⟨x, 3, none⟩ = some (.int .i64 (dt x).fl.sp) := hx1.cellv 3 rfl
  have x4 : w1.cell? ⟨x, 4, none⟩ = some (.int .i64 (dt x).fl.dp) := hx1.cellv 4 rfl
  have ltg := hg1.lt
  have ltx := hx1.lt
  have hxm : x ≠ m := fun q1 => hmN (q1 ▸ hxN)
  have hnd := h.nd
  replace hcyc := Lib.hid hcyc
  replace hp := Lib.hid hp
  replace hok := Lib.hid hok
  clear hj hin hu hv hxn h ha hkx
  try refine wp_region_noPanic ?_
  have hs1r : w1.grownBy w1.drew (some m) := grown_drew (grown_refl _ _)
  refine wp_region_held_drew (S := fun w' => w1.grownBy w' (some m)) (by kernel_rfl) hs1r (fun _ => ?_)
  (refine held_takeA 0 (by rfl) ?_ (by kernel_rfl) (fun _ _ _ h => h) hs1r ?_ ?_; rotate_left; (focus (intro wq hSw; have hrd := zG hSw; go_simp; try with_reducible rfl; done)); try simp only [Act.put, zA, zB, zC])
  (refine held_takeA 1 (by rfl) ?_ (by kernel_rfl) (fun _ _ _ h => h) hs1r ?_ ?_; rotate_left; (focus (intro wq hSw; have hrd := zG hSw; go_simp; try with_reducible rfl; done)); try simp only [Act.put, zA, zB, zC])
  (refine held_takeA 2 (by rfl) ?_ (by kernel_rfl) (fun _ _ _ h => h) hs1r ?_ ?_; rotate_left; (focus (intro wq hSw; have hrd := zG hSw; go_simp; try with_reducible rfl; done)); try simp only [Act.put, zA, zB, zC])
  (refine held_takeA 3 (by rfl) ?_ (by kernel_rfl) (fun _ _ _ h => h) hs1r ?_ ?_; rotate_left; (focus (intro wq hSw; have hrd := zG hSw; go_simp; try with_reducible rfl; done)); try simp only [Act.put, zA, zB, zC])
  (refine held_takeA 4 (by rfl) ?_ (by kernel_rfl) (fun _ _ _ h => h) hs1r ?_ ?_; rotate_left; (focus (intro wq hSw; have hrd := zG hSw; go_simp; try with_reducible rfl; done)); try simp only [Act.put, zA, zB, zC])
  (refine held_takeA 5 (by rfl) ?_ (by kernel_rfl) (fun _ _ _ h => h) hs1r ?_ ?_; rotate_left; (focus (intro wq hSw; have hrd := zG hSw; go_simp; try with_reducible rfl; done)); try simp only [Act.put, zA, zB, zC])
  (refine held_takeA 6 (by rfl) ?_ (by kernel_rfl) (fun _ _ _ h => h) hs1r ?_ ?_; rotate_left; (focus (intro wq hSw; have hrd := zG hSw; go_simp; try with_reducible rfl; done)); try simp only [Act.put, zA, zB, zC])
  (refine held_takeA 7 (by rfl) ?_ (by kernel_rfl) (fun _ _ _ h => h) hs1r ?_ ?_; rotate_left; (focus (intro wq hSw; have hrd := zG hSw; go_simp; try with_reducible rfl; done)); try simp only [Act.put, zA, zB, zC])
  (refine held_takeA 8 (by rfl) ?_ (by kernel_rfl) (fun _ _ _ h => h) hs1r ?_ ?_; rotate_left; (focus (intro wq hSw; have hrd := zG hSw; go_simp; try with_reducible rfl; done)); try simp only [Act.put, zA, zB, zC])
  refine held_callA 9 (by rfl) (by kernel_rfl) (by rfl) (fun KQ hKQ => ?_)
  refine wp_del_hit ha1.drew fkey fmap_und (.tmp 9) (.tmp 14) (by rfl) (by rfl) (by rfl) hkl hj' ?_
  intro w2 ha2 hg2
  refine hKQ.out _ _ (grown_trans hs1r hg2) (held_mono (S' := fun w' => w2.grownBy w' (some m)) (fun w' h => grown_trans (grown_trans hs1r hg2) h) _ _ _ _ ?_)
  clear hKQ KQ
  have hs2r : w2.grownBy w2 (some m) := grown_refl _ _
  try simp only [Act.put]
  refine wpAnyH_done (by kernel_rfl) ?_ _
  try refine NoPanic.normal ?_
  go_end0
  have hg12 : w1.grownBy w2 (some m) := grown_trans (grown_drew (grown_refl w1 (some m))) hg2
  have hC2 : Chg w1 w2 (fun k => k = m) := Chg.of_grown hg12 rfl
  have hpe : (A.eraseIdx j).Perm ((p ++ q).map (keyE dt)) := by
    have h1 : A.Perm (keyE dt x :: A.eraseIdx j) := by
      obtain ⟨hl, e1⟩ := List.getElem?_eq_some_iff.1 hj'
      have := List.perm_middle (a := A[j]) (l₁ := A.take j) (l₂ := A.drop (j + 1))
      rw [← List.drop_eq_getElem_cons hl, List.take_append_drop] at this
      rw [List.eraseIdx_eq_take_drop_succ]
      rw [e1] at this
      exact this
    have h2 : ((p ++ x :: q).map (keyE dt)).Perm (keyE dt x :: (p ++ q).map (keyE dt)) := by
      rw [← List.map_cons]; exact List.perm_middle.map _
    exact ((h1.symm.trans hp.out).trans h2).cons_inv
  have hsub : ∀ k ∈ e :: (p ++ q), k ∈ e :: (p ++ x :: q) := fun k hk => by
    rcases List.mem_cons.1 hk with q1 | q1
    · rw [q1]; simp
    · rcases List.mem_append.1 q1 with q1 | q1
      · exact List.mem_cons_of_mem _ (List.mem_append_left _ q1)
      · exact List.mem_cons_of_mem _ (List.mem_append_right _ (List.mem_cons_of_mem _ q1))
  have hCm : Chg w w1 (fun k => k = m ∨ k ∈ e :: (p ++ x :: q)) := hC1.mono fun _ _ q1 => .inr q1
  refine ⟨rfl, ⟨hC2.blk hg1 hgm, fun k hk => hC2.blk (hN1 k (hsub k hk)) (fun q1 => hmN (q1 ▸ hsub k hk)), hcyc.out, ?_, ⟨_, ha2, hpe⟩, fun k hk => hok.out k ?_⟩, hCm.trans hC2 (fun i hi q1 => .inl q1), hC2.blk hx1 hxm⟩
  · refine hnd.sublist ?_
    exact (List.Sublist.append (List.Sublist.refl p) (List.sublist_cons_self x q)).cons_cons e
  · rcases List.mem_append.1 hk with q1 | q1
    · exact List.mem_append_left _ q1
    · exact List.mem_append_right _ (List.mem_cons_of_mem _ q1)
end Go.Proofs.YtgdeecmhhbdjgaaGreat

/- flows: Peek, Get. -/
namespace Go.Proofs.YtgdeecmhhbdjgaaGreat
set_option linter.unusedVariables false
open Go Go.RowKit Go.Maps

theorem mem_split {l : List Nat} {x : Nat} (h : x ∈ l) : ∃ p q, l = p ++ x :: q := List.append_of_mem h
theorem RingV.relink {w w2 : World} {g m e : Nat} {ro idl now ca we now2 : Int} {p q : List Nat} {dt dt2 : Nat → EnV} {bk nx : Nat → Nat} {x : Nat} (h : RingV w g m e ro idl now ca we (p ++ x :: q) dt bk nx)
    (hC : Chg w w2 (fun k => k = g ∨ k ∈ e :: (p ++ x :: q))) (hg : Blk w2 g 183 (tabC ro idl now2 m e ca we))
    (hN : Nod w2 (e :: (p ++ x :: q)) dt2 (upd (upd (upd bk (nx x) (bk x)) x (upd bk (nx x) (bk x) e)) e x) (upd (upd (upd nx (bk x) (nx x)) x e) (upd bk (nx x) (bk x) e) x))
    (hdt : ∀ k, (dt2 k).fl = (dt k).fl) :
    RingV w2 g m e ro idl now2 ca we (p ++ q ++ [x]) dt2 (upd (upd (upd bk (nx x) (bk x)) x (upd bk (nx x) (bk x) e)) e x) (upd (upd (upd nx (bk x) (nx x)) x e) (upd bk (nx x) (bk x) e) x) := by
  have hmem : ∀ k, k ∈ p ++ q ++ [x] ↔ k ∈ p ++ x :: q := fun k => by simp; constructor <;> (intro h; rcases h with h | h | h <;> simp [h])
  have hperm : (p ++ q ++ [x]).Perm (p ++ x :: q) := by
    rw [List.append_assoc]
    exact (List.perm_append_comm (l₁ := q) (l₂ := [x])).append_left p
  obtain ⟨A, ha, hp⟩ := h.ent
  have hnd := h.nd
  have hnd2 : (e :: (p ++ q)).Nodup := hnd.sublist ((List.Sublist.append (List.Sublist.refl p) (List.sublist_cons_self x q)).cons_cons e)
  have hxn : x ∉ e :: (p ++ q) := by
    rw [List.nodup_cons, List.mem_append, List.mem_cons, List.nodup_append, List.nodup_cons] at hnd
    obtain ⟨n1, n2, ⟨n3, n4⟩, n5⟩ := hnd
    intro hx
    rcases List.mem_cons.1 hx with q1 | q1
    · exact n1 (.inr (.inl q1.symm))
    · rcases List.mem_append.1 q1 with q1 | q1
      · exact n5 x q1 x (by simp) rfl
      · exact n3 q1
  refine ⟨hg, fun k hk => hN k ?_, cyc_last (cyc_out h.cyc h.nd) hnd2 hxn, ?_, ⟨A, ?_, ?_⟩, fun k hk => ?_⟩
  · rcases List.mem_cons.1 hk with q1 | q1
    · rw [q1]; simp
    · exact List.mem_cons_of_mem _ ((hmem k).1 q1)
  · rw [List.nodup_cons] at hnd ⊢
    exact ⟨fun q1 => hnd.1 ((hmem e).1 q1), hperm.nodup_iff.2 hnd.2⟩
  · exact hC.ent ha (fun q1 => q1.elim (fun q1 => h.gm q1.symm) h.mN)
  · refine hp.trans ?_
    have hk2 : keyE dt2 = keyE dt := by funext k; unfold keyE; rw [hdt k]
    rw [hk2]
    exact (hperm.map _).symm
  · rw [hdt k]
    exact h.ok k ((hmem k).1 hk)
theorem look_drew {w wq : World} {g m e : Nat} {ro idl now ca we : Int} {l : List Nat} {dt : Nat → EnV} {bk nx : Nat → Nat} (h : RingV w g m e ro idl now ca we l dt bk nx) (f : Flo) (hf : FloOk f) {k : Nat} (hk : k ∈ l) (hkf : (dt k).fl = f) (hb : Below w.heap.size w wq) :
    (Instr.lookup 181 (.map (some m)) (.agg #[.int .i64 f.pr, .int .u32 f.src, .int .u32 f.dst, .int .i64 f.sp, .int .i64 f.dp]) false).run Tryz.prog wq = .ok (.pointer (some ⟨k, 0, none⟩)) wq := by
  rcases (h.fwd hb).find f hf with ⟨k2, h1, h2, h3⟩ | ⟨h1, _⟩
  · have : k2 = k := by
      obtain ⟨A, ha, hp⟩ := h.ent
      have hn := ha.nodup
      have hn2 : ((l.map (keyE dt)).map Prod.fst).Nodup := (hp.map Prod.fst).nodup_iff.1 hn
      rw [List.map_map] at hn2
      have hinj : ∀ (l : List Nat), (l.map (Prod.fst ∘ keyE dt)).Nodup → ∀ a ∈ l, ∀ b ∈ l, (dt a).fl = (dt b).fl → a = b := by
        intro l
        induction l with
        | nil => intro _ a ha; cases ha
        | cons c l ih =>
          intro hn a ha b hb e1
          rw [List.map_cons, List.nodup_cons] at hn
          rcases List.mem_cons.1 ha with rfl | ha1
          · rcases List.mem_cons.1 hb with rfl | hb1
            · rfl
            · exact (hn.1 (List.mem_map.2 ⟨b, hb1, show floV (dt b).fl = floV (dt a).fl by rw [e1]⟩)).elim
          · rcases List.mem_cons.1 hb with rfl | hb1
            · exact (hn.1 (List.mem_map.2 ⟨a, ha1, show floV (dt a).fl = floV (dt b).fl by rw [e1]⟩)).elim
            · exact ih hn.2 a ha1 b hb1 e1
      exact hinj l hn2 k2 h1 k hk (h2.trans hkf.symm)
    rw [this] at h3
    exact h3
  · exact absurd hkf (h1 k hk)
theorem look_none {w wq : World} {g m e : Nat} {ro idl now ca we : Int} {l : List Nat} {dt : Nat → EnV} {bk nx : Nat → Nat} (h : RingV w g m e ro idl now ca we l dt bk nx) (f : Flo) (hf : FloOk f) (hno : ∀ k ∈ l, (dt k).fl ≠ f) (hb : Below w.heap.size w wq) :
    (Instr.lookup 181 (.map (some m)) (.agg #[.int .i64 f.pr, .int .u32 f.src, .int .u32 f.dst, .int .i64 f.sp, .int .i64 f.dp]) false).run Tryz.prog wq = .ok (.pointer none) wq := by
  rcases (h.fwd hb).find f hf with ⟨k2, h1, h2, h3⟩ | ⟨_, h3⟩
  · exact absurd h2 (hno k2 h1)
  · exact h3
theorem RingV.bx {w : World} {g m e : Nat} {ro idl now ca we : Int} {dt : Nat → EnV} {bk nx : Nat → Nat} {p q : List Nat} {x : Nat} (h : RingV w g m e ro idl now ca we (p ++ x :: q) dt bk nx) : bk x ∈ e :: (p ++ x :: q) ∧ nx x ∈ e :: (p ++ x :: q) ∧ upd bk (nx x) (bk x) e ∈ e :: (p ++ x :: q) ∧ x ∈ e :: (p ++ x :: q) ∧ x ≠ e := by
  obtain ⟨⟨u, hu⟩, v, hv⟩ := cyc_at h.cyc
  have h1 : bk x ∈ e :: (p ++ x :: q) := by
    have : bk x ∈ e :: p := by rw [hu]; simp
    rcases List.mem_cons.1 this with q1 | q1
    · rw [q1]; simp
    · exact List.mem_cons_of_mem _ (List.mem_append_left _ q1)
  have h2 : nx x ∈ e :: (p ++ x :: q) := by
    have : nx x ∈ q ++ [e] := by rw [hv]; simp
    rcases List.mem_append.1 this with q1 | q1
    · exact List.mem_cons_of_mem _ (List.mem_append_right _ (List.mem_cons_of_mem _ q1))
    · rw [List.mem_singleton] at q1; rw [q1]; simp
  refine ⟨h1, h2, ?_, by simp, fun e1 => ?_⟩
  · by_cases e1 : e = nx x
    · rw [← e1, upd_same]; exact h1
    · rw [upd_other _ _ e1]
      obtain ⟨u2, hu2⟩ := cyc_back h.cyc
      rw [hu2]; simp
  · have hnd := h.nd
    rw [List.nodup_cons] at hnd
    exact hnd.1 (e1 ▸ List.mem_append_right _ (List.mem_cons_self))
def lastB (bk nx : Nat → Nat) (e x : Nat) : Nat → Nat := upd (upd (upd bk (nx x) (bk x)) x (upd bk (nx x) (bk x) e)) e x
def lastX (bk nx : Nat → Nat) (e x : Nat) : Nat → Nat := upd (upd (upd nx (bk x) (nx x)) x e) (upd bk (nx x) (bk x) e) x
end Go.Proofs.YtgdeecmhhbdjgaaGreat
