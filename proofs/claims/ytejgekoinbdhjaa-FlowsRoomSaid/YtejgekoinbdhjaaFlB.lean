/- flows: links, out. -/
import Derived.Test.YtejgekoinbdhjaaFlA
import Derived.Test.YtejgekoinbdhjaaLate
import Derived.Test.YtejgekoinbdhjaaDrawE
import Derived.BigRegion
namespace Go.Proofs.Ytejgekoinbdhjaa
set_option linter.unusedVariables false
open Go Go.RowKit Go.Maps

/-- an entry. -/
structure EnV where
  fl : Flo
  be : Int
  la : Int
deriving DecidableEq
def lnkC (e : EnV) (b n : Nat) : Array Value := #[.int .i64 e.fl.pr, .int .u32 e.fl.src, .int .u32 e.fl.dst, .int .i64 e.fl.sp, .int .i64 e.fl.dp, .int .i64 e.be, .int .i64 e.la, .pointer (some ⟨b, 0, none⟩), .pointer (some ⟨n, 0, none⟩)]
/-- the blocks of N are links: what they hold, who is ahead, who behind. -/
def Nod (w : World) (N : List Nat) (dt : Nat → EnV) (bk nx : Nat → Nat) : Prop := ∀ k ∈ N, Blk w k 177 (lnkC (dt k) (bk k) (nx k))
def upd {α : Type} (f : Nat → α) (a : Nat) (b : α) : Nat → α := fun k => if k = a then b else f k
theorem upd_same {α : Type} (f : Nat → α) (a : Nat) (b : α) : upd f a b a = b := by unfold upd; rw [if_pos rfl]
theorem upd_other {α : Type} (f : Nat → α) {a k : Nat} (b : α) (h : k ≠ a) : upd f a b k = f k := by unfold upd; rw [if_neg h]
section
variable {w w' : World} {N : List Nat} {dt : Nat → EnV} {bk nx : Nat → Nat}
theorem Nod.chg {X : Nat → Prop} (h : Nod w N dt bk nx) (hc : Chg w w' X) (hX : ∀ k ∈ N, ¬ X k) : Nod w' N dt bk nx := fun k hk => hc.blk (h k hk) (hX k hk)
theorem Nod.next (h : Nod w N dt bk nx) {b : Nat} (hb : b ∈ N) (n : Nat) : Nod (w.setCell ⟨b, 8, none⟩ (.pointer (some ⟨n, 0, none⟩))) N dt bk (upd nx b n) ∧ w.grownBy (w.setCell ⟨b, 8, none⟩ (.pointer (some ⟨n, 0, none⟩))) (some b) := by
  obtain ⟨h1, h2⟩ := blk_store (h b hb) 8 (.pointer (some ⟨n, 0, none⟩))
  refine ⟨fun k hk => ?_, h2⟩
  by_cases e : k = b
  · subst e
    rw [upd_same]
    exact h1
  · rw [upd_other _ _ e]
    exact (h k hk).grown h2 (by simpa using e)
theorem Nod.back (h : Nod w N dt bk nx) {b : Nat} (hb : b ∈ N) (n : Nat) : Nod (w.setCell ⟨b, 7, none⟩ (.pointer (some ⟨n, 0, none⟩))) N dt (upd bk b n) nx ∧ w.grownBy (w.setCell ⟨b, 7, none⟩ (.pointer (some ⟨n, 0, none⟩))) (some b) := by
  obtain ⟨h1, h2⟩ := blk_store (h b hb) 7 (.pointer (some ⟨n, 0, none⟩))
  refine ⟨fun k hk => ?_, h2⟩
  by_cases e : k = b
  · subst e
    rw [upd_same]
    exact h1
  · rw [upd_other _ _ e]
    exact (h k hk).grown h2 (by simpa using e)
theorem Nod.last (h : Nod w N dt bk nx) {b : Nat} (hb : b ∈ N) (z : Int) : Nod (w.setCell ⟨b, 6, none⟩ (.int .i64 z)) N (upd dt b { dt b with la := z }) bk nx ∧ w.grownBy (w.setCell ⟨b, 6, none⟩ (.int .i64 z)) (some b) := by
  obtain ⟨h1, h2⟩ := blk_store (h b hb) 6 (.int .i64 z)
  refine ⟨fun k hk => ?_, h2⟩
  by_cases e : k = b
  · subst e
    rw [upd_same]
    exact h1
  · rw [upd_other _ _ e]
    exact (h k hk).grown h2 (by simpa using e)
theorem Nod.be (h : Nod w N dt bk nx) {b : Nat} (hb : b ∈ N) (z : Int) : Nod (w.setCell ⟨b, 5, none⟩ (.int .i64 z)) N (upd dt b { dt b with be := z }) bk nx ∧ w.grownBy (w.setCell ⟨b, 5, none⟩ (.int .i64 z)) (some b) := by
  obtain ⟨h1, h2⟩ := blk_store (h b hb) 5 (.int .i64 z)
  refine ⟨fun k hk => ?_, h2⟩
  by_cases e : k = b
  · subst e
    rw [upd_same]
    exact h1
  · rw [upd_other _ _ e]
    exact (h k hk).grown h2 (by simpa using e)
end
set_option maxRecDepth 100000 in
set_option maxHeartbeats 2000000 in
theorem out_any (w : World) (N : List Nat) (dt : Nat → EnV) (bk nx : Nat → Nat) (h : Nod w N dt bk nx) (x : Nat) (hx : x ∈ N) (hb : bk x ∈ N) (hn : nx x ∈ N) :
    Calls Try.prog 116 #[.pointer (some ⟨x, 0, none⟩)] w fun e w' => e = .returned (.tuple #[]) ∧ Nod w' N dt (upd bk (nx x) (bk x)) (upd nx (bk x) (nx x)) ∧ Chg w w' (fun k => k ∈ N) := by
  have c7 : w.cell? ⟨x, 7, none⟩ = some (.pointer (some ⟨bk x, 0, none⟩)) := (h x hx).cellv 7 rfl
  have c8 : w.cell? ⟨x, 8, none⟩ = some (.pointer (some ⟨nx x, 0, none⟩)) := (h x hx).cellv 8 rfl
  have ltx := (h x hx).lt
  have ltb := (h _ hb).lt
  have ltn := (h _ hn).lt
  have d7 : w.cell? ⟨nx x, 7, none⟩ = some (.pointer (some ⟨bk (nx x), 0, none⟩)) := (h _ hn).cellv 7 rfl
  have d8 : w.cell? ⟨bk x, 8, none⟩ = some (.pointer (some ⟨nx (bk x), 0, none⟩)) := (h _ hb).cellv 8 rfl
  have f7 := (h _ hn).frozen 7
  have f8 := (h _ hb).frozen 8
  obtain ⟨h1, g1⟩ := h.next hb (nx x)
  obtain ⟨h2, g2⟩ := h1.back hn (bk x)
  have hC : Chg w _ (fun k => k ∈ N) := (Chg.of_grown (X := fun k => k ∈ N) g1 hb).trans (Chg.of_grown (X := fun k => k ∈ N) g2 hn) (fun _ _ q => q)
  replace h2 := Lib.hid h2
  replace hC := Lib.hid hC
  clear h1 g1 g2 h hx hb hn
  generalize bk x = b at *
  generalize nx x = n at *
  go_enter Try.func116, Try.ntmps116
  go_region
  go_end0
  exact ⟨rfl, h2.out.chg (Chg.of_below (X := fun _ => False) (Below.refl _ _).drew) (fun _ _ q => q), hC.out.trans (Chg.of_below (X := fun _ => False) (Below.refl _ _).drew) (fun _ _ q => q.elim)⟩
def tabC (room idle now : Int) (m e : Nat) (came went : Int) : Array Value := #[.int .i64 room, .int .i64 idle, .int .i64 now, .map (some m), .pointer (some ⟨e, 0, none⟩), .int .i64 came, .int .i64 went]
theorem blk_apart {w : World} {a b : Nat} {T U : TypeId} {cs ds : Array Value} (h : Blk w a T cs) (k : Blk w b U ds) (hn : T ≠ U) : a ≠ b := by
  intro e
  subst e
  unfold Blk at h k
  rw [h] at k
  injection k with k
  injection k with _ k
  exact hn k
set_option maxRecDepth 100000 in
set_option maxHeartbeats 4000000 in
theorem last_any (w : World) (g : Nat) (room idle now : Int) (m e : Nat) (came went : Int) (hg : Blk w g 76 (tabC room idle now m e came went)) (N : List Nat) (dt : Nat → EnV) (bk nx : Nat → Nat) (h : Nod w N dt bk nx) (x : Nat) (hx : x ∈ N) (he : e ∈ N) (hb : bk e ∈ N) (hxe : x ≠ e) :
    Calls Try.prog 117 #[.pointer (some ⟨g, 0, none⟩), .pointer (some ⟨x, 0, none⟩)] w fun en w' => en = .returned (.tuple #[]) ∧ Nod w' N (upd dt x { dt x with la := now }) (upd (upd bk x (bk e)) e x) (upd (upd nx x e) (bk e) x) ∧ Chg w w' (fun k => k ∈ N) := by
  have hgN : g ∉ N := fun q => blk_apart hg (h g q) (by decide) rfl
  have c2 : w.cell? ⟨g, 2, none⟩ = some (.int .i64 now) := hg.cellv 2 rfl
  have ltg := hg.lt
  have ltx := (h x hx).lt
  have c6 : w.cell? ⟨x, 6, none⟩ = some (.int .i64 (dt x).la) := (h x hx).cellv 6 rfl
  have f6 := (h x hx).frozen 6
  obtain ⟨h1, g1⟩ := h.last hx now
  have hC1 := Chg.of_grown (X := fun k => k ∈ N) g1 hx
  replace h1 := Lib.hid h1
  replace hC1 := Lib.hid hC1
  go_enter Try.func117, Try.ntmps117
  go_upto_region 1 with (fail)
  replace h1 := h1.out
  replace hC1 := hC1.out
  have hg1 := hC1.blk hg hgN
  clear g1 c2 c6 f6 ltg ltx h
  generalize w.setCell ⟨x, 6, none⟩ (.int .i64 now) = w1 at *
  have c4 : w1.cell? ⟨g, 4, none⟩ = some (.pointer (some ⟨e, 0, none⟩)) := hg1.cellv 4 rfl
  have ltg := hg1.lt
  have ltx := (h1 x hx).lt
  have lte := (h1 e he).lt
  have c7 : w1.cell? ⟨x, 7, none⟩ = some (.pointer (some ⟨bk x, 0, none⟩)) := (h1 x hx).cellv 7 rfl
  have c8 : w1.cell? ⟨x, 8, none⟩ = some (.pointer (some ⟨nx x, 0, none⟩)) := (h1 x hx).cellv 8 rfl
  have e7 : w1.cell? ⟨e, 7, none⟩ = some (.pointer (some ⟨bk e, 0, none⟩)) := (h1 e he).cellv 7 rfl
  have f7 := (h1 x hx).frozen 7
  have f8 := (h1 x hx).frozen 8
  obtain ⟨h2, g2⟩ := h1.back hx (bk e)
  obtain ⟨h3, g3⟩ := h2.next hx e
  have hC3 : Chg w _ (fun k => k ∈ N) := (hC1.trans (Chg.of_grown (X := fun k => k ∈ N) g2 hx) (fun _ _ q => q)).trans (Chg.of_grown (X := fun k => k ∈ N) g3 hx) (fun _ _ q => q)
  replace h3 := Lib.hid h3
  replace hC3 := Lib.hid hC3
  clear h2 g2 g3 hC1 hg1 h1
  obtain ⟨b, hbe⟩ : ∃ b, b = bk e := ⟨_, rfl⟩
  rw [← hbe] at h3 hC3 e7 hb
  have hbx : (upd bk x b) e = b := by rw [upd_other _ _ hxe.symm, hbe]
  replace hbx := Lib.hid hbx
  replace hbe := Lib.hid hbe
  go_region
  go_upto_region 2 with (fail)
  replace h3 := h3.out.chg (Chg.of_below (X := fun _ => False) (Below.refl _ _).drew) (fun _ _ q => q)
  replace hC3 := hC3.out.trans (Chg.of_below (X := fun _ => False) (Below.refl _ _).drew) (fun _ _ q => q.elim)
  have hg3 := hC3.blk hg hgN
  clear c4 ltg ltx lte c7 c8 e7 f7 f8
  generalize World.drew _ = w3 at *
  have c4 : w3.cell? ⟨g, 4, none⟩ = some (.pointer (some ⟨e, 0, none⟩)) := hg3.cellv 4 rfl
  have ltg := hg3.lt
  have ltx := (h3 x hx).lt
  have lte := (h3 e he).lt
  have ltb := (h3 b hb).lt
  have x7 : w3.cell? ⟨x, 7, none⟩ = some (.pointer (some ⟨b, 0, none⟩)) := by have q := (h3 x hx).cellv 7 (v := .pointer (some ⟨upd bk x b x, 0, none⟩)) rfl; rw [upd_same bk x b] at q; exact q
  have e7 : w3.cell? ⟨e, 7, none⟩ = some (.pointer (some ⟨b, 0, none⟩)) := by have q := (h3 e he).cellv 7 (v := .pointer (some ⟨upd bk x b e, 0, none⟩)) rfl; rw [hbx.out] at q; exact q
  have b8 : w3.cell? ⟨b, 8, none⟩ = some (.pointer (some ⟨upd nx x e b, 0, none⟩)) := (h3 b hb).cellv 8 rfl
  have f8 := (h3 b hb).frozen 8
  have f7 := (h3 e he).frozen 7
  obtain ⟨h4, g4⟩ := h3.next hb x
  obtain ⟨h5, g5⟩ := h4.back he x
  have hC5 : Chg w _ (fun k => k ∈ N) := (hC3.trans (Chg.of_grown (X := fun k => k ∈ N) g4 hb) (fun _ _ q => q)).trans (Chg.of_grown (X := fun k => k ∈ N) g5 he) (fun _ _ q => q)
  replace h5 := Lib.hid h5
  replace hC5 := Lib.hid hC5
  clear h4 g4 g5 hC3 hg3 h3
  go_region
  go_end0
  rw [← hbe.out]
  exact ⟨rfl, h5.out.chg (Chg.of_below (X := fun _ => False) (Below.refl _ _).drew) (fun _ _ q => q), hC5.out.trans (Chg.of_below (X := fun _ => False) (Below.refl _ _).drew) (fun _ _ q => q.elim)⟩
end Go.Proofs.Ytejgekoinbdhjaa
