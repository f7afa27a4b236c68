/- flows: links, out. -/
import Derived.Test.YtgdeecmhhbdjgaaFlA
import Derived.Test.YtgdeecmhhbdjgaaLate
import Derived.Test.YtgdeecmhhbdjgaaDrawE
import Derived.BigRegion
namespace Go.Proofs.Ytgdeecmhhbdjgaa
set_option linter.unusedVariables false
open Go Go.RowKit Go.Maps

/-- an entry. -/
structure EnV where
  fl : Flo
  be : Int
  la : Int
deriving DecidableEq
def lnkC (e : EnV) (b n : Nat) : Array Value := #[.int .i64 e.fl.pr, .int .u32 e.fl.src, .int .u32 e.fl.dst, .int .i64 e.fl.sp, .int .i64 e.fl.dp, .int .i64 e.be, .int .i64 e.la, .pointer (some ⟨b, 0, none⟩), .pointer (some ⟨n, 0, none⟩)]
/-- the blocks of N are links: what they hold, who is ahead, who behind. -/
def Nod (w : World) (N : List Nat) (dt : Nat → EnV) (bk nx : Nat → Nat) : Prop := ∀ k ∈ N, Blk w k 163 (lnkC (dt k) (bk k) (nx k))
def upd {α : Type} (f : Nat → α) (a : Nat) (b : α) : Nat → α := fun k => if k = a then b else f k
theorem upd_same {α : Type} (f : Nat → α) (a : Nat) (b : α) : upd f a b a = b := by unfold upd; rw [if_pos rfl]
theorem upd_other {α : Type} (f : Nat → α) {a k : Nat} (b : α) (h : k ≠ a) : upd f a b k = f k := by unfold upd; rw [if_neg h]
section
variable {w w' : World} {N : List Nat} {dt : Nat → EnV} {bk nx : Nat → Nat}
theorem Nod.chg {X : Nat → Prop} (h : Nod w N dt bk nx) (hc : Chg w w' X) (hX : ∀ k ∈ N, ¬ X k) : Nod w' N dt bk nx := fun k hk => hc.blk (h k hk) (hX k hk)
theorem Nod.next (h : Nod w N dt bk nx) {b : Nat} (hb : b ∈ N) (n : Nat) : Nod (w.setCell ⟨b, 8, none⟩ (.pointer (some ⟨n, 0, none⟩))) N dt bk (upd nx b n) ∧ w.grownBy (w.setCell ⟨b, 8, none⟩ (.pointer (some ⟨n, 0, none⟩))) (some b) := by
  obtain ⟨h1, h2⟩ := blk_store (h b hb) 8 (.pointer (some ⟨n, 0, none⟩))
  refine ⟨fun k hk => ?_, h2⟩
  by_cases e : k = b
  · subst e
    rw [upd_same]
    exact h1
  · rw [upd_other _ _ e]
    exact (h k hk).grown h2 (by simpa using e)
theorem Nod.back (h : Nod w N dt bk nx) {b : Nat} (hb : b ∈ N) (n : Nat) : Nod (w.setCell ⟨b, 7, none⟩ (.pointer (some ⟨n, 0, none⟩))) N dt (upd bk b n) nx ∧ w.grownBy (w.setCell ⟨b, 7, none⟩ (.pointer (some ⟨n, 0, none⟩))) (some b) := by
  obtain ⟨h1, h2⟩ := blk_store (h b hb) 7 (.pointer (some ⟨n, 0, none⟩))
  refine ⟨fun k hk => ?_, h2⟩
  by_cases e : k = b
  · subst e
    rw [upd_same]
    exact h1
  · rw [upd_other _ _ e]
    exact (h k hk).grown h2 (by simpa using e)
theorem Nod.last (h : Nod w N dt bk nx) {b : Nat} (hb : b ∈ N) (z : Int) : Nod (w.setCell ⟨b, 6, none⟩ (.int .i64 z)) N (upd dt b { dt b with la := z }) bk nx ∧ w.grownBy (w.setCell ⟨b, 6, none⟩ (.int .i64 z)) (some b) := by
  obtain ⟨h1, h2⟩ := blk_store (h b hb) 6 (.int .i64 z)
  refine ⟨fun k hk => ?_, h2⟩
  by_cases e : k = b
  · subst e
    rw [upd_same]
    exact h1
  · rw [upd_other _ _ e]
    exact (h k hk).grown h2 (by simpa using e)
theorem Nod.be (h : Nod w N dt bk nx) {b : Nat} (hb : b ∈ N) (z : Int) : Nod (w.setCell ⟨b, 5, none⟩ (.int .i64 z)) N (upd dt b { dt b with be := z }) bk nx ∧ w.grownBy (w.setCell ⟨b, 5, none⟩ (.int .i64 z)) (some b) := by
  obtain ⟨h1, h2⟩ := blk_store (h b hb) 5 (.int .i64 z)
  refine ⟨fun k hk => ?_, h2⟩
  by_cases e : k = b
  · subst e
    rw [upd_same]
    exact h1
  · rw [upd_other _ _ e]
    exact (h k hk).grown h2 (by simpa using e)
end
def tabC (room idle now : Int) (m e : Nat) (came went : Int) : Array Value := #[.int .i64 room, .int .i64 idle, .int .i64 now, .map (some m), .pointer (some ⟨e, 0, none⟩), .int .i64 came, .int .i64 went]
theorem blk_apart {w : World} {a b : Nat} {T U : TypeId} {cs ds : Array Value} (h : Blk w a T cs) (k : Blk w b U ds) (hn : T ≠ U) : a ≠ b := by
  intro e
  subst e
  unfold Blk at h k
  rw [h] at k
  injection k with k
  injection k with _ k
  exact hn k
end Go.Proofs.Ytgdeecmhhbdjgaa
