/- wire: a Source's take. -/
import Derived.Test.YtlkammmadchjnaaWirC
import Derived.Test.YtlkammmadchjnaaSlc
import Derived.Test.YtlkammmadchjnaaBlk
import Derived.Handy
namespace Go.Proofs.Ytlkammmadchjnaa
set_option linter.unusedVariables false
open Go.RowKit

/-- what a source is: the bytes that are left, how many are not, the error. -/
structure St where
  l : List UInt8
  at_ : Int
  e : Int
/-- the next n bytes. -/
def tk (s : St) (n : Int) : St × List UInt8 :=
  if s.e ≠ 0 then (s, [])
  else if n < 0 then (⟨s.l, s.at_, 2⟩, [])
  else if (s.l.length : Int) < n then (⟨s.l, s.at_, 3⟩, [])
  else (⟨s.l.drop n.toNat, s.at_ + n, 0⟩, s.l.take n.toNat)

/-- block g is a Source of state s, its bytes in blocks below g. -/
def Src (w : World) (g : Nat) (s : St) : Prop :=
  ∃ A n c, n ≤ c ∧ c ≤ maxLen ∧ Blk w g 82 #[.bool true, .slice A n c, .int .i64 s.at_, .int .i64 s.e] ∧ Byt w g A n s.l ∧ 0 ≤ s.at_ ∧ s.at_ + s.l.length ≤ 100000000
section
variable {w w' : World} {g : Nat} {s : St}
theorem Src.lt (h : Src w g s) : g < w.heap.size := by obtain ⟨A, n, c, _, _, hb, _⟩ := h; exact hb.lt
theorem Src.below {B : Nat} (h : Src w g s) (hb : Below B w w') (hg : g < B) : Src w' g s := by
  obtain ⟨A, n, c, h1, h2, h3, h4, h5⟩ := h
  exact ⟨A, n, c, h1, h2, h3.below hb hg, h4.keep fun p hp => hb.cell (by omega), h5⟩
theorem Src.drew (h : Src w g s) : Src w.drew g s := h
theorem Src.drewN (h : Src w g s) (k : Nat) : Src (w.drewN k) g s := h
theorem Src.alloc (h : Src w g s) (o : Obj) : Src (w.alloc o) g s := h.below ((Below.refl w.heap.size w).alloc (Nat.le_refl _) o) h.lt
theorem Src.grown {row : Nat} (h : Src w g s) (hb : w.grownBy w' (some row)) (hg : g < row) : Src w' g s := by
  have hlt := h.lt
  obtain ⟨A, n, c, h1, h2, h3, h4, h5⟩ := h
  have hbe : Below (g + 1) w w' := ⟨hb.os, hb.tape, hb.output, hb.size, fun k hk => hb.block k (by omega) (by simp; omega)⟩
  exact ⟨A, n, c, h1, h2, h3.below hbe (by omega), h4.keep fun p hp => hbe.cell (by omega), h5⟩
end

set_option maxHeartbeats 400000 in
theorem ok_any (w : World) (g : Nat) (s : St) (h : Src w g s) :
    Calls Try.prog 63 #[.pointer (some ⟨g, 0, none⟩)] w fun e w' => e = .returned (.bool (decide (s.e = 0))) ∧ w = w' := by
  obtain ⟨A, n, c, h1, h2, h3, h4, h5, h6⟩ := h
  have c0 := h3.cellv 0 (v := .bool true) rfl
  have c3 := h3.cellv 3 (v := .int .i64 s.e) rfl
  go_enter Try.func63, Try.ntmps63
  go_wp2_with fail
  all_goals go_ret
  all_goals exact ⟨ret_bool (by first | rfl | (simp; done) | (simp; omega)), rfl⟩

set_option maxHeartbeats 1000000 in
theorem take_any (w : World) (g : Nat) (s : St) (h : Src w g s) (m : Int) :
    Calls Try.prog 62 #[.pointer (some ⟨g, 0, none⟩), .int .i64 m] w fun e w' => ∃ A k, e = .returned (.slice A k k) ∧ Byt w' g A k (tk s m).2 ∧ Src w' g (tk s m).1 ∧ w.grownBy w' (some g) := by
  have hs := h
  obtain ⟨A, n, c, h1, h2, h3, h4, h5, h6⟩ := h
  have hlen := h4.1
  have hm := h2
  unfold maxLen at hm
  go_enter Try.func62, Try.ntmps62
  go_wp2_with fail
  refine (ok_any w g s hs).mono ?_
  rintro e w' ⟨rfl, rfl⟩
  by_cases he : s.e = 0
  · have hed : decide (s.e = 0) = true := by simp [he]
    rw [hed]
    have c1 := h3.cellv 1 (v := .slice A n c) rfl
    have c2 := h3.cellv 2 (v := .int .i64 s.at_) rfl
    have f1 := h3.frozen 1
    have f2 := h3.frozen 2
    have f3 := h3.frozen 3
    have c3 := h3.cellv 3 (v := .int .i64 s.e) rfl
    by_cases m0 : m < 0
    · have ht : tk s m = (⟨s.l, s.at_, 2⟩, []) := by simp [tk, he, m0]
      go_wp2_with fail
      go_ret
      refine ⟨none, 0, rfl, ?_, ?_, ?_⟩
      · rw [ht]; exact byt_empty _ _ _
      · rw [ht]
        exact ⟨A, n, c, h1, h2, h3.set_ 3 _, h4.setCell (by simp) _, h5, h6⟩
      · exact grown_setCell (grown_refl _ _) (.inl rfl) _
    · by_cases m1 : (s.l.length : Int) < m
      · have ht : tk s m = (⟨s.l, s.at_, 3⟩, []) := by simp [tk, he, m0, m1]
        have m1' : (n : Int) < m := by omega
        go_wp2_with fail
        go_ret
        refine ⟨none, 0, rfl, ?_, ?_, ?_⟩
        · rw [ht]; exact byt_empty _ _ _
        · rw [ht]
          exact ⟨A, n, c, h1, h2, h3.set_ 3 _, h4.setCell (by simp) _, h5, h6⟩
        · exact grown_setCell (grown_refl _ _) (.inl rfl) _
      · have ht : tk s m = (⟨s.l.drop m.toNat, s.at_ + m, 0⟩, s.l.take m.toNat) := by simp [tk, he, m0, m1]
        obtain ⟨k, rfl⟩ := Int.eq_ofNat_of_zero_le (show 0 ≤ m by omega)
        have hkn : k ≤ n := by omega
        have hkl : ¬ (n : Int) < (k : Int) := by omega
        obtain ⟨A1, r1, b1⟩ := slice_take3 A n c k (by omega) h1
        obtain ⟨A2, r2, b2⟩ := slice_drop A n c k (by omega) h1
        go_wp2_with fail
        go_region
        go_wp2_with fail
        go_ret
        refine ⟨A1, k, rfl, ?_, ?_, grown_drew (grown_setCell (g := g) (p := ⟨g, 2, none⟩) (grown_setCell (g := g) (p := ⟨g, 1, none⟩) (grown_refl _ _) (.inl rfl) _) (.inl rfl) _)⟩
        · rw [ht]; exact (((b1 w g s.l h4).setCell (p := ⟨g, 1, none⟩) (Nat.le_refl _) _).setCell (p := ⟨g, 2, none⟩) (Nat.le_refl _) _).drew
        · rw [ht]
          refine ⟨A2, n - k, c - k, by omega, by omega, ((h3.set_ 1 _).set_ 2 _).drew.trans ?_, (((b2 w g s.l h4).setCell (p := ⟨g, 1, none⟩) (Nat.le_refl _) _).setCell (p := ⟨g, 2, none⟩) (Nat.le_refl _) _).drew, by simp; omega, by simp; omega⟩
          rw [he]; rfl
  · have hed : decide (s.e = 0) = false := by simp [he]
    rw [hed]
    go_wp2_with fail
    go_ret
    have ht : tk s m = (s, []) := by simp [tk, he]
    refine ⟨none, 0, rfl, ?_, ?_, grown_refl _ _⟩
    · rw [ht]; exact byt_empty _ _ _
    · rw [ht]; exact hs
end Go.Proofs.Ytlkammmadchjnaa
