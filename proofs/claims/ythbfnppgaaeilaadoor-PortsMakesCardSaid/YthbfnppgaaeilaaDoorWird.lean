/- wire: a Source's take. wire: a Source's methods. wire: lives. wire: a source that no call made; End. wire: End, Rest, Sub of a source that was made. -/
import Derived.Test.YthbfnppgaaeilaaDoorWira
import Derived.Test.YthbfnppgaaeilaaDoorLib
import Derived.Handy
namespace Go.Proofs.YthbfnppgaaeilaaDoor
set_option linter.unusedVariables false
open Go.RowKit

/-- what a source is: the bytes that are left, how many are not, the error. -/
structure St where
  l : List UInt8
  at_ : Int
  e : Int
/-- the next n bytes. -/
def tk (s : St) (n : Int) : St × List UInt8 :=
  if s.e ≠ 0 then (s, [])
  else if n < 0 then (⟨s.l, s.at_, 2⟩, [])
  else if (s.l.length : Int) < n then (⟨s.l, s.at_, 3⟩, [])
  else (⟨s.l.drop n.toNat, s.at_ + n, 0⟩, s.l.take n.toNat)

/-- block g is a Source of state s, its bytes in blocks below g. -/
def Src (w : World) (g : Nat) (s : St) : Prop :=
  ∃ A n c, n ≤ c ∧ c ≤ maxLen ∧ Blk w g 128 #[.bool true, .slice A n c, .int .i64 s.at_, .int .i64 s.e] ∧ Byt w g A n s.l ∧ 0 ≤ s.at_ ∧ s.at_ + s.l.length ≤ 100000000
section
variable {w w' : World} {g : Nat} {s : St}
theorem Src.lt (h : Src w g s) : g < w.heap.size := by obtain ⟨A, n, c, _, _, hb, _⟩ := h; exact hb.lt
theorem Src.below {B : Nat} (h : Src w g s) (hb : Below B w w') (hg : g < B) : Src w' g s := by
  obtain ⟨A, n, c, h1, h2, h3, h4, h5⟩ := h
  exact ⟨A, n, c, h1, h2, h3.below hb hg, h4.keep fun p hp => hb.cell (by omega), h5⟩
theorem Src.drew (h : Src w g s) : Src w.drew g s := h
theorem Src.drewN (h : Src w g s) (k : Nat) : Src (w.drewN k) g s := h
theorem Src.alloc (h : Src w g s) (o : Obj) : Src (w.alloc o) g s := h.below ((Below.refl w.heap.size w).alloc (Nat.le_refl _) o) h.lt
theorem Src.grown {row : Nat} (h : Src w g s) (hb : w.grownBy w' (some row)) (hg : g < row) : Src w' g s := by
  have hlt := h.lt
  obtain ⟨A, n, c, h1, h2, h3, h4, h5⟩ := h
  have hbe : Below (g + 1) w w' := ⟨hb.os, hb.tape, hb.output, hb.size, fun k hk => hb.block k (by omega) (by simp; omega)⟩
  exact ⟨A, n, c, h1, h2, h3.below hbe (by omega), h4.keep fun p hp => hbe.cell (by omega), h5⟩
end

set_option maxHeartbeats 400000 in
theorem ok_any (w : World) (g : Nat) (s : St) (h : Src w g s) :
    Calls Tryd.prog 105 #[.pointer (some ⟨g, 0, none⟩)] w fun e w' => e = .returned (.bool (decide (s.e = 0))) ∧ w = w' := by
  obtain ⟨A, n, c, h1, h2, h3, h4, h5, h6⟩ := h
  have c0 := h3.cellv 0 (v := .bool true) rfl
  have c3 := h3.cellv 3 (v := .int .i64 s.e) rfl
  go_enter Tryd.func105, Tryd.ntmps105
  go_wp2_with fail
  all_goals go_ret
  all_goals exact ⟨ret_bool (by first | rfl | (simp; done) | (simp; omega)), rfl⟩

set_option maxHeartbeats 1000000 in
theorem take_any (w : World) (g : Nat) (s : St) (h : Src w g s) (m : Int) :
    Calls Tryd.prog 104 #[.pointer (some ⟨g, 0, none⟩), .int .i64 m] w fun e w' => ∃ A k, e = .returned (.slice A k k) ∧ Byt w' g A k (tk s m).2 ∧ Src w' g (tk s m).1 ∧ w.grownBy w' (some g) := by
  have hs := h
  obtain ⟨A, n, c, h1, h2, h3, h4, h5, h6⟩ := h
  have hlen := h4.1
  have hm := h2
  unfold maxLen at hm
  go_enter Tryd.func104, Tryd.ntmps104
  go_wp2_with fail
  refine (ok_any w g s hs).mono ?_
  rintro e w' ⟨rfl, rfl⟩
  by_cases he : s.e = 0
  · have hed : decide (s.e = 0) = true := by simp [he]
    rw [hed]
    have c1 := h3.cellv 1 (v := .slice A n c) rfl
    have c2 := h3.cellv 2 (v := .int .i64 s.at_) rfl
    have f1 := h3.frozen 1
    have f2 := h3.frozen 2
    have f3 := h3.frozen 3
    have c3 := h3.cellv 3 (v := .int .i64 s.e) rfl
    by_cases m0 : m < 0
    · have ht : tk s m = (⟨s.l, s.at_, 2⟩, []) := by simp [tk, he, m0]
      go_wp2_with fail
      go_ret
      refine ⟨none, 0, rfl, ?_, ?_, ?_⟩
      · rw [ht]; exact byt_empty _ _ _
      · rw [ht]
        exact ⟨A, n, c, h1, h2, h3.set_ 3 _, h4.setCell (by simp) _, h5, h6⟩
      · exact grown_setCell (grown_refl _ _) (.inl rfl) _
    · by_cases m1 : (s.l.length : Int) < m
      · have ht : tk s m = (⟨s.l, s.at_, 3⟩, []) := by simp [tk, he, m0, m1]
        have m1' : (n : Int) < m := by omega
        go_wp2_with fail
        go_ret
        refine ⟨none, 0, rfl, ?_, ?_, ?_⟩
        · rw [ht]; exact byt_empty _ _ _
        · rw [ht]
          exact ⟨A, n, c, h1, h2, h3.set_ 3 _, h4.setCell (by simp) _, h5, h6⟩
        · exact grown_setCell (grown_refl _ _) (.inl rfl) _
      · have ht : tk s m = (⟨s.l.drop m.toNat, s.at_ + m, 0⟩, s.l.take m.toNat) := by simp [tk, he, m0, m1]
        obtain ⟨k, rfl⟩ := Int.eq_ofNat_of_zero_le (show 0 ≤ m by omega)
        have hkn : k ≤ n := by omega
        have hkl : ¬ (n : Int) < (k : Int) := by omega
        obtain ⟨A1, r1, b1⟩ := slice_take3 A n c k (by omega) h1
        obtain ⟨A2, r2, b2⟩ := slice_drop A n c k (by omega) h1
        go_wp2_with fail
        go_region
        go_wp2_with fail
        go_ret
        refine ⟨A1, k, rfl, ?_, ?_, grown_drew (grown_setCell (g := g) (p := ⟨g, 2, none⟩) (grown_setCell (g := g) (p := ⟨g, 1, none⟩) (grown_refl _ _) (.inl rfl) _) (.inl rfl) _)⟩
        · rw [ht]; exact (((b1 w g s.l h4).setCell (p := ⟨g, 1, none⟩) (Nat.le_refl _) _).setCell (p := ⟨g, 2, none⟩) (Nat.le_refl _) _).drew
        · rw [ht]
          refine ⟨A2, n - k, c - k, by omega, by omega, ((h3.set_ 1 _).set_ 2 _).drew.trans ?_, (((b2 w g s.l h4).setCell (p := ⟨g, 1, none⟩) (Nat.le_refl _) _).setCell (p := ⟨g, 2, none⟩) (Nat.le_refl _) _).drew, by simp; omega, by simp; omega⟩
          rw [he]; rfl
  · have hed : decide (s.e = 0) = false := by simp [he]
    rw [hed]
    go_wp2_with fail
    go_ret
    have ht : tk s m = (s, []) := by simp [tk, he]
    refine ⟨none, 0, rfl, ?_, ?_, grown_refl _ _⟩
    · rw [ht]; exact byt_empty _ _ _
    · rw [ht]; exact hs
end Go.Proofs.YthbfnppgaaeilaaDoor

namespace Go.Proofs.YthbfnppgaaeilaaDoor
set_option linter.unusedVariables false
open Go.RowKit

theorem tk_len (s : St) (n : Int) : (tk s n).2.length = n.toNat ∨ (tk s n).2.length = 0 := by
  unfold tk
  split
  · exact .inr rfl
  · split
    · exact .inr rfl
    · split
      · exact .inr rfl
      · refine .inl ?_
        simp only [List.length_take]
        omega
theorem tk_max (s : St) (n : Int) : (tk s n).2.length ≤ s.l.length := by
  unfold tk
  split
  · exact Nat.zero_le _
  · split
    · exact Nat.zero_le _
    · split
      · exact Nat.zero_le _
      · simp only [List.length_take]
        omega
/-- the number that is got. -/
def numV (s : St) (k : Nat) : Int := if (tk s k).2.length < k then 0 else getN (tk s k).2 k
theorem numV_lo (s : St) (k : Nat) : 0 ≤ numV s k := by
  unfold numV; split
  · exact Int.le_refl _
  · exact getN_lo _ _
theorem numV_4 (s : St) (k : Nat) (h : k ≤ 4) : numV s k ≤ 4294967295 := by
  unfold numV; split
  · decide
  · exact getN_4 _ _ h

theorem Src.max {w : World} {g : Nat} {s : St} (h : Src w g s) : s.l.length ≤ 100000000 := by
  obtain ⟨A, n, c, _, _, _, _, h5, h6⟩ := h; omega

set_option maxHeartbeats 400000 in
theorem num_any (w : World) (g : Nat) (s : St) (h : Src w g s) (size : Nat) (h1 : 0 < size) (h4 : size ≤ 4) :
    Calls Tryd.prog 89 #[.pointer (some ⟨g, 0, none⟩), .int .i64 (size : Int)] w fun e w' => e = .returned (.int .u64 (numV s size)) ∧ Src w' g (tk s size).1 ∧ w.grownBy w' (some g) := by
  have hmx := h.max
  have hmx2 := tk_max s size
  go_enter Tryd.func89, Tryd.ntmps89
  go_wp2_with fail
  refine (take_any w g s h size).mono ?_
  rintro e w1 ⟨A, k, rfl, hb, hs, hg⟩
  have hl := hb.1
  by_cases hlt : k < size
  · have hv : numV s size = 0 := by simp [numV, hl, hlt]
    go_wp2_with fail
    go_ret
    exact ⟨ret_int hv.symm, hs, hg⟩
  · have hv : numV s size = getN (tk s size).2 size := by simp [numV, hl, hlt]
    go_wp2_with fail
    refine (get_any w1 A k k _ g hb (Nat.le_refl _) (by unfold maxLen; omega) size h1 h4 (by omega)).mono ?_
    rintro e w' ⟨rfl, rfl⟩
    go_wp2_with fail
    go_ret
    exact ⟨ret_int hv.symm, hs, hg⟩

set_option maxHeartbeats 400000 in
theorem u8_any (w : World) (g : Nat) (s : St) (h : Src w g s) :
    Calls Tryd.prog 67 #[.pointer (some ⟨g, 0, none⟩)] w fun e w' => e = .returned (.int .i64 (numV s 1)) ∧ Src w' g (tk s 1).1 ∧ w.grownBy w' (some g) := by
  have b1 := numV_lo s 1
  have b2 := numV_4 s 1 (by omega)
  go_enter Tryd.func67, Tryd.ntmps67
  go_wp2_with fail
  refine (num_any w g s h 1 (by omega) (by omega)).mono ?_
  rintro e w1 ⟨rfl, hs, hg⟩
  go_wp2_with fail
  go_ret
  exact ⟨rfl, hs, hg⟩
set_option maxHeartbeats 400000 in
theorem u16_any (w : World) (g : Nat) (s : St) (h : Src w g s) :
    Calls Tryd.prog 66 #[.pointer (some ⟨g, 0, none⟩)] w fun e w' => e = .returned (.int .i64 (numV s 2)) ∧ Src w' g (tk s 2).1 ∧ w.grownBy w' (some g) := by
  have b1 := numV_lo s 2
  have b2 := numV_4 s 2 (by omega)
  go_enter Tryd.func66, Tryd.ntmps66
  go_wp2_with fail
  refine (num_any w g s h 2 (by omega) (by omega)).mono ?_
  rintro e w1 ⟨rfl, hs, hg⟩
  go_wp2_with fail
  go_ret
  exact ⟨rfl, hs, hg⟩
set_option maxHeartbeats 400000 in
theorem u32_any (w : World) (g : Nat) (s : St) (h : Src w g s) :
    Calls Tryd.prog 68 #[.pointer (some ⟨g, 0, none⟩)] w fun e w' => e = .returned (.int .u32 (numV s 4)) ∧ Src w' g (tk s 4).1 ∧ w.grownBy w' (some g) := by
  have b1 := numV_lo s 4
  have b2 := numV_4 s 4 (by omega)
  go_enter Tryd.func68, Tryd.ntmps68
  go_wp2_with fail
  refine (num_any w g s h 4 (by omega) (by omega)).mono ?_
  rintro e w1 ⟨rfl, hs, hg⟩
  go_wp2_with fail
  go_ret
  exact ⟨rfl, hs, hg⟩

def leftV (s : St) : Int := if s.e = 0 then s.l.length else 0
set_option maxHeartbeats 400000 in
theorem left_any (w : World) (g : Nat) (s : St) (h : Src w g s) :
    Calls Tryd.prog 91 #[.pointer (some ⟨g, 0, none⟩)] w fun e w' => e = .returned (.int .i64 (leftV s)) ∧ w = w' := by
  have hs := h
  obtain ⟨A, n, c, h1, h2, h3, h4, h5, h6⟩ := h
  have hl := h4.1
  have c1 := h3.cellv 1 (v := .slice A n c) rfl
  go_enter Tryd.func91, Tryd.ntmps91
  go_wp2_with fail
  refine (ok_any w g s hs).mono ?_
  rintro e w' ⟨rfl, rfl⟩
  by_cases he : s.e = 0
  · have hv : leftV s = n := by simp [leftV, he, hl]
    have hed : decide (s.e = 0) = true := by simp [he]
    rw [hed]
    go_wp2_with fail
    go_ret
    exact ⟨ret_int hv.symm, rfl⟩
  · have hv : leftV s = 0 := by simp [leftV, he]
    have hed : decide (s.e = 0) = false := by simp [he]
    rw [hed]
    go_wp2_with fail
    go_ret
    exact ⟨ret_int hv.symm, rfl⟩
set_option maxHeartbeats 400000 in
theorem read_any (w : World) (A : Option Addr) (n c : Nat) (l : List UInt8) (B : Nat) (h : Byt w B A n l) (hB : B ≤ w.heap.size) (hn : n ≤ 100000000) :
    Calls Tryd.prog 65 #[.slice A n c] w fun e w' => ∃ g, e = .returned (.pointer (some ⟨g, 0, none⟩)) ∧ w.heap.size ≤ g ∧ Src w' g ⟨l, 0, 0⟩ ∧ Below w.heap.size w w' := by
  go_enter Tryd.func65, Tryd.ntmps65
  go_wp2_with fail
  refine (clone_any w A n c l B h hB hn).mono ?_
  rintro e w1 ⟨v, rfl, hown, hb⟩
  obtain ⟨A1, c1, rfl, hc1, hby, hA⟩ := hown.any
  have hc2 : c1 ≤ maxLen := by
    rcases Nat.eq_zero_or_pos n with h0 | h0
    · rcases hown.2 with ⟨e, _⟩ | ⟨g, cap, cur, e, _, _, _, hm, _⟩
      · injection e with _ _ e; rw [e]; exact Nat.zero_le _
      · injection e with _ _ e; rw [e]; exact hm
    · obtain ⟨g, cap, e, _, _, _, hm⟩ := hown.form h0
      injection e with _ _ e; rw [e]; exact hm
  have hl := h.1
  go_wp2_with fail
  go_ret
  refine ⟨_, rfl, hb.size, ⟨A1, n, c1, hc1, hc2, Blk.new _ _ _, hby.alloc (Nat.le_refl _) _, by simp, by simp; omega⟩, hb.alloc hb.size _⟩

set_option maxHeartbeats 400000 in
theorem bytes_any (w : World) (g : Nat) (s : St) (h : Src w g s) (m : Int) :
    Calls Tryd.prog 90 #[.pointer (some ⟨g, 0, none⟩), .int .i64 m] w fun e w' => ∃ v, e = .returned v ∧ OwnB w' w.heap.size v (tk s m).2.length (tk s m).2 ∧ Src w' g (tk s m).1 ∧ w.grownBy w' (some g) := by
  have hmx := h.max
  have hmx2 := tk_max s m
  have hlt := h.lt
  go_enter Tryd.func90, Tryd.ntmps90
  go_wp2_with fail
  refine (take_any w g s h m).mono ?_
  rintro e w1 ⟨A, k, rfl, hb, hs, hg⟩
  have hl := hb.1
  have hsz := hg.size
  go_wp2_with fail
  refine (clone_any w1 A k k _ g hb (by omega) (by omega)).mono ?_
  rintro e w2 ⟨v, rfl, hown, hbe⟩
  go_wp2_with fail
  go_ret
  refine ⟨_, rfl, ?_, hs.below hbe (by omega), grown_trans hg (grown_of hbe (Nat.le_refl _) _)⟩
  rw [hl]
  refine ⟨hown.1, ?_⟩
  rcases hown.2 with h0 | ⟨g2, cap, cur, q1, q2, q3⟩
  · exact .inl h0
  · exact .inr ⟨g2, cap, cur, q1, by omega, q3⟩
end Go.Proofs.YthbfnppgaaeilaaDoor

namespace Go.Proofs.YthbfnppgaaeilaaDoor
set_option linter.unusedVariables false
open Go.RowKit

theorem OwnB.str {w : World} {base n : Nat} {v : Value} {l : List UInt8} (h : OwnB w base v n l) : (convert 43 9 v).run Tryd.prog w = .ok (.string (strB l)) w := by
  obtain ⟨A, c, rfl, _, hb, _⟩ := h.any
  exact run_str w hb c

end Go.Proofs.YthbfnppgaaeilaaDoor

namespace Go.Proofs.YthbfnppgaaeilaaDoor
set_option linter.unusedVariables false
open Go.RowKit

/-- nil, or a Source that is zero. -/
def Dead (w : World) (v : Value) : Prop := v = .pointer none ∨ ∃ g, v = .pointer (some ⟨g, 0, none⟩) ∧ Blk w g 128 #[.bool false, .slice none 0 0, .int .i64 0, .int .i64 0]
theorem Dead.below {w w' : World} {v : Value} (h : Dead w v) (hb : Below w.heap.size w w') : Dead w' v := by
  rcases h with h | ⟨g, h, hk⟩
  · exact .inl h
  · exact .inr ⟨g, h, hk.below hb hk.lt⟩

set_option maxHeartbeats 400000 in
theorem ok_dead (w : World) (v : Value) (h : Dead w v) :
    Calls Tryd.prog 105 #[v] w fun e w' => e = .returned (.bool false) ∧ w = w' := by
  rcases h with rfl | ⟨g, rfl, h3⟩
  · go_enter Tryd.func105, Tryd.ntmps105
    go_wp2_with fail
    go_ret
    exact ⟨rfl, rfl⟩
  · have c0 := h3.cellv 0 (v := .bool false) rfl
    go_enter Tryd.func105, Tryd.ntmps105
    go_wp2_with fail
    go_ret
    exact ⟨rfl, rfl⟩
set_option maxHeartbeats 400000 in
theorem take_dead (w : World) (v : Value) (h : Dead w v) (m : Int) :
    Calls Tryd.prog 104 #[v, .int .i64 m] w fun e w' => e = .returned (.slice none 0 0) ∧ w = w' := by
  go_enter Tryd.func104, Tryd.ntmps104
  go_wp2_with fail
  refine (ok_dead w v h).mono ?_
  rintro e w' ⟨rfl, rfl⟩
  go_wp2_with fail
  go_ret
  exact ⟨rfl, rfl⟩
set_option maxHeartbeats 400000 in
theorem num_dead (w : World) (v : Value) (h : Dead w v) (size : Nat) (h1 : 0 < size) :
    Calls Tryd.prog 89 #[v, .int .i64 (size : Int)] w fun e w' => e = .returned (.int .u64 0) ∧ w = w' := by
  go_enter Tryd.func89, Tryd.ntmps89
  go_wp2_with fail
  refine (take_dead w v h _).mono ?_
  rintro e w' ⟨rfl, rfl⟩
  go_wp2_with fail
  go_ret
  exact ⟨rfl, rfl⟩
set_option maxHeartbeats 400000 in
theorem u8_dead (w : World) (v : Value) (h : Dead w v) : Calls Tryd.prog 67 #[v] w fun e w' => e = .returned (.int .i64 0) ∧ w = w' := by
  go_enter Tryd.func67, Tryd.ntmps67
  go_wp2_with fail
  refine (num_dead w v h 1 (by omega)).mono ?_
  rintro e w' ⟨rfl, rfl⟩
  go_wp2_with fail
  go_ret
  exact ⟨rfl, rfl⟩
set_option maxHeartbeats 400000 in
theorem u16_dead (w : World) (v : Value) (h : Dead w v) : Calls Tryd.prog 66 #[v] w fun e w' => e = .returned (.int .i64 0) ∧ w = w' := by
  go_enter Tryd.func66, Tryd.ntmps66
  go_wp2_with fail
  refine (num_dead w v h 2 (by omega)).mono ?_
  rintro e w' ⟨rfl, rfl⟩
  go_wp2_with fail
  go_ret
  exact ⟨rfl, rfl⟩
set_option maxHeartbeats 400000 in
theorem u32_dead (w : World) (v : Value) (h : Dead w v) : Calls Tryd.prog 68 #[v] w fun e w' => e = .returned (.int .u32 0) ∧ w = w' := by
  go_enter Tryd.func68, Tryd.ntmps68
  go_wp2_with fail
  refine (num_dead w v h 4 (by omega)).mono ?_
  rintro e w' ⟨rfl, rfl⟩
  go_wp2_with fail
  go_ret
  exact ⟨rfl, rfl⟩
set_option maxHeartbeats 400000 in
theorem clone_nil (w : World) : Calls Tryd.prog 70 #[.slice none 0 0] w fun e w' => e = .returned (.slice none 0 0) ∧ w = w' := by
  have heq := fun w => Go.run_eql_slice_nil (P := Tryd.prog) w 43 5 none 0 0 Tryd.underlying43
  go_enter Tryd.func70, Tryd.ntmps70
  go_wp2_with fail
  go_ret
  exact ⟨rfl, rfl⟩
set_option maxHeartbeats 400000 in
theorem bytes_dead (w : World) (v : Value) (h : Dead w v) (m : Int) : Calls Tryd.prog 90 #[v, .int .i64 m] w fun e w' => e = .returned (.slice none 0 0) ∧ w = w' := by
  go_enter Tryd.func90, Tryd.ntmps90
  go_wp2_with fail
  refine (take_dead w v h _).mono ?_
  rintro e w' ⟨rfl, rfl⟩
  go_wp2_with fail
  refine (clone_nil w).mono ?_
  rintro e w' ⟨rfl, rfl⟩
  go_wp2_with fail
  go_ret
  exact ⟨rfl, rfl⟩
set_option maxHeartbeats 400000 in
theorem left_dead (w : World) (v : Value) (h : Dead w v) : Calls Tryd.prog 91 #[v] w fun e w' => e = .returned (.int .i64 0) ∧ w = w' := by
  go_enter Tryd.func91, Tryd.ntmps91
  go_wp2_with fail
  refine (ok_dead w v h).mono ?_
  rintro e w' ⟨rfl, rfl⟩
  go_wp2_with fail
  go_ret
  exact ⟨rfl, rfl⟩
set_option maxHeartbeats 400000 in
theorem rest_dead (w : World) (v : Value) (h : Dead w v) : Calls Tryd.prog 69 #[v] w fun e w' => e = .returned (.slice none 0 0) ∧ w = w' := by
  go_enter Tryd.func69, Tryd.ntmps69
  go_wp2_with fail
  refine (left_dead w v h).mono ?_
  rintro e w' ⟨rfl, rfl⟩
  go_wp2_with fail
  refine (bytes_dead w v h _).mono ?_
  rintro e w' ⟨rfl, rfl⟩
  go_wp2_with fail
  go_ret
  exact ⟨rfl, rfl⟩
end Go.Proofs.YthbfnppgaaeilaaDoor

namespace Go.Proofs.YthbfnppgaaeilaaDoor
set_option linter.unusedVariables false
open Go.RowKit

def endV (s : St) : Int := if s.e ≠ 0 then s.e else if 0 < leftV s then 4 else 0

theorem tk_at (s : St) (m : Int) : (tk s m).1.at_ = s.at_ + (tk s m).2.length := by
  unfold tk
  split
  · simp
  · split
    · simp
    · split
      · simp
      · simp only [List.length_take]; omega
set_option maxHeartbeats 400000 in
theorem rest_any (w : World) (g : Nat) (s : St) (h : Src w g s) :
    Calls Tryd.prog 69 #[.pointer (some ⟨g, 0, none⟩)] w fun e w' => ∃ v, e = .returned v ∧ OwnB w' w.heap.size v (tk s (leftV s)).2.length (tk s (leftV s)).2 ∧ Src w' g (tk s (leftV s)).1 ∧ w.grownBy w' (some g) := by
  go_enter Tryd.func69, Tryd.ntmps69
  go_wp2_with fail
  refine (left_any w g s h).mono ?_
  rintro e w' ⟨rfl, rfl⟩
  go_wp2_with fail
  refine (bytes_any w g s h _).mono ?_
  rintro e w' ⟨v, rfl, h1, h2, h3⟩
  go_wp2_with fail
  go_ret
  exact ⟨_, rfl, h1, h2, h3⟩
end Go.Proofs.YthbfnppgaaeilaaDoor
