import Derived.Test.YtecmhakapomepaaGreatMConfigForms13
import Derived.StillTailTactics
/- wire: the document's Source. wire: the document's Source: numbers, Sub, Rest, End. -/
namespace Go.Proofs.YtecmhakapomepaaGreat
set_option linter.unusedVariables false
open Go.RowKit

/-- block g is the document's Source of state s, its bytes in blocks from lo on, below g. -/
def Ref (w : World) (lo g : Nat) (s : St) : Prop :=
  ∃ (A : Option Addr) (n c N : Nat) (L : List UInt8), n ≤ c ∧ c ≤ maxLen ∧ Blk w g 79 #[.slice A n c, .int .i64 (N : Int), .int .i64 s.e] ∧ Byt w g A n L ∧ (∀ a, A = some a → lo ≤ a.block) ∧
    s.at_ = (N : Int) ∧ N ≤ n ∧ s.l = L.drop N ∧ n ≤ 100000000
section
variable {w w' : World} {lo g : Nat} {s : St}
theorem Ref.lt (h : Ref w lo g s) : g < w.heap.size := by obtain ⟨A, n, c, N, L, _, _, hb, _⟩ := h; exact hb.lt
theorem Ref.below {B : Nat} (h : Ref w lo g s) (hb : Below B w w') (hg : g < B) : Ref w' lo g s := by
  obtain ⟨A, n, c, N, L, h1, h2, h3, h4, h5⟩ := h
  exact ⟨A, n, c, N, L, h1, h2, h3.below hb hg, h4.keep fun p hp => hb.cell (by omega), h5⟩
theorem Ref.drew (h : Ref w lo g s) : Ref w.drew lo g s := h
theorem Ref.alloc (h : Ref w lo g s) (o : Obj) : Ref (w.alloc o) lo g s := h.below ((Below.refl w.heap.size w).alloc (Nat.le_refl _) o) h.lt
/-- another block, below its own, was written. -/
theorem Ref.grown {row : Nat} (h : Ref w lo g s) (hb : w.grownBy w' (some row)) (h1 : row < lo) (h2 : row < g) : Ref w' lo g s := by
  obtain ⟨A, n, c, N, L, h1', h2', h3, h4, h5, h6⟩ := h
  refine ⟨A, n, c, N, L, h1', h2', h3.grown hb (by simp; omega), ⟨h4.1, fun hn => ?_⟩, h5, h6⟩
  obtain ⟨b, off, rfl, hbg, hc⟩ := h4.2 hn
  have hlo : lo ≤ b := h5 _ rfl
  refine ⟨b, off, rfl, hbg, fun j hj => ?_⟩
  rw [← hc j hj]
  have e := hb.block b (by have := h3.lt; omega) (by simp; omega)
  unfold World.cell?
  rw [e]
end

set_option maxHeartbeats 400000 in
theorem refRead_any (w : World) (A : Option Addr) (n c : Nat) (l : List UInt8) (B : Nat) (h : Byt w B A n l) (hB : B ≤ w.heap.size) (hn : n ≤ 100000000) :
    Calls Tryz.prog 31 #[.slice A n c] w fun e w' => ∃ g, e = .returned (.pointer (some ⟨g, 0, none⟩)) ∧ w.heap.size ≤ g ∧ Ref w' w.heap.size g ⟨l, 0, 0⟩ ∧ Below w.heap.size w w' := by
  have hown0 := OwnB.lit (base := w.heap.size) w [] (Nat.le_refl _) (by simp)
  have hI := h.alloc hB (.cells #[] 5)
  go_enter Tryz.func31, Tryz.ntmps31
  go_wp2_with (at_builtin; refine wpList_app _ rfl (.tmp 3) (.tmp 4) rfl w.heap.size _ 0 [] rfl hown0 B A n c l rfl hI (by omega) (by simp) ?_; intro v2 w2 hown2 hg2 hd2; clear hd2; have hB2 : Below w.heap.size w w2 := ((Below.refl _ _).alloc (Nat.le_refl _) _).trans (hown0.below_app hg2 (by simp)); rw [Nat.zero_add, List.nil_append] at hown2; obtain ⟨A1, c1, rfl, hc1, hby, hA⟩ := hown2.any)
  have hc2 : c1 ≤ maxLen := by
    rcases hown2.2 with ⟨e, _⟩ | ⟨g, cap, cur, e, _, _, _, hm, _⟩
    · injection e with _ _ e; rw [e]; exact Nat.zero_le _
    · injection e with _ _ e; rw [e]; exact hm
  go_ret
  refine ⟨_, rfl, hB2.size, ⟨A1, n, c1, 0, l, hc1, hc2, Blk.new _ _ _, hby.alloc (Nat.le_refl _) _, hA, rfl, Nat.zero_le _, by simp, hn⟩, hB2.alloc hB2.size _⟩

set_option maxHeartbeats 400000 in
theorem refLeft_any (w : World) (lo g : Nat) (s : St) (h : Ref w lo g s) :
    Calls Tryz.prog 68 #[.pointer (some ⟨g, 0, none⟩)] w fun e w' => ∃ k, e = .returned (.int .i64 (leftV s)) ∧ w' = w.drewN k := by
  obtain ⟨A, n, c, N, L, h1, h2, h3, h4, h5, h6, h7, h8, h9⟩ := h
  have hl := h4.1
  have c0 := h3.cellv 0 (v := .slice A n c) rfl
  have c1 := h3.cellv 1 (v := .int .i64 (N : Int)) rfl
  have c2 := h3.cellv 2 (v := .int .i64 s.e) rfl
  go_enter Tryz.func68, Tryz.ntmps68
  by_cases he : s.e = 0
  · have hv : leftV s = (n : Int) - N := by simp [leftV, he, h8, hl]; omega
    rw [he] at c2
    go_wp2_with fail
    go_quiet (fail)
    go_wp2_with fail
    go_ret
    exact ⟨_, ret_int hv.symm, rfl⟩
  · have hv : leftV s = 0 := by simp [leftV, he]
    go_wp2_with fail
    go_ret
    exact ⟨0, ret_int hv.symm, rfl⟩

theorem OwnB.less {w : World} {base base' n : Nat} {v : Value} {l : List UInt8} (h : OwnB w base v n l) (hle : base' ≤ base) : OwnB w base' v n l := by
  refine ⟨h.1, ?_⟩
  rcases h.2 with h0 | ⟨g2, cap, cur, q1, q2, q3⟩
  · exact .inl h0
  · exact .inr ⟨g2, cap, cur, q1, by omega, q3⟩
set_option maxHeartbeats 2000000 in
theorem refBytes_any (w : World) (lo g : Nat) (s : St) (h : Ref w lo g s) (m : Int) :
    Calls Tryz.prog 101 #[.pointer (some ⟨g, 0, none⟩), .int .i64 m] w fun e w' => ∃ v, e = .returned v ∧ OwnB w' w.heap.size v (tk s m).2.length (tk s m).2 ∧ Ref w' lo g (tk s m).1 ∧ w.grownBy w' (some g) := by
  have hs := h
  have hlt := h.lt
  obtain ⟨A, n, c, N, L, h1, h2, h3, h4, h5, h6, h7, h8, h9⟩ := h
  have hl := h4.1
  have hsl : s.l.length = n - N := by rw [h8, List.length_drop, hl]
  have c0 := h3.cellv 0 (v := .slice A n c) rfl
  have c1 := h3.cellv 1 (v := .int .i64 (N : Int)) rfl
  have c2 := h3.cellv 2 (v := .int .i64 s.e) rfl
  have f1 := h3.frozen 1
  have f2 := h3.frozen 2
  go_enter Tryz.func101, Tryz.ntmps101
  by_cases he : s.e = 0
  · rw [he] at c2
    by_cases m0 : m < 0
    · have ht : tk s m = (⟨s.l, s.at_, 2⟩, []) := by simp [tk, he, m0]
      go_wp2_with fail
      go_ret
      refine ⟨_, rfl, ?_, ?_, grown_setCell (g := g) (p := ⟨g, 2, none⟩) (grown_refl _ _) (.inl rfl) _⟩
      · rw [ht]; exact OwnB.nil _ _
      · rw [ht]; exact ⟨A, n, c, N, L, h1, h2, h3.set_ 2 _, h4.setCell (by simp) _, h5, h6, h7, h8, h9⟩
    · by_cases m1 : (s.l.length : Int) < m
      · have ht : tk s m = (⟨s.l, s.at_, 3⟩, []) := by simp [tk, he, m0, m1]
        have m1' : (n : Int) - N < m := by omega
        go_wp2_with fail
        go_quiet (fail)
        go_wp2_with fail
        go_ret
        refine ⟨_, rfl, ?_, ?_, ?_⟩
        · rw [ht]; exact OwnB.nil _ _
        · rw [ht]; exact ⟨A, n, c, N, L, h1, h2, (h3.drewN _).set_ 2 _, (h4.drewN _).setCell (by simp) _, h5, h6, h7, h8, h9⟩
        · exact grown_setCell (g := g) (p := ⟨g, 2, none⟩) (grown_drewN (grown_refl _ _) _) (.inl rfl) _
      · have ht : tk s m = (⟨s.l.drop m.toNat, s.at_ + m, 0⟩, s.l.take m.toNat) := by simp [tk, he, m0, m1]
        obtain ⟨k, rfl⟩ := Int.eq_ofNat_of_zero_le (show 0 ≤ m by omega)
        have hkl : ¬ (n : Int) - N < (k : Int) := by omega
        obtain ⟨A1, r1, b1⟩ := slice_mid A n c N (N + k) (by omega) (by omega) h1
        rw [Int.natCast_add] at r1
        go_wp2_with fail
        go_quiet (fail)
        go_wp2_with fail
        have h3' := h3.drewN nq
        have h4' := h4.drewN nq
        have hgr := grown_drewN (grown_refl w (some g)) nq
        have hlt' : g < (w.drewN nq).heap.size := hlt
        have hsz' : w.heap.size ≤ (w.drewN nq).heap.size := Nat.le_refl _
        generalize w.drewN nq = W at *
        clear c0 c1 c2 f1 f2
        have d0 := h3'.drew.cellv 0 (v := .slice A n c) rfl
        have d1 := h3'.drew.cellv 1 (v := .int .i64 (N : Int)) rfl
        have e0 := (h3'.drew.alloc (.cells #[] 5)).cellv 0 (v := .slice A n c) rfl
        have e1 := (h3'.drew.alloc (.cells #[] 5)).cellv 1 (v := .int .i64 (N : Int)) rfl
        have hown0 := OwnB.lit (base := W.heap.size) W.drew [] (Nat.le_refl _) (by simp)
        have hX := b1 (W.drew.alloc (.cells #[] 5)) g L (h4'.drew.alloc (by simp; omega) _)
        rw [show N + k - N = k from by omega] at hX r1
        have hw : IntKind.i64.wrap ((N : Int) + (k : Int)) = (N : Int) + (k : Int) := by rw [IntKind.wrap_i64]; omega
        have hbe0 : Below W.heap.size W.drew (W.drew.alloc (.cells #[] 5)) := (Below.refl W.heap.size W.drew).alloc (Nat.le_refl _) _
        go_region_held3 (fun w' => w'.cell? ⟨g, 0, none⟩ = some (.slice A n c) ∧ w'.cell? ⟨g, 1, none⟩ = some (.int .i64 (N : Int))) (first | exact ⟨d0, d1⟩ | exact ⟨e0, e1⟩ | exact ⟨k0, k1⟩) (first
          | ((rw [if_pos (by rfl)]; refine wp_app _ (.tmp 31) (.tmp 46) (by rfl) W.heap.size _ 0 [] (by rfl) hown0 g A1 k _ _ (by rfl) hX (by omega) (by simp) ?_; intro v2 w2 hown2 hg2 hd2; have hb2 : Below W.heap.size W.drew w2 := hbe0.trans (hown0.below_app hg2 (by simp)); have k0 := (h3'.drew.below hb2 hlt').cellv 0 (v := .slice A n c) rfl; have k1 := (h3'.drew.below hb2 hlt').cellv 1 (v := .int .i64 (N : Int)) rfl)))
        have hB2 := h3'.drew.below hb2 hlt'
        have f1 := hB2.frozen 1
        have hs2 := hb2.size
        have hne : v2.ownBlock = none ∨ v2.ownBlock ≠ some g := by
          rcases hown2.2 with ⟨q, _⟩ | ⟨gg, _, _, q, hq, _⟩
          · rw [q]; exact .inl rfl
          · rw [q]; refine .inr fun e => ?_
            simp only [Value.ownBlock, Option.some.injEq] at e
            omega
        go_wp2_with fail
        go_ret
        have hgs : w2.grownBy (w2.setCell ⟨g, 1, none⟩ (.int .i64 ((N : Int) + k))) (some g) := grown_setCell (g := g) (p := ⟨g, 1, none⟩) (grown_refl _ _) (.inl rfl) _
        refine ⟨_, rfl, ?_, ?_, ?_⟩
        · rw [ht]
          have e : (s.l.take (k : Int).toNat).length = k := by simp; omega
          show OwnB _ _ _ (s.l.take (k : Int).toNat).length (s.l.take (k : Int).toNat)
          rw [e, Int.toNat_natCast, h8]
          have := (hown2.kept hgs hne).less hsz'
          simpa using this
        · rw [ht]
          have hby := (h4'.drew.keep fun p hp => hb2.cell (by omega))
          refine ⟨A, n, c, N + k, L, h1, h2, ?_, hby.setCell (by simp) _, h5, by rw [h6]; simp, by omega, by rw [h8]; simp [List.drop_drop], h9⟩
          have := hB2.set_ 1 (.int .i64 ((N : Int) + k))
          rw [he] at this
          rw [Int.natCast_add]
          exact this
        · exact grown_trans (grown_trans (grown_drew hgr) (grown_of hb2 (Nat.le_refl _) _)) hgs
  · have ht : tk s m = (s, []) := by simp [tk, he]
    go_wp2_with fail
    go_ret
    refine ⟨_, rfl, ?_, ?_, grown_refl _ _⟩
    · rw [ht]; exact OwnB.nil _ _
    · rw [ht]; exact hs
end Go.Proofs.YtecmhakapomepaaGreat

namespace Go.Proofs.YtecmhakapomepaaGreat
set_option linter.unusedVariables false
open Go.RowKit

theorem OwnB.any2 {w : World} {base n : Nat} {v : Value} {l : List UInt8} (h : OwnB w base v n l) : ∃ A cap, v = .slice A n cap ∧ n ≤ cap ∧ cap ≤ maxLen ∧ Byt w w.heap.size A n l ∧ (∀ a, A = some a → base ≤ a.block) := by
  obtain ⟨A1, c1, rfl, hc1, hby, hA⟩ := h.any
  have hc2 : c1 ≤ maxLen := by
    rcases h.2 with ⟨e, _⟩ | ⟨g, cap, cur, e, _, _, _, hm, _⟩
    · injection e with _ _ e; rw [e]; exact Nat.zero_le _
    · injection e with _ _ e; rw [e]; exact hm
  exact ⟨_, _, rfl, hc1, hc2, hby, hA⟩
theorem Ref.max {w : World} {lo g : Nat} {s : St} (h : Ref w lo g s) : s.l.length ≤ 100000000 := by
  obtain ⟨A, n, c, N, L, h1, h2, h3, h4, h5, h6, h7, h8, h9⟩ := h
  have hl := h4.1
  rw [h8, List.length_drop]; omega
/-- a block above was written. -/
theorem Ref.grown_up {w w' : World} {lo g : Nat} {s : St} {row : Nat} (h : Ref w lo g s) (hb : w.grownBy w' (some row)) (hg : g < row) : Ref w' lo g s := by
  have hlt := h.lt
  have hbe : Below (g + 1) w w' := ⟨hb.os, hb.tape, hb.output, hb.size, fun k hk => hb.block k (by omega) (by simp; omega)⟩
  exact h.below hbe (by omega)
theorem numV_get (s : St) (size : Nat) : getV (tk s size).2 0 size = numV s size := by
  unfold getV numV fitsB fromI
  by_cases h : (tk s size).2.length < size
  · rw [if_pos h, if_neg (by simp; omega)]
  · rw [if_neg h, if_pos (by simp; omega)]; rfl

set_option maxHeartbeats 400000 in
theorem refNum_any (w : World) (lo g : Nat) (s : St) (h : Ref w lo g s) (size : Nat) (h1 : 0 < size) (h4 : size ≤ 4) :
    Calls Tryz.prog 67 #[.pointer (some ⟨g, 0, none⟩), .int .i64 (size : Int)] w fun e w' => e = .returned (.int .u64 (numV s size)) ∧ Ref w' lo g (tk s size).1 ∧ w.grownBy w' (some g) := by
  have hmx := h.max
  have hmx2 := tk_max s size
  go_enter Tryz.func67, Tryz.ntmps67
  go_wp2_with fail
  refine (refBytes_any w lo g s h size).mono ?_
  rintro e w1 ⟨v, rfl, hown, hs, hg⟩
  obtain ⟨A, c, rfl, hc1, hc2, hby, _⟩ := hown.any2
  go_wp2_with fail
  refine (refGet_any w1 A _ c _ _ hby hc1 hc2 0 (by omega) size h1 h4).mono ?_
  rintro e w' ⟨rfl, rfl⟩
  rw [numV_get]
  go_wp2_with fail
  go_ret
  exact ⟨rfl, hs, hg⟩

set_option maxHeartbeats 400000 in
theorem refU8_any (w : World) (lo g : Nat) (s : St) (h : Ref w lo g s) :
    Calls Tryz.prog 34 #[.pointer (some ⟨g, 0, none⟩)] w fun e w' => e = .returned (.int .i64 (numV s 1)) ∧ Ref w' lo g (tk s 1).1 ∧ w.grownBy w' (some g) := by
  have b1 := numV_lo s 1
  have b2 := numV_4 s 1 (by omega)
  go_enter Tryz.func34, Tryz.ntmps34
  go_wp2_with fail
  refine (refNum_any w lo g s h 1 (by omega) (by omega)).mono ?_
  rintro e w1 ⟨rfl, hs, hg⟩
  go_wp2_with fail
  go_ret
  exact ⟨rfl, hs, hg⟩
set_option maxHeartbeats 400000 in
theorem refU16_any (w : World) (lo g : Nat) (s : St) (h : Ref w lo g s) :
    Calls Tryz.prog 32 #[.pointer (some ⟨g, 0, none⟩)] w fun e w' => e = .returned (.int .i64 (numV s 2)) ∧ Ref w' lo g (tk s 2).1 ∧ w.grownBy w' (some g) := by
  have b1 := numV_lo s 2
  have b2 := numV_4 s 2 (by omega)
  go_enter Tryz.func32, Tryz.ntmps32
  go_wp2_with fail
  refine (refNum_any w lo g s h 2 (by omega) (by omega)).mono ?_
  rintro e w1 ⟨rfl, hs, hg⟩
  go_wp2_with fail
  go_ret
  exact ⟨rfl, hs, hg⟩
set_option maxHeartbeats 400000 in
theorem refU32_any (w : World) (lo g : Nat) (s : St) (h : Ref w lo g s) :
    Calls Tryz.prog 33 #[.pointer (some ⟨g, 0, none⟩)] w fun e w' => e = .returned (.int .u32 (numV s 4)) ∧ Ref w' lo g (tk s 4).1 ∧ w.grownBy w' (some g) := by
  have b1 := numV_lo s 4
  have b2 := numV_4 s 4 (by omega)
  go_enter Tryz.func33, Tryz.ntmps33
  go_wp2_with fail
  refine (refNum_any w lo g s h 4 (by omega) (by omega)).mono ?_
  rintro e w1 ⟨rfl, hs, hg⟩
  go_wp2_with fail
  go_ret
  exact ⟨rfl, hs, hg⟩
set_option maxHeartbeats 400000 in
theorem refEnd_any (w : World) (lo g : Nat) (s : St) (h : Ref w lo g s) :
    Calls Tryz.prog 35 #[.pointer (some ⟨g, 0, none⟩)] w fun e w' => ∃ k, e = .returned (.int .i64 (endV s)) ∧ w' = w.drewN k := by
  have hs := h
  obtain ⟨A, n, c, N, L, h1, h2, h3, h4, h5, h6, h7, h8, h9⟩ := h
  have c2 := h3.cellv 2 (v := .int .i64 s.e) rfl
  go_enter Tryz.func35, Tryz.ntmps35
  by_cases he : s.e = 0
  · have hv : endV s = if 0 < leftV s then 4 else 0 := by simp [endV, he]
    rw [he] at c2
    go_wp2_with fail
    refine (refLeft_any w lo g s hs).mono ?_
    rintro e w' ⟨k, rfl, rfl⟩
    by_cases hl : 0 < leftV s
    · rw [if_pos hl] at hv
      go_wp2_with fail
      go_ret
      exact ⟨k, ret_int hv.symm, rfl⟩
    · rw [if_neg hl] at hv
      have c2' : (w.drewN k).cell? ⟨g, 2, none⟩ = some (.int .i64 0) := c2
      go_wp2_with fail
      go_ret
      exact ⟨k, ret_int hv.symm, rfl⟩
  · have hv : endV s = s.e := by simp [endV, he]
    go_wp2_with fail
    go_ret
    exact ⟨0, ret_int hv.symm, rfl⟩
end Go.Proofs.YtecmhakapomepaaGreat
