import Derived.Test.YtgdeecmhhbdjgaaGreatMVipActs19
import Derived.Test.YtgdeecmhhbdjgaaGreatMVipActs16
import Derived.Test.YtgdeecmhhbdjgaaGreatMVipActs9
/- vip: the document's damp within its vip. -/
namespace Go.Proofs.YtgdeecmhhbdjgaaGreat
set_option linter.unusedVariables false
open Go Go.RowKit Go.Maps

structure RvB where
  p : Option Addr
  A : Option Addr
  n : Nat
  c : Nat
  f : Option Addr
  on : Bool
  is_ : Int
  ad : Int
def rvA (b : RvB) (F S R C H p : Int) (h : Bool) : Array Value := #[.pointer b.p, .slice b.A b.n b.c, .pointer b.f, .int .i64 F, .int .i64 S, .int .i64 R, .int .i64 C, .int .i64 H, .int .i64 p, .bool h, .bool b.on, .int .i64 b.is_, .int .u32 b.ad]
theorem rv_p (b : RvB) (F S R C H p q : Int) (h : Bool) : (rvA b F S R C H p h).setIfInBounds 8 (.int .i64 q) = rvA b F S R C H q h := rfl
theorem rv_h (b : RvB) (F S R C H p : Int) (h k : Bool) : (rvA b F S R C H p h).setIfInBounds 9 (.bool k) = rvA b F S R C H p k := rfl
theorem rvStepP {w : World} {g : Nat} {T : TypeId} {b : RvB} {F S R C H p : Int} {h : Bool} (hb : Blk w g T (rvA b F S R C H p h)) (q : Int) : Blk (w.setCell ⟨g, 8, none⟩ (.int .i64 q)) g T (rvA b F S R C H q h) ∧ w.grownBy (w.setCell ⟨g, 8, none⟩ (.int .i64 q)) (some g) :=
  ⟨by rw [← rv_p b F S R C H p]; exact hb.set_ 8 _, grown_setCell (grown_refl _ _) (.inl rfl) _⟩
theorem rvStepH {w : World} {g : Nat} {T : TypeId} {b : RvB} {F S R C H p : Int} {h : Bool} (hb : Blk w g T (rvA b F S R C H p h)) (k : Bool) : Blk (w.setCell ⟨g, 9, none⟩ (.bool k)) g T (rvA b F S R C H p k) ∧ w.grownBy (w.setCell ⟨g, 9, none⟩ (.bool k)) (some g) :=
  ⟨by rw [← rv_h b F S R C H p h]; exact hb.set_ 9 _, grown_setCell (grown_refl _ _) (.inl rfl) _⟩

set_option maxRecDepth 100000 in
set_option maxHeartbeats 4000000 in
theorem rvFlap (b : RvB) (F S R C H p : Int) (h : Bool) (g : Nat) (w : World) (hF : 1 ≤ F) (hF2 : F ≤ 100000) (p1 : 0 ≤ p) (p2 : p ≤ 1000000) (hb : Blk w g 97 (rvA b F S R C H p h)) :
    Calls Tryz.prog 137 #[.pointer (some ⟨g, 3, none⟩)] w fun e w' => e = .returned (.int .i64 (dm.lowest (p + F) C)) ∧
      Blk w' g 97 (rvA b F S R C H (dm.lowest (p + F) C) (h || decide (S ≤ dm.lowest (p + F) C))) ∧ w.grownBy w' (some g) := by
  have c5 := hb.cellv 8 (v := .int .i64 p) rfl
  have c0 := hb.cellv 3 (v := .int .i64 F) rfl
  have f5 := hb.frozen 8
  have hw : IntKind.i64.wrap (p + F) = p + F := IntWalk.i64_in _ ⟨by omega, by omega⟩
  obtain ⟨hb1, hg1⟩ := rvStepP hb (p + F)
  have HB1 := Lib.hid hb1.drew
  have HG1 := Lib.hid (grown_drew hg1)
  clear hb hb1 hg1
  go_enter Tryz.func137, Tryz.ntmps137
  go_wp2_with fail
  go_region
  go_wp2_with fail
  have hb1 := HB1.out
  have hg1 := HG1.out
  clear HB1 HG1 c5 c0 f5 hw
  generalize (w.setCell ⟨g, 8, none⟩ (.int .i64 (p + F))).drew = w1 at *
  have c5 := hb1.cellv 8 (v := .int .i64 (p + F)) rfl
  have c3 := hb1.cellv 6 (v := .int .i64 C) rfl
  have f5 := hb1.frozen 8
  by_cases c : C < p + F
  · obtain ⟨hb2, hg2⟩ := rvStepP hb1.drew C
    have HB2 := Lib.hid hb2
    have HG2 := Lib.hid (grown_trans (grown_drew hg1) hg2)
    have HQ := Lib.hid (dm.lowest_hi (p + F) C c)
    clear hb1 hg1 hb2 hg2
    go_region
    go_wp2_with fail
    have hb2 : Blk (w1.setCell ⟨g, 8, none⟩ (.int .i64 C)).drew g 97 (rvA b F S R C H C h) := HB2.out
    have hg2 : w.grownBy (w1.setCell ⟨g, 8, none⟩ (.int .i64 C)).drew (some g) := HG2.out
    clear HB2 HG2 c5 c3 f5 c
    generalize (w1.setCell ⟨g, 8, none⟩ (.int .i64 C)).drew = w2 at *
    have c5 := hb2.cellv 8 (v := .int .i64 C) rfl
    have c1 := hb2.cellv 4 (v := .int .i64 S) rfl
    have c6 := hb2.cellv 9 (v := .bool h) rfl
    have f6 := hb2.frozen 9
    have HB2 := Lib.hid hb2
    have HG2 := Lib.hid hg2
    clear hb2 hg2
    by_cases c2 : S ≤ C
    · go_region
      go_wp2_with fail
      go_ret
      have K1 := (rvStepH HB2.out true).1.drew
      have K2 := grown_drew (grown_trans HG2.out (rvStepH HB2.out true).2)
      exact ⟨by rw [HQ.out]; rfl, by rw [HQ.out, show (h || decide (S ≤ C)) = true from by simp [c2]]; exact K1, K2⟩
    · go_region
      go_wp2_with fail
      go_ret
      exact ⟨by rw [HQ.out]; rfl, by rw [HQ.out, show (h || decide (S ≤ C)) = h from by rw [show decide (S ≤ C) = false from by simp; omega, Bool.or_false]]; exact HB2.out.drew, grown_drew HG2.out⟩
  · have HQ := Lib.hid (dm.lowest_lo (p + F) C (by omega))
    have HB1 := Lib.hid hb1
    have HG1 := Lib.hid hg1
    clear hb1 hg1
    go_region
    go_wp2_with fail
    have hb2 := HB1.out.drew
    have hg2 := grown_drew HG1.out
    clear HB1 HG1 c5 c3 f5 c
    generalize w1.drew = w2 at *
    have c5 := hb2.cellv 8 (v := .int .i64 (p + F)) rfl
    have c1 := hb2.cellv 4 (v := .int .i64 S) rfl
    have c6 := hb2.cellv 9 (v := .bool h) rfl
    have f6 := hb2.frozen 9
    have HB2 := Lib.hid hb2
    have HG2 := Lib.hid hg2
    clear hb2 hg2
    by_cases c2 : S ≤ (p + F)
    · go_region
      go_wp2_with fail
      go_ret
      have K1 := (rvStepH HB2.out true).1.drew
      have K2 := grown_drew (grown_trans HG2.out (rvStepH HB2.out true).2)
      exact ⟨by rw [HQ.out]; rfl, by rw [HQ.out, show (h || decide (S ≤ (p + F))) = true from by simp [c2]]; exact K1, K2⟩
    · go_region
      go_wp2_with fail
      go_ret
      exact ⟨by rw [HQ.out]; rfl, by rw [HQ.out, show (h || decide (S ≤ (p + F))) = h from by rw [show decide (S ≤ (p + F)) = false from by simp; omega, Bool.or_false]]; exact HB2.out.drew, grown_drew HG2.out⟩

set_option maxRecDepth 100000 in
set_option maxHeartbeats 4000000 in
theorem rvTick (b : RvB) (F S R C H p : Int) (h : Bool) (g : Nat) (w : World) (hF : 1 ≤ F) (p1 : 0 ≤ p) (p2 : p ≤ 1000000) (hb : Blk w g 97 (rvA b F S R C H p h)) :
    Calls Tryz.prog 196 #[.pointer (some ⟨g, 3, none⟩)] w fun e w' => e = .returned (.int .i64 (dm.decay p H)) ∧
      Blk w' g 97 (rvA b F S R C H (dm.decay p H) (h && decide (R < dm.decay p H))) ∧ w.grownBy w' (some g) := by
  have c5 := hb.cellv 8 (v := .int .i64 p) rfl
  have c4 := hb.cellv 7 (v := .int .i64 H) rfl
  have f5 := hb.frozen 8
  obtain ⟨hb1, hg1⟩ := rvStepP hb (dm.decay p H)
  have HB1 := Lib.hid hb1.drew
  have HG1 := Lib.hid (grown_drew hg1)
  clear hb hb1 hg1
  go_enter Tryz.func196, Tryz.ntmps196
  go_wp2_with fail
  go_still_tail 13, (by kernel_rfl)
  still_call ((dm.refDecay_any p H _ (by omega) (by omega)).mono fun _ _ h => ⟨h.1, h.2.symm⟩)
  repeat still_step
  refine wpStill_nil ?_
  change wpList _ _ _ _ _ w.drew
  go_wp2_with fail
  have hb2 : Blk (w.setCell ⟨g, 8, none⟩ (.int .i64 (dm.decay p H))).drew g 97 (rvA b F S R C H (dm.decay p H) h) := HB1.out
  have hg2 : w.grownBy (w.setCell ⟨g, 8, none⟩ (.int .i64 (dm.decay p H))).drew (some g) := HG1.out
  clear HB1 HG1 c5 c4 f5
  generalize (w.setCell ⟨g, 8, none⟩ (.int .i64 (dm.decay p H))).drew = w2 at *
  obtain ⟨q, hq⟩ : ∃ q, q = dm.decay p H := ⟨_, rfl⟩
  rw [← hq] at hb2 ⊢
  have c5 := hb2.cellv 8 (v := .int .i64 q) rfl
  have c2 := hb2.cellv 5 (v := .int .i64 R) rfl
  have c6 := hb2.cellv 9 (v := .bool h) rfl
  have f6 := hb2.frozen 9
  have HB2 := Lib.hid hb2
  have HG2 := Lib.hid hg2
  have HQ := Lib.hid hq
  clear hb2 hg2 hq
  by_cases c : q ≤ R
  · go_region
    go_wp2_with fail
    go_ret
    exact ⟨by rw [← HQ.out]; rfl, by rw [← HQ.out, show (h && decide (R < q)) = false from by rw [show decide (R < q) = false from by simp; omega, Bool.and_false]]; exact (rvStepH HB2.out false).1.drew, grown_drew (grown_trans HG2.out (rvStepH HB2.out false).2)⟩
  · go_region
    go_wp2_with fail
    go_ret
    exact ⟨by rw [← HQ.out]; rfl, by rw [← HQ.out, show (h && decide (R < q)) = h from by rw [show decide (R < q) = true from by simp; omega, Bool.and_true]]; exact HB2.out.drew, grown_drew HG2.out⟩

end Go.Proofs.YtgdeecmhhbdjgaaGreat

/- vip: a counter of the document's, within a row of them. -/
namespace Go.Proofs.YtgdeecmhhbdjgaaGreat
set_option linter.unusedVariables false
open Go Go.RowKit Go.Maps

structure CtV where
  r : Int
  f : Int
  u : Bool
  n : Int
deriving DecidableEq
def ctK : RK CtV where
  size := 4
  cel x := [.int .i64 x.r, .int .i64 x.f, .bool x.u, .int .i64 x.n]
  ok _ _ _ := True
  pos := by omega
  len _ := rfl
  one _ u hu := by simp at hu; rcases hu with rfl | rfl | rfl | rfl <;> rfl
  keep _ _ := trivial
  more _ _ := trivial
theorem flat_setAt {α : Type} (R : RK α) : ∀ (l : List α) (j i : Nat) (x x' : α) (v : Value), l[j]? = some x → i < R.size → (R.cel x).set i v = R.cel x' → (l.flatMap R.cel).set (j * R.size + i) v = (l.set j x').flatMap R.cel
  | [], j, i, x, x', v, h, _, _ => by simp at h
  | a :: l, 0, i, x, x', v, h, hi, he => by
    simp at h
    subst h
    rw [List.flatMap_cons, List.set_cons_zero, List.flatMap_cons, Nat.zero_mul, Nat.zero_add, List.set_append_left _ _ (by rw [R.len]; exact hi), he]
  | a :: l, j + 1, i, x, x', v, h, hi, he => by
    rw [List.getElem?_cons_succ] at h
    rw [List.flatMap_cons, List.set_cons_succ, List.flatMap_cons, List.set_append_right _ _ (by rw [R.len, Nat.succ_mul]; omega), R.len, show (j + 1) * R.size + i - R.size = j * R.size + i by rw [Nat.succ_mul]; omega, flat_setAt R l j i x x' v h hi he]
def CtAt (w : World) (g cap j : Nat) (L : List CtV) (r f : Int) (u : Bool) (n : Int) : Prop :=
  j < L.length ∧ Own1 w 0 176 4 (.slice (some ⟨g, 0, none⟩) L.length cap) L.length ((L.set j ⟨r, f, u, n⟩).flatMap ctK.cel)
section
variable {w : World} {g cap j : Nat} {L : List CtV} {r f n : Int} {u : Bool}
theorem CtAt.cel (h : CtAt w g cap j L r f u n) (i : Nat) (hi : i < 4) : w.cell? ⟨g, j * 4 + i, none⟩ = (ctK.cel ⟨r, f, u, n⟩)[i]? := by
  have hl := flat_len ctK (L.set j ⟨r, f, u, n⟩)
  rw [List.length_set] at hl
  have := h.1
  rw [h.2.cell (j * 4 + i) (by omega)]
  exact flat_get ctK (L.set j ⟨r, f, u, n⟩) j i ⟨r, f, u, n⟩ (by rw [List.getElem?_set_self h.1]) hi
theorem CtAt.c0 (h : CtAt w g cap j L r f u n) : w.cell? ⟨g, j * 4, none⟩ = some (.int .i64 r) := h.cel 0 (by omega)
theorem CtAt.c1 (h : CtAt w g cap j L r f u n) : w.cell? ⟨g, j * 4 + 1, none⟩ = some (.int .i64 f) := h.cel 1 (by omega)
theorem CtAt.c2 (h : CtAt w g cap j L r f u n) : w.cell? ⟨g, j * 4 + 2, none⟩ = some (.bool u) := h.cel 2 (by omega)
theorem CtAt.c3 (h : CtAt w g cap j L r f u n) : w.cell? ⟨g, j * 4 + 3, none⟩ = some (.int .i64 n) := h.cel 3 (by omega)
theorem CtAt.fr (h : CtAt w g cap j L r f u n) (i : Nat) : w.frozen? ⟨g, j * 4 + i, none⟩ = false := h.2.free _
theorem CtAt.drewN (h : CtAt w g cap j L r f u n) (k : Nat) : CtAt (w.drewN k) g cap j L r f u n := ⟨h.1, h.2.drewN k⟩
theorem ctU (h : CtAt w g cap j L r f u n) (k : Bool) : CtAt (w.setCell ⟨g, j * 4 + 2, none⟩ (.bool k)) g cap j L r f k n := by
  refine ⟨h.1, ?_⟩
  have := h.2.store (j * 4 + 2) (.bool k)
  have e := flat_setAt ctK (L.set j ⟨r, f, u, n⟩) j 2 ⟨r, f, u, n⟩ ⟨r, f, k, n⟩ (.bool k) (List.getElem?_set_self h.1) (by decide) rfl
  rw [show ctK.size = 4 from rfl, List.set_set] at e
  rw [e] at this
  exact this
theorem ctN (h : CtAt w g cap j L r f u n) (k : Int) : CtAt (w.setCell ⟨g, j * 4 + 3, none⟩ (.int .i64 k)) g cap j L r f u k := by
  refine ⟨h.1, ?_⟩
  have := h.2.store (j * 4 + 3) (.int .i64 k)
  have e := flat_setAt ctK (L.set j ⟨r, f, u, n⟩) j 3 ⟨r, f, u, n⟩ ⟨r, f, u, k⟩ (.int .i64 k) (List.getElem?_set_self h.1) (by decide) rfl
  rw [show ctK.size = 4 from rfl, List.set_set] at e
  rw [e] at this
  exact this
end
set_option maxRecDepth 100000 in
set_option maxHeartbeats 4000000 in
theorem rvNote_same (r f n : Int) (u : Bool) (g cap j : Nat) (L : List CtV) (w : World) (hb : CtAt w g cap j L r f u n) :
    Calls Tryz.prog 193 #[.pointer (some ⟨g, j * 4, none⟩), .bool u] w fun e w' => e = .returned (.bool false) ∧ CtAt w' g cap j L r f u 0 ∧ w.grownBy w' (some g) := by
  have c2 := hb.c2
  have c3 := hb.c3
  have f3 := hb.fr 3
  have HB := Lib.hid (ctN hb 0)
  clear hb
  go_enter Tryz.func193, Tryz.ntmps193
  go_wp2
  go_ret
  exact ⟨rfl, HB.out, rs.stepG _ _ _⟩

set_option maxRecDepth 100000 in
set_option maxHeartbeats 4000000 in
theorem rvNote_yes (r f n : Int) (u k : Bool) (g cap j : Nat) (L : List CtV) (w : World) (hk : k = !u) (n1 : 0 ≤ n) (n2 : n ≤ 1000) (hb : CtAt w g cap j L r f u n) (c : rs.needs r f u ≤ n + 1) :
    Calls Tryz.prog 193 #[.pointer (some ⟨g, j * 4, none⟩), .bool k] w fun e w' => e = .returned (.bool true) ∧ CtAt w' g cap j L r f (!u) 0 ∧ w.grownBy w' (some g) := by
  have c0 := hb.c0
  have c1 := hb.c1
  have c2 := hb.c2
  have c3 := hb.c3
  have f3 := hb.fr 3
  have HB := Lib.hid (ctN hb (n + 1))
  have HG : Hid (w.grownBy (w.setCell ⟨g, j * 4 + 3, none⟩ (.int .i64 (n + 1))) (some g)) := rs.stepG _ _ _
  clear hb
  subst hk
  cases u
  · have c' : r ≤ n + 1 := c
    clear c
    go_enter Tryz.func193, Tryz.ntmps193
    go_wp2_with fail
    generalize (w.setCell ⟨g, j * 4 + 3, none⟩ (.int .i64 (n + 1))) = w1 at *
    have hb1 := HB.out
    have hg1 := HG.out
    clear HB HG c0 c1 c2 c3 f3
    have c0 := hb1.c0
    have c1 := hb1.c1
    have c2 := hb1.c2
    have c3 := hb1.c3
    have f2 := hb1.fr 2
    have f3 := hb1.fr 3
    have d1 : decide (n + 1 < r) = false := by simp; omega
    go_quiet (fail)
    have HB := Lib.hid (ctN (ctU (hb1.drewN nq) true) 0)
    have HG := Lib.hid (grown_trans (grown_drewN hg1 nq) (grown_trans (rs.stepG (w1.drewN nq) (j * 4 + 2) (.bool true)) (rs.stepG _ (j * 4 + 3) (.int .i64 0))))
    clear hb1 hg1
    go_wp2
    go_ret
    exact ⟨rfl, HB.out, HG.out⟩
  · have c' : f ≤ n + 1 := c
    clear c
    go_enter Tryz.func193, Tryz.ntmps193
    go_wp2_with fail
    generalize (w.setCell ⟨g, j * 4 + 3, none⟩ (.int .i64 (n + 1))) = w1 at *
    have hb1 := HB.out
    have hg1 := HG.out
    clear HB HG c0 c1 c2 c3 f3
    have c0 := hb1.c0
    have c1 := hb1.c1
    have c2 := hb1.c2
    have c3 := hb1.c3
    have f2 := hb1.fr 2
    have f3 := hb1.fr 3
    have d1 : decide (n + 1 < f) = false := by simp; omega
    go_quiet (fail)
    have HB := Lib.hid (ctN (ctU (hb1.drewN nq) false) 0)
    have HG := Lib.hid (grown_trans (grown_drewN hg1 nq) (grown_trans (rs.stepG (w1.drewN nq) (j * 4 + 2) (.bool false)) (rs.stepG _ (j * 4 + 3) (.int .i64 0))))
    clear hb1 hg1
    go_wp2
    go_ret
    exact ⟨rfl, HB.out, HG.out⟩

set_option maxRecDepth 100000 in
set_option maxHeartbeats 4000000 in
theorem rvNote_no (r f n : Int) (u k : Bool) (g cap j : Nat) (L : List CtV) (w : World) (hk : k = !u) (n1 : 0 ≤ n) (n2 : n ≤ 1000) (hb : CtAt w g cap j L r f u n) (c : n + 1 < rs.needs r f u) :
    Calls Tryz.prog 193 #[.pointer (some ⟨g, j * 4, none⟩), .bool k] w fun e w' => e = .returned (.bool false) ∧ CtAt w' g cap j L r f u (n + 1) ∧ w.grownBy w' (some g) := by
  have c0 := hb.c0
  have c1 := hb.c1
  have c2 := hb.c2
  have c3 := hb.c3
  have f3 := hb.fr 3
  have HB := Lib.hid (ctN hb (n + 1))
  have HG : Hid (w.grownBy (w.setCell ⟨g, j * 4 + 3, none⟩ (.int .i64 (n + 1))) (some g)) := rs.stepG _ _ _
  clear hb
  subst hk
  cases u
  · have c' : n + 1 < r := c
    clear c
    go_enter Tryz.func193, Tryz.ntmps193
    go_wp2_with fail
    generalize (w.setCell ⟨g, j * 4 + 3, none⟩ (.int .i64 (n + 1))) = w1 at *
    have hb1 := HB.out
    have hg1 := HG.out
    clear HB HG c0 c1 c2 c3 f3
    have c0 := hb1.c0
    have c1 := hb1.c1
    have c2 := hb1.c2
    have c3 := hb1.c3
    have f2 := hb1.fr 2
    have f3 := hb1.fr 3
    have d1 : decide (n + 1 < r) = true := by simp; omega
    go_quiet (fail)
    have HB := Lib.hid (hb1.drewN nq)
    have HG := Lib.hid (grown_drewN hg1 nq)
    clear hb1 hg1
    go_wp2
    go_ret
    exact ⟨rfl, HB.out, HG.out⟩
  · have c' : n + 1 < f := c
    clear c
    go_enter Tryz.func193, Tryz.ntmps193
    go_wp2_with fail
    generalize (w.setCell ⟨g, j * 4 + 3, none⟩ (.int .i64 (n + 1))) = w1 at *
    have hb1 := HB.out
    have hg1 := HG.out
    clear HB HG c0 c1 c2 c3 f3
    have c0 := hb1.c0
    have c1 := hb1.c1
    have c2 := hb1.c2
    have c3 := hb1.c3
    have f2 := hb1.fr 2
    have f3 := hb1.fr 3
    have d1 : decide (n + 1 < f) = true := by simp; omega
    go_quiet (fail)
    have HB := Lib.hid (hb1.drewN nq)
    have HG := Lib.hid (grown_drewN hg1 nq)
    clear hb1 hg1
    go_wp2
    go_ret
    exact ⟨rfl, HB.out, HG.out⟩


end Go.Proofs.YtgdeecmhhbdjgaaGreat

/- vip: the document's table of flows: New, Purge. -/
namespace Go.Proofs.YtgdeecmhhbdjgaaGreat
set_option linter.unusedVariables false
open Go Go.RowKit Go.Maps

def rfC (ro idl now : Int) (A : Option Addr) (n c : Nat) (ca we : Int) : Array Value := #[.int .i64 ro, .int .i64 idl, .int .i64 now, .slice A n c, .int .i64 ca, .int .i64 we]
def RefF (w : World) (X : Nat → Prop) (d : Nat) (ro idl now : Int) (N : Nat) (E : List EnV) : Prop :=
  ∃ A n c ca we, n ≤ c ∧ c ≤ maxLen ∧ (0 ≤ ca ∧ ca ≤ (N : Int)) ∧ (0 ≤ we ∧ we ≤ (N : Int)) ∧ Blk w d 191 (rfC ro idl now A n c ca we) ∧ Seen enK w (fun b => X b ∧ b < w.heap.size) A n E
section
variable {w w' : World} {X Y : Nat → Prop} {d N : Nat} {ro idl now : Int} {E : List EnV}
theorem RefF.lt (h : RefF w X d ro idl now N E) : d < w.heap.size := by
  obtain ⟨A, n, c, ca, we, h1, h2, h3, h4, h5, h6⟩ := h
  exact h5.lt
theorem RefF.chg (h : RefF w X d ro idl now N E) (hc : Chg w w' Y) (hd : ¬ Y d) (hX : ∀ b, X b → ¬ Y b) : RefF w' X d ro idl now N E := by
  obtain ⟨A, n, c, ca, we, h1, h2, h3, h4, h5, h6⟩ := h
  exact ⟨A, n, c, ca, we, h1, h2, h3, h4, hc.blk h5 hd, (hc.seen h6 fun b q => ⟨q.2, hX b q.1⟩).more fun b q => ⟨q.1, Nat.lt_of_lt_of_le q.2 hc.size⟩⟩
theorem RefF.nx (h : RefF w X d ro idl now N E) (hb : Below w.heap.size w w') : RefF w' X d ro idl now N E := h.chg (Chg.of_below (X := fun _ => False) hb) id fun _ _ q => q
end
theorem got_entry29 : (Tryz.prog.info? 89).map (·.size) = some 7 := by kernel_rfl
theorem en_ok29 : ElemOk Tryz.prog 189 89 enK.size 48 (enA ze) := ⟨Tryz.underlying189, by kernel_rfl, rfl, enK.pos⟩
theorem en_cells9 {w : World} {S : Nat → Prop} {A : Option Addr} {n : Nat} {L : List EnV} {k : Nat} (h : Seen enK w S A n L) (hk : k < n) :
    ∃ b off x, A = some ⟨b, off, none⟩ ∧ S b ∧ L[k]? = some x ∧ w.cell? ⟨b, off + k * 7, none⟩ = some (.int .i64 x.fl.pr) ∧ w.cell? ⟨b, off + k * 7 + 1, none⟩ = some (.int .u32 x.fl.src) ∧ w.cell? ⟨b, off + k * 7 + 2, none⟩ = some (.int .u32 x.fl.dst) ∧ w.cell? ⟨b, off + k * 7 + 3, none⟩ = some (.int .i64 x.fl.sp) ∧ w.cell? ⟨b, off + k * 7 + 4, none⟩ = some (.int .i64 x.fl.dp) ∧ w.cell? ⟨b, off + k * 7 + 5, none⟩ = some (.int .i64 x.be) ∧ w.cell? ⟨b, off + k * 7 + 6, none⟩ = some (.int .i64 x.la) := by
  have hlt : k < L.length := by rw [h.1]; exact hk
  have hr := List.getElem?_eq_getElem hlt
  obtain ⟨b, off, e, hb, hc⟩ := h.cell hr
  exact ⟨b, off, _, e, hb, hr, hc 0 (by decide), hc 1 (by decide), hc 2 (by decide), hc 3 (by decide), hc 4 (by decide), hc 5 (by decide), hc 6 (by decide)⟩
set_option maxRecDepth 100000 in
set_option maxHeartbeats 8000000 in
theorem rfNew (w : World) (X : Nat → Prop) (N : Nat) (ro idl : Int) (h1 : 1 ≤ ro) (h2 : ro ≤ 1024) (h3 : 1 ≤ idl) (h4 : idl ≤ 1000000) : Calls Tryz.prog 111 #[.int .i64 ro, .int .i64 idl] w fun e w' => e = .returned (.pointer (some ⟨w.heap.size, 0, none⟩)) ∧ RefF w' X w.heap.size ro idl 0 N [] ∧ Below w.heap.size w w' := by
  have hB := (Below.refl w.heap.size w).alloc (Nat.le_refl _) (.cells (rfC ro idl 0 none 0 0 0 0) 191)
  have hq := Blk.new w 191 (rfC ro idl 0 none 0 0 0 0)
  have hR : RefF (w.alloc (.cells (rfC ro idl 0 none 0 0 0 0) 191)) X w.heap.size ro idl 0 N [] := ⟨none, 0, 0, 0, 0, Nat.le_refl _, Nat.zero_le _, ⟨Int.le_refl _, by omega⟩, ⟨Int.le_refl _, by omega⟩, hq, Seen.none_⟩
  have d1 : decide (ro < 1) = false := by simp; omega
  have d2 : decide (1024 < ro) = false := by simp; omega
  have d3 : decide (idl < 1) = false := by simp; omega
  have d4 : decide (1000000 < idl) = false := by simp; omega
  clear h1 h2 h3 h4
  go_enter Tryz.func111, Tryz.ntmps111
  go_wp2_with fail
  go_ret
  exact ⟨rfl, hR, hB⟩
theorem filt_take (so : EnV → Bool) {E : List EnV} {k : Nat} {x : EnV} (h : E[k]? = some x) : (E.take (k + 1)).filter so = (E.take k).filter so ++ (if so x then [x] else []) := by
  rw [List.take_add_one, h, List.filter_append]
  cases hs : so x <;> simp [hs]
set_option maxRecDepth 100000 in
set_option maxHeartbeats 8000000 in
theorem rfPurge (w : World) (X : Nat → Prop) (d : Nat) (ro idl now : Int) (N : Nat) (E : List EnV) (h : RefF w X d ro idl now N E) (z : Int) (hn : E.length ≤ 1000000) (hX : ∀ b, w.heap.size ≤ b → X b) :
    Calls Tryz.prog 195 #[.pointer (some ⟨d, 0, none⟩), .int .i64 z] w fun e w' => ∃ y, e = .returned (.int .i64 y) ∧ RefF w' X d ro idl now N (E.filter fun x => !(soB z x)) ∧ Chg w w' (fun k => k = d) := by
  obtain ⟨A, n, c, ca, we, hnc, hcm, hca, hwe, hq, hS⟩ := h
  have hl := Lib.hid hS.1
  replace hn : n ≤ 1000000 := by have := hS.1; omega
  have c3 : w.cell? ⟨d, 3, none⟩ = some (.slice A n c) := hq.cellv 3 rfl
  have ltd := hq.lt
  go_enter Tryz.func195, Tryz.ntmps195
  go_upto_region 3 with (fail)
  clear c3
  go_loopw [5, 14] (fun v i wr => ∃ k : Nat, k ≤ n ∧ i = .int .i64 (k : Int) ∧ Rows enK wr w.heap.size w.heap.size 89 v ((E.take k).filter fun x => !(soB z x)) ∧ Below w.heap.size w wr) (fun _ i _ => n - (intOf i).toNat)
  case atStart => exact ⟨0, Nat.zero_le _, rfl, Rows.nil _ _ _ _, Below.refl _ _⟩
  case round =>
  obtain ⟨k, hk, rfl, hrow, hB⟩ := hrel
  have hz := hB.size
  by_cases hlt : k < n
  · obtain ⟨bb, off, x, rfl, hb1, hxk, e0, e1, e2, e3, e4, e5, e6⟩ := en_cells9 (hS.below hB fun _ q => q.2) hlt
    have ltb : bb < wr.heap.size := Nat.lt_of_lt_of_le hb1.2 hz
    have hki : (k : Int) < n := by omega
    have hft := Lib.hid (filt_take (fun x => !(soB z x)) hxk)
    have hb2 := (Below.refl wr.heap.size wr).alloc (Nat.le_refl _) (.cells #[.int .i64 x.fl.pr, .int .u32 x.fl.src, .int .u32 x.fl.dst, .int .i64 x.fl.sp, .int .i64 x.fl.dp, .int .i64 x.be, .int .i64 x.la] 89)
    have hq2 := Blk.new wr 89 #[.int .i64 x.fl.pr, .int .u32 x.fl.src, .int .u32 x.fl.dst, .int .i64 x.fl.sp, .int .i64 x.fl.dp, .int .i64 x.be, .int .i64 x.la]
    have hrow2 := hrow.alloc (.cells #[.int .i64 x.fl.pr, .int .u32 x.fl.src, .int .u32 x.fl.dst, .int .i64 x.fl.sp, .int .i64 x.fl.dp, .int .i64 x.be, .int .i64 x.la] 89)
    have hB2 := hB.alloc hz (.cells #[.int .i64 x.fl.pr, .int .u32 x.fl.src, .int .u32 x.fl.dst, .int .i64 x.fl.sp, .int .i64 x.fl.dp, .int .i64 x.be, .int .i64 x.la] 89)
    have hml : ((E.take k).filter fun x => !(soB z x)).length ≤ k := Nat.le_trans (List.length_filter_le _ _) (by rw [List.length_take]; omega)
    go_upto_region 5 with (fail)
    clear e0 e1 e2 e3 e4 e5 e6 hxk
    generalize wr.alloc (.cells #[.int .i64 x.fl.pr, .int .u32 x.fl.src, .int .u32 x.fl.dst, .int .i64 x.fl.sp, .int .i64 x.fl.dp, .int .i64 x.be, .int .i64 x.la] 89) = w2 at *
    have e0 : w2.cell? ⟨wr.heap.size, 0, none⟩ = some (.int .i64 x.fl.pr) := hq2.cellv 0 rfl
    have e1 : w2.cell? ⟨wr.heap.size, 1, none⟩ = some (.int .u32 x.fl.src) := hq2.cellv 1 rfl
    have e2 : w2.cell? ⟨wr.heap.size, 2, none⟩ = some (.int .u32 x.fl.dst) := hq2.cellv 2 rfl
    have e3 : w2.cell? ⟨wr.heap.size, 3, none⟩ = some (.int .i64 x.fl.sp) := hq2.cellv 3 rfl
    have e4 : w2.cell? ⟨wr.heap.size, 4, none⟩ = some (.int .i64 x.fl.dp) := hq2.cellv 4 rfl
    have e5 : w2.cell? ⟨wr.heap.size, 5, none⟩ = some (.int .i64 x.be) := hq2.cellv 5 rfl
    have e6 : w2.cell? ⟨wr.heap.size, 6, none⟩ = some (.int .i64 x.la) := hq2.cellv 6 rfl
    have lt2 := hq2.lt
    have hz2 := hB2.size
    by_cases hs : x.be = z
    · have d1 : (x.be != z) = false := by simpa using hs
      have hs2 : (!(soB z x)) = false := by unfold soB; simpa using hs
      replace hs := Lib.hid hs
      go_wp2_with fail
      exact ⟨⟨k + 1, by omega, by go_num, by rw [hft.out, hs2]; simpa using hrow2, hB2⟩, by simp [intOf]; omega⟩
    · have d1 : (x.be != z) = true := by simpa using hs
      have hs2 : (!(soB z x)) = true := by unfold soB; simpa using hs
      replace hs := Lib.hid hs
      have hone : Seen enK (w2.alloc (.cells #[.int .i64 x.fl.pr, .int .u32 x.fl.src, .int .u32 x.fl.dst, .int .i64 x.fl.sp, .int .i64 x.fl.dp, .int .i64 x.be, .int .i64 x.la] 89)) (fun _ => True) (some ⟨w2.heap.size, 0, none⟩) 1 [x] := seen_one (R := enK) (S := fun _ => False) (S' := fun _ => True) w2 89 x #[.int .i64 x.fl.pr, .int .u32 x.fl.src, .int .u32 x.fl.dst, .int .i64 x.fl.sp, .int .i64 x.fl.dp, .int .i64 x.be, .int .i64 x.la] rfl trivial (fun _ h => h.elim) trivial (fun _ h => h.elim)
      have hrow3 := hrow2.alloc (.cells #[.int .i64 x.fl.pr, .int .u32 x.fl.src, .int .u32 x.fl.dst, .int .i64 x.fl.sp, .int .i64 x.fl.dp, .int .i64 x.be, .int .i64 x.la] 89)
      have hB3 := hB2.alloc hz2 (.cells #[.int .i64 x.fl.pr, .int .u32 x.fl.src, .int .u32 x.fl.dst, .int .i64 x.fl.sp, .int .i64 x.fl.dp, .int .i64 x.be, .int .i64 x.la] 89)
      have hz3 := hB3.size
      go_wp2_with (at_builtin; refine wpList_rows en_ok29 rfl (.tmp 22) (.tmp 24) rfl hrow3 rfl rfl hone (fun _ _ => trivial) (by unfold maxLen; omega) (by omega) hz3 ?_; intro v6 w6 hrow6 hg6)
      exact ⟨⟨k + 1, by omega, by go_num, by rw [hft.out, hs2]; exact hrow6, hB3.grown hg6 hz3 (fun j e => (hrow3.1.lt j e).1)⟩, by simp [intOf]; omega⟩
  · obtain rfl : k = n := by omega
    rw [List.take_of_length_le (by rw [hl.out]; exact Nat.le_refl _)] at hrow
    obtain ⟨A9, c9, e9, h91, h92, hs9⟩ := hrow.seen (Nat.le_refl _)
    subst e9
    have hq2 := hq.below hB hq.lt
    obtain ⟨hq3, hg3⟩ := blk_store hq2 3 (.slice A9 (E.filter fun x => !(soB z x)).length c9)
    have c3 : wr.cell? ⟨d, 3, none⟩ = some (.slice A k c) := hq2.cellv 3 rfl
    have f3 := hq2.frozen 3
    have lt3 := hq2.lt
    have hC := (Chg.of_below (X := fun k => k = d) hB).trans (Chg.of_grown (X := fun k => k = d) hg3 rfl) (fun _ _ q => q)
    have hS3 := (hs9.grown hg3 fun b q => ⟨q.2, fun e => by injection e with e; omega⟩).more (S' := fun b => X b ∧ b < (wr.setCell ⟨d, 3, none⟩ (.slice A9 (E.filter fun x => !(soB z x)).length c9)).heap.size) fun b q => ⟨hX b q.1, Nat.lt_of_lt_of_le q.2 hg3.size⟩
    have hR := Lib.hid (show RefF (wr.setCell ⟨d, 3, none⟩ (.slice A9 (E.filter fun x => !(soB z x)).length c9)) X d ro idl now N (E.filter fun x => !(soB z x)) from ⟨A9, _, c9, ca, we, h91, h92, hca, hwe, hq3, hS3⟩)
    replace hC := Lib.hid hC
    clear hq3 hg3 hS3 hq2 hs9
    go_wp2_with fail
    go_ret
    exact ⟨_, rfl, hR.out, hC.out⟩
end Go.Proofs.YtgdeecmhhbdjgaaGreat
