/- wire: End, Rest, Sub of a source that was made. -/
import Derived.Test.YthbjpefhpmbepaaWirN
namespace Go.Proofs.Ythbjpefhpmbepaa
set_option linter.unusedVariables false
open Go.RowKit

def endV (s : St) : Int := if s.e ≠ 0 then s.e else if 0 < leftV s then 4 else 0

set_option maxHeartbeats 400000 in
theorem end1_any (w : World) (g gb : Nat) (s : St) (h : Src w g s) (hbx : w.cell? ⟨gb, 0, none⟩ = some (.pointer (some ⟨g, 0, none⟩))) :
    Calls Try.prog 35 #[.pointer (some ⟨gb, 0, none⟩)] w fun e w' => e = .returned (.int .i64 (if 0 < leftV s then 4 else 0)) ∧ w = w' := by
  go_enter Try.func35, Try.ntmps35
  go_wp2_with fail
  refine (left_any w g s h).mono ?_
  rintro e w' ⟨rfl, rfl⟩
  by_cases hl : 0 < leftV s
  · go_wp2_with fail
    go_ret
    exact ⟨ret_int (by simp), rfl⟩
  · go_wp2_with fail
    go_ret
    exact ⟨ret_int (by simp), rfl⟩

set_option maxHeartbeats 1000000 in
theorem end_any (w : World) (g : Nat) (s : St) (h : Src w g s) :
    Calls Try.prog 21 #[.pointer (some ⟨g, 0, none⟩)] w fun e w' => e = .returned (.int .i64 (endV s)) ∧ Below w.heap.size w w' := by
  have i0 := fn0
  have i1 := fn1
  have hst := fun (w : World) (p : Addr) (f : Fn) (x y : Array Value) (m : Mode) => run_store Try.prog w p (.func f x y) m rfl
  have hb1 := ((Below.refl w.heap.size w).alloc (Nat.le_refl _) (.cells #[.pointer (some ⟨g, 0, none⟩)] 37)).alloc (by simp) (.cells #[.func (.func 24) #[.pointer (some ⟨g, 0, none⟩)] #[], .func (.func 35) #[] #[.pointer (some ⟨w.heap.size, 0, none⟩)]] 64)
  have hS := h.below hb1 h.lt
  have hbx := ((Blk.new w 37 #[.pointer (some ⟨g, 0, none⟩)]).alloc (.cells #[.func (.func 24) #[.pointer (some ⟨g, 0, none⟩)] #[], .func (.func 35) #[] #[.pointer (some ⟨w.heap.size, 0, none⟩)]] 64)).cellv 0 (v := .pointer (some ⟨g, 0, none⟩)) rfl
  go_enter Try.func21, Try.ntmps21
  go_wp2_with fail
  refine wp_loop_rounds 3 ?_
  rw [rounds_succ]
  go_wp2_with fail
  refine (err_any _ g s hS).mono ?_
  rintro e w' ⟨rfl, rfl⟩
  by_cases he : s.e = 0
  · have hv : endV s = if 0 < leftV s then 4 else 0 := by simp [endV, he]
    rw [he]
    go_wp2_with fail
    rw [rounds_succ]
    go_wp2_with fail
    refine (end1_any _ g _ s hS hbx).mono ?_
    rintro e w' ⟨rfl, rfl⟩
    rw [← hv]
    by_cases h0 : endV s = 0
    · rw [h0]
      go_wp2_with fail
      rw [rounds_succ]
      go_wp2_with fail
      go_ret
      exact ⟨ret_int h0.symm, hb1⟩
    · go_wp2_with fail
      go_ret
      exact ⟨rfl, hb1⟩
  · have hv : endV s = s.e := by simp [endV, he]
    go_wp2_with fail
    go_ret
    exact ⟨ret_int hv.symm, hb1⟩

theorem tk_at (s : St) (m : Int) : (tk s m).1.at_ = s.at_ + (tk s m).2.length := by
  unfold tk
  split
  · simp
  · split
    · simp
    · split
      · simp
      · simp only [List.length_take]; omega
set_option maxHeartbeats 400000 in
theorem rest_any (w : World) (g : Nat) (s : St) (h : Src w g s) :
    Calls Try.prog 20 #[.pointer (some ⟨g, 0, none⟩)] w fun e w' => ∃ v, e = .returned v ∧ OwnB w' w.heap.size v (tk s (leftV s)).2.length (tk s (leftV s)).2 ∧ Src w' g (tk s (leftV s)).1 ∧ w.grownBy w' (some g) := by
  go_enter Try.func20, Try.ntmps20
  go_wp2_with fail
  refine (left_any w g s h).mono ?_
  rintro e w' ⟨rfl, rfl⟩
  go_wp2_with fail
  refine (bytes_any w g s h _).mono ?_
  rintro e w' ⟨v, rfl, h1, h2, h3⟩
  go_wp2_with fail
  go_ret
  exact ⟨_, rfl, h1, h2, h3⟩
set_option maxHeartbeats 400000 in
theorem sub_any (w : World) (g : Nat) (s : St) (h : Src w g s) (m : Int) :
    Calls Try.prog 29 #[.pointer (some ⟨g, 0, none⟩), .int .i64 m] w fun e w' => ∃ g2, e = .returned (.pointer (some ⟨g2, 0, none⟩)) ∧ w.heap.size ≤ g2 ∧ Src w' g2 ⟨(tk s m).2, 0, 0⟩ ∧ Src w' g (tk s m).1 ∧ w.grownBy w' (some g) := by
  have hs := h
  have hmx := h.max
  have hmx2 := tk_max s m
  have hlt := h.lt
  obtain ⟨A, n, c, h1, h2, h3, h4, h5, h6⟩ := h
  have c0 := h3.cellv 0 (v := .bool true) rfl
  go_enter Try.func29, Try.ntmps29
  go_wp2_with fail
  refine (take_any w g s hs m).mono ?_
  rintro e w1 ⟨A1, k, rfl, hb, hs1, hg⟩
  have hl := hb.1
  have hsz := hg.size
  go_wp2_with fail
  refine (read_any w1 A1 k k _ g hb (by omega) (by omega)).mono ?_
  rintro e w2 ⟨g2, rfl, hg2, hs2, hbe⟩
  go_wp2_with fail
  go_ret
  exact ⟨_, rfl, by omega, hs2, hs1.below hbe (by omega), grown_trans hg (grown_of hbe (Nat.le_refl _) _)⟩
end Go.Proofs.Ythbjpefhpmbepaa
