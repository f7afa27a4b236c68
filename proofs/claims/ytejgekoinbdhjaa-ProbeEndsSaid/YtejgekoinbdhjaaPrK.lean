/- probe: probes in the document's form; the very same ones; lives. -/
import Derived.Test.YtejgekoinbdhjaaPrJ
import Derived.Laws.StructEq
namespace Go.Proofs.Ytejgekoinbdhjaa
set_option linter.unusedVariables false
open Go Go.RowKit Go.Maps

theorem pr_cells {w : World} {S : Nat → Prop} {A : Option Addr} {n : Nat} {L : List (Int × Int)} {k : Nat} (h : Seen prK w S A n L) (hk : k < n) :
    ∃ b off x y, A = some ⟨b, off, none⟩ ∧ S b ∧ L[k]? = some (x, y) ∧ w.cell? ⟨b, off + k * 2, none⟩ = some (.int .i64 x) ∧ w.cell? ⟨b, off + k * 2 + 1, none⟩ = some (.int .i64 y) := by
  have hlt : k < L.length := by rw [h.1]; exact hk
  have hr := List.getElem?_eq_getElem hlt
  obtain ⟨b, off, e, hb, hc⟩ := h.cell hr
  exact ⟨b, off, _, _, e, hb, hr, hc 0 (by decide), hc 1 (by decide)⟩
theorem take_next {α : Type} {xs ys : List α} {k : Nat} {a : α} (h : xs.take k = ys.take k) (h1 : xs[k]? = some a) (h2 : ys[k]? = some a) : xs.take (k + 1) = ys.take (k + 1) := by
  rw [List.take_add_one, List.take_add_one, h, h1, h2]
theorem pr_ok24 : ElemOk Try.prog 223 225 prK.size 16 (.agg #[.int .i64 0, .int .i64 0]) := ⟨Try.underlying223, by kernel_rfl, rfl, prK.pos⟩
set_option maxRecDepth 100000 in
set_option maxHeartbeats 4000000 in
theorem same24_any (w : World) (S S' : Nat → Prop) (A : Option Addr) (n c : Nat) (xs : List (Int × Int)) (A' : Option Addr) (n' c' : Nat) (ys : List (Int × Int)) (hx : Seen prK w S A n xs) (hy : Seen prK w S' A' n' ys) (hS : ∀ b, S b → b < w.heap.size) (hS' : ∀ b, S' b → b < w.heap.size) (hn : n ≤ 100000) :
    Calls Try.prog 159 #[.slice A n c, .slice A' n' c'] w fun e w' => e = .returned (.bool (decide (xs = ys))) ∧ Below w.heap.size w w' := by
  have hl := Lib.hid hx.1
  have hl' := Lib.hid hy.1
  go_enter Try.func159, Try.ntmps159
  by_cases hne : n ≠ n'
  · have hb : ((n : Int) != n') = true := by rw [bne_iff_ne]; omega
    have e := Lib.hid (show decide (xs = ys) = false by rw [decide_eq_false_iff_not]; intro e; rw [e] at hl; exact hne (hl.out.symm.trans hl'.out))
    go_wp2_with fail
    go_ret
    exact ⟨ret_bool e.out.symm, Below.refl _ _⟩
  have hnn : n = n' := by omega
  subst hnn
  have hb : ((n : Int) != n) = false := by simp
  go_wp2_with fail
  go_loopw [5, 13] (fun _ i wr => ∃ k : Nat, k ≤ n ∧ i = .int .i64 (k : Int) ∧ xs.take k = ys.take k ∧ Below w.heap.size w wr) (fun _ i _ => n - (intOf i).toNat)
  case atStart => exact ⟨0, Nat.zero_le _, rfl, rfl, Below.refl _ _⟩
  case round =>
  obtain ⟨k, hk, rfl, hkey, hB⟩ := hrel
  replace hkey := Lib.hid hkey
  have hz := hB.size
  by_cases hlt : k < n
  · obtain ⟨b, off, x0, x1, rfl, hb1, hxk, c0, c1⟩ := pr_cells (hx.below hB hS) hlt
    obtain ⟨b', off', y0, y1, rfl, hb2, hyk, d0, d1⟩ := pr_cells (hy.below hB hS') hlt
    have lb1 : b < wr.heap.size := Nat.lt_of_lt_of_le (hS _ hb1) hz
    have lb2 : b' < wr.heap.size := Nat.lt_of_lt_of_le (hS' _ hb2) hz
    have hki : (k : Int) < n := by omega
    by_cases he : (x0, x1) = (y0, y1)
    · injection he with e0 e1
      subst e0
      subst e1
      have e := Lib.hid (take_next hkey.out hxk hyk)
      go_wp2_with fail
      -- region 6: 0 1 2 3 4 5 6 7 8
      try refine wp_region_noPanic ?_
      have hs1r : Below wr.heap.size wr wr.drew := (Below.refl _ _).drew
      refine wp_region_held_drew (S := fun w' => Below wr.heap.size wr w') (by kernel_rfl) hs1r (fun _ => ?_)
      (refine held_takeA 0 (by rfl) ?_ (by kernel_rfl) (fun _ _ _ h => h) hs1r ?_ ?_; rotate_left; (focus (intro wq hSw; have hrd : ∀ b o, b < wr.heap.size → wq.cell? ⟨b, o, none⟩ = wr.cell? ⟨b, o, none⟩ := (fun b o h => hSw.cell (p := ⟨b, o, none⟩) h); go_simp; try with_reducible rfl; done)); try simp only [Act.put, List.setIfInBounds_toArray, List.set_cons_zero, List.set_cons_succ])
      (refine held_takeA 1 (by rfl) ?_ (by kernel_rfl) (fun _ _ _ h => h) hs1r ?_ ?_; rotate_left; (focus (intro wq hSw; have hrd : ∀ b o, b < wr.heap.size → wq.cell? ⟨b, o, none⟩ = wr.cell? ⟨b, o, none⟩ := (fun b o h => hSw.cell (p := ⟨b, o, none⟩) h); go_simp; try with_reducible rfl; done)); try simp only [Act.put, List.setIfInBounds_toArray, List.set_cons_zero, List.set_cons_succ])
      (refine held_takeA 2 (by rfl) ?_ (by kernel_rfl) (fun _ _ _ h => h) hs1r ?_ ?_; rotate_left; (focus (intro wq hSw; have hrd : ∀ b o, b < wr.heap.size → wq.cell? ⟨b, o, none⟩ = wr.cell? ⟨b, o, none⟩ := (fun b o h => hSw.cell (p := ⟨b, o, none⟩) h); go_simp; try with_reducible rfl; done)); try simp only [Act.put, List.setIfInBounds_toArray, List.set_cons_zero, List.set_cons_succ])
      (refine held_takeA 3 (by rfl) ?_ (by kernel_rfl) (fun _ _ _ h => h) hs1r ?_ ?_; rotate_left; (focus (intro wq hSw; have hrd : ∀ b o, b < wr.heap.size → wq.cell? ⟨b, o, none⟩ = wr.cell? ⟨b, o, none⟩ := (fun b o h => hSw.cell (p := ⟨b, o, none⟩) h); go_simp; try with_reducible rfl; done)); try simp only [Act.put, List.setIfInBounds_toArray, List.set_cons_zero, List.set_cons_succ])
      (refine held_takeA 4 (by rfl) ?_ (by kernel_rfl) (fun _ _ _ h => h) hs1r ?_ ?_; rotate_left; (focus (intro wq hSw; have hrd : ∀ b o, b < wr.heap.size → wq.cell? ⟨b, o, none⟩ = wr.cell? ⟨b, o, none⟩ := (fun b o h => hSw.cell (p := ⟨b, o, none⟩) h); go_simp; try with_reducible rfl; done)); try simp only [Act.put, List.setIfInBounds_toArray, List.set_cons_zero, List.set_cons_succ])
      (refine held_takeA 5 (by rfl) ?_ (by kernel_rfl) (fun _ _ _ h => h) hs1r ?_ ?_; rotate_left; (focus (intro wq hSw; have hrd : ∀ b o, b < wr.heap.size → wq.cell? ⟨b, o, none⟩ = wr.cell? ⟨b, o, none⟩ := (fun b o h => hSw.cell (p := ⟨b, o, none⟩) h); go_simp; try with_reducible rfl; done)); try simp only [Act.put, List.setIfInBounds_toArray, List.set_cons_zero, List.set_cons_succ])
      (refine held_takeA 6 (by rfl) ?_ (by kernel_rfl) (fun _ _ _ h => h) hs1r ?_ ?_; rotate_left; (focus (intro wq hSw; have hrd : ∀ b o, b < wr.heap.size → wq.cell? ⟨b, o, none⟩ = wr.cell? ⟨b, o, none⟩ := (fun b o h => hSw.cell (p := ⟨b, o, none⟩) h); go_simp; try with_reducible rfl; done)); try simp only [Act.put, List.setIfInBounds_toArray, List.set_cons_zero, List.set_cons_succ])
      (refine held_takeA 7 (by rfl) ?_ (by kernel_rfl) (fun _ _ _ h => h) hs1r ?_ ?_; rotate_left; (focus (intro wq hSw; have hrd : ∀ b o, b < wr.heap.size → wq.cell? ⟨b, o, none⟩ = wr.cell? ⟨b, o, none⟩ := (fun b o h => hSw.cell (p := ⟨b, o, none⟩) h); go_simp; try with_reducible rfl; done)); try simp only [Act.put, List.setIfInBounds_toArray, List.set_cons_zero, List.set_cons_succ])
      (refine held_takeA 8 (by rfl) ?_ (by kernel_rfl) (fun _ _ _ h => h) hs1r ?_ ?_; rotate_left; (focus (intro wq hSw; have hrd : ∀ b o, b < wr.heap.size → wq.cell? ⟨b, o, none⟩ = wr.cell? ⟨b, o, none⟩ := (fun b o h => hSw.cell (p := ⟨b, o, none⟩) h); go_simp; try with_reducible rfl; done)); try simp only [Act.put, List.setIfInBounds_toArray, List.set_cons_zero, List.set_cons_succ])
      refine wpAnyH_done (by kernel_rfl) ?_ _
      try refine NoPanic.normal ?_
      go_wp2_with fail
      exact ⟨⟨k + 1, by omega, by go_num, e.out, hB.drew⟩, by simp [intOf]; omega⟩
    · have e := Lib.hid (show decide (xs = ys) = false by rw [decide_eq_false_iff_not]; intro e; rw [e, hyk] at hxk; injection hxk with hxk; exact he hxk.symm)
      simp only [Prod.mk.injEq] at he
      by_cases e0 : x0 = y0
      · subst e0
        have e1 : ¬ x1 = y1 := fun q => he ⟨rfl, q⟩
        replace he := Lib.hid he
        go_wp2_with fail
        -- region 6: 0 1 2 3 4 5 6 7 8
        try refine wp_region_noPanic ?_
        have hs2r : Below wr.heap.size wr wr.drew := (Below.refl _ _).drew
        refine wp_region_held_drew (S := fun w' => Below wr.heap.size wr w') (by kernel_rfl) hs2r (fun _ => ?_)
        (refine held_takeA 0 (by rfl) ?_ (by kernel_rfl) (fun _ _ _ h => h) hs2r ?_ ?_; rotate_left; (focus (intro wq hSw; have hrd : ∀ b o, b < wr.heap.size → wq.cell? ⟨b, o, none⟩ = wr.cell? ⟨b, o, none⟩ := (fun b o h => hSw.cell (p := ⟨b, o, none⟩) h); go_simp; try with_reducible rfl; done)); try simp only [Act.put, List.setIfInBounds_toArray, List.set_cons_zero, List.set_cons_succ])
        (refine held_takeA 1 (by rfl) ?_ (by kernel_rfl) (fun _ _ _ h => h) hs2r ?_ ?_; rotate_left; (focus (intro wq hSw; have hrd : ∀ b o, b < wr.heap.size → wq.cell? ⟨b, o, none⟩ = wr.cell? ⟨b, o, none⟩ := (fun b o h => hSw.cell (p := ⟨b, o, none⟩) h); go_simp; try with_reducible rfl; done)); try simp only [Act.put, List.setIfInBounds_toArray, List.set_cons_zero, List.set_cons_succ])
        (refine held_takeA 2 (by rfl) ?_ (by kernel_rfl) (fun _ _ _ h => h) hs2r ?_ ?_; rotate_left; (focus (intro wq hSw; have hrd : ∀ b o, b < wr.heap.size → wq.cell? ⟨b, o, none⟩ = wr.cell? ⟨b, o, none⟩ := (fun b o h => hSw.cell (p := ⟨b, o, none⟩) h); go_simp; try with_reducible rfl; done)); try simp only [Act.put, List.setIfInBounds_toArray, List.set_cons_zero, List.set_cons_succ])
        (refine held_takeA 3 (by rfl) ?_ (by kernel_rfl) (fun _ _ _ h => h) hs2r ?_ ?_; rotate_left; (focus (intro wq hSw; have hrd : ∀ b o, b < wr.heap.size → wq.cell? ⟨b, o, none⟩ = wr.cell? ⟨b, o, none⟩ := (fun b o h => hSw.cell (p := ⟨b, o, none⟩) h); go_simp; try with_reducible rfl; done)); try simp only [Act.put, List.setIfInBounds_toArray, List.set_cons_zero, List.set_cons_succ])
        (refine held_takeA 4 (by rfl) ?_ (by kernel_rfl) (fun _ _ _ h => h) hs2r ?_ ?_; rotate_left; (focus (intro wq hSw; have hrd : ∀ b o, b < wr.heap.size → wq.cell? ⟨b, o, none⟩ = wr.cell? ⟨b, o, none⟩ := (fun b o h => hSw.cell (p := ⟨b, o, none⟩) h); go_simp; try with_reducible rfl; done)); try simp only [Act.put, List.setIfInBounds_toArray, List.set_cons_zero, List.set_cons_succ])
        (refine held_takeA 5 (by rfl) ?_ (by kernel_rfl) (fun _ _ _ h => h) hs2r ?_ ?_; rotate_left; (focus (intro wq hSw; have hrd : ∀ b o, b < wr.heap.size → wq.cell? ⟨b, o, none⟩ = wr.cell? ⟨b, o, none⟩ := (fun b o h => hSw.cell (p := ⟨b, o, none⟩) h); go_simp; try with_reducible rfl; done)); try simp only [Act.put, List.setIfInBounds_toArray, List.set_cons_zero, List.set_cons_succ])
        (refine held_takeA 6 (by rfl) ?_ (by kernel_rfl) (fun _ _ _ h => h) hs2r ?_ ?_; rotate_left; (focus (intro wq hSw; have hrd : ∀ b o, b < wr.heap.size → wq.cell? ⟨b, o, none⟩ = wr.cell? ⟨b, o, none⟩ := (fun b o h => hSw.cell (p := ⟨b, o, none⟩) h); go_simp; try with_reducible rfl; done)); try simp only [Act.put, List.setIfInBounds_toArray, List.set_cons_zero, List.set_cons_succ])
        (refine held_takeA 7 (by rfl) ?_ (by kernel_rfl) (fun _ _ _ h => h) hs2r ?_ ?_; rotate_left; (focus (intro wq hSw; have hrd : ∀ b o, b < wr.heap.size → wq.cell? ⟨b, o, none⟩ = wr.cell? ⟨b, o, none⟩ := (fun b o h => hSw.cell (p := ⟨b, o, none⟩) h); go_simp; try with_reducible rfl; done)); try simp only [Act.put, List.setIfInBounds_toArray, List.set_cons_zero, List.set_cons_succ])
        (refine held_takeA 8 (by rfl) ?_ (by kernel_rfl) (fun _ _ _ h => h) hs2r ?_ ?_; rotate_left; (focus (intro wq hSw; have hrd : ∀ b o, b < wr.heap.size → wq.cell? ⟨b, o, none⟩ = wr.cell? ⟨b, o, none⟩ := (fun b o h => hSw.cell (p := ⟨b, o, none⟩) h); go_simp; try with_reducible rfl; done)); try simp only [Act.put, List.setIfInBounds_toArray, List.set_cons_zero, List.set_cons_succ])
        refine wpAnyH_done (by kernel_rfl) ?_ _
        try refine NoPanic.normal ?_
        go_wp2_with fail
        go_ret
        exact ⟨ret_bool e.out.symm, hB.drew⟩
      · replace he := Lib.hid he
        go_wp2_with fail
        -- region 6: 0 1 2 3 4 5 6 7 8
        try refine wp_region_noPanic ?_
        have hs3r : Below wr.heap.size wr wr.drew := (Below.refl _ _).drew
        refine wp_region_held_drew (S := fun w' => Below wr.heap.size wr w') (by kernel_rfl) hs3r (fun _ => ?_)
        (refine held_takeA 0 (by rfl) ?_ (by kernel_rfl) (fun _ _ _ h => h) hs3r ?_ ?_; rotate_left; (focus (intro wq hSw; have hrd : ∀ b o, b < wr.heap.size → wq.cell? ⟨b, o, none⟩ = wr.cell? ⟨b, o, none⟩ := (fun b o h => hSw.cell (p := ⟨b, o, none⟩) h); go_simp; try with_reducible rfl; done)); try simp only [Act.put, List.setIfInBounds_toArray, List.set_cons_zero, List.set_cons_succ])
        (refine held_takeA 1 (by rfl) ?_ (by kernel_rfl) (fun _ _ _ h => h) hs3r ?_ ?_; rotate_left; (focus (intro wq hSw; have hrd : ∀ b o, b < wr.heap.size → wq.cell? ⟨b, o, none⟩ = wr.cell? ⟨b, o, none⟩ := (fun b o h => hSw.cell (p := ⟨b, o, none⟩) h); go_simp; try with_reducible rfl; done)); try simp only [Act.put, List.setIfInBounds_toArray, List.set_cons_zero, List.set_cons_succ])
        (refine held_takeA 2 (by rfl) ?_ (by kernel_rfl) (fun _ _ _ h => h) hs3r ?_ ?_; rotate_left; (focus (intro wq hSw; have hrd : ∀ b o, b < wr.heap.size → wq.cell? ⟨b, o, none⟩ = wr.cell? ⟨b, o, none⟩ := (fun b o h => hSw.cell (p := ⟨b, o, none⟩) h); go_simp; try with_reducible rfl; done)); try simp only [Act.put, List.setIfInBounds_toArray, List.set_cons_zero, List.set_cons_succ])
        (refine held_takeA 3 (by rfl) ?_ (by kernel_rfl) (fun _ _ _ h => h) hs3r ?_ ?_; rotate_left; (focus (intro wq hSw; have hrd : ∀ b o, b < wr.heap.size → wq.cell? ⟨b, o, none⟩ = wr.cell? ⟨b, o, none⟩ := (fun b o h => hSw.cell (p := ⟨b, o, none⟩) h); go_simp; try with_reducible rfl; done)); try simp only [Act.put, List.setIfInBounds_toArray, List.set_cons_zero, List.set_cons_succ])
        (refine held_takeA 4 (by rfl) ?_ (by kernel_rfl) (fun _ _ _ h => h) hs3r ?_ ?_; rotate_left; (focus (intro wq hSw; have hrd : ∀ b o, b < wr.heap.size → wq.cell? ⟨b, o, none⟩ = wr.cell? ⟨b, o, none⟩ := (fun b o h => hSw.cell (p := ⟨b, o, none⟩) h); go_simp; try with_reducible rfl; done)); try simp only [Act.put, List.setIfInBounds_toArray, List.set_cons_zero, List.set_cons_succ])
        (refine held_takeA 5 (by rfl) ?_ (by kernel_rfl) (fun _ _ _ h => h) hs3r ?_ ?_; rotate_left; (focus (intro wq hSw; have hrd : ∀ b o, b < wr.heap.size → wq.cell? ⟨b, o, none⟩ = wr.cell? ⟨b, o, none⟩ := (fun b o h => hSw.cell (p := ⟨b, o, none⟩) h); go_simp; try with_reducible rfl; done)); try simp only [Act.put, List.setIfInBounds_toArray, List.set_cons_zero, List.set_cons_succ])
        (refine held_takeA 6 (by rfl) ?_ (by kernel_rfl) (fun _ _ _ h => h) hs3r ?_ ?_; rotate_left; (focus (intro wq hSw; have hrd : ∀ b o, b < wr.heap.size → wq.cell? ⟨b, o, none⟩ = wr.cell? ⟨b, o, none⟩ := (fun b o h => hSw.cell (p := ⟨b, o, none⟩) h); go_simp; try with_reducible rfl; done)); try simp only [Act.put, List.setIfInBounds_toArray, List.set_cons_zero, List.set_cons_succ])
        (refine held_takeA 7 (by rfl) ?_ (by kernel_rfl) (fun _ _ _ h => h) hs3r ?_ ?_; rotate_left; (focus (intro wq hSw; have hrd : ∀ b o, b < wr.heap.size → wq.cell? ⟨b, o, none⟩ = wr.cell? ⟨b, o, none⟩ := (fun b o h => hSw.cell (p := ⟨b, o, none⟩) h); go_simp; try with_reducible rfl; done)); try simp only [Act.put, List.setIfInBounds_toArray, List.set_cons_zero, List.set_cons_succ])
        (refine held_takeA 8 (by rfl) ?_ (by kernel_rfl) (fun _ _ _ h => h) hs3r ?_ ?_; rotate_left; (focus (intro wq hSw; have hrd : ∀ b o, b < wr.heap.size → wq.cell? ⟨b, o, none⟩ = wr.cell? ⟨b, o, none⟩ := (fun b o h => hSw.cell (p := ⟨b, o, none⟩) h); go_simp; try with_reducible rfl; done)); try simp only [Act.put, List.setIfInBounds_toArray, List.set_cons_zero, List.set_cons_succ])
        refine wpAnyH_done (by kernel_rfl) ?_ _
        try refine NoPanic.normal ?_
        go_wp2_with fail
        go_ret
        exact ⟨ret_bool e.out.symm, hB.drew⟩
  · obtain rfl : k = n := by omega
    have e : decide (xs = ys) = true := by
      have := hkey.out
      rw [List.take_of_length_le (by have := hl.out; omega), List.take_of_length_le (by have := hl'.out; omega)] at this
      simpa using this
    replace e := Lib.hid e
    go_wp2_with fail
    go_ret
    exact ⟨ret_bool e.out.symm, hB⟩
set_option maxRecDepth 100000 in
set_option maxHeartbeats 4000000 in
theorem plain24_any (w : World) (S : Nat → Prop) (A : Option Addr) (n c : Nat) (xs : List (Int × Int)) (hx : Seen prK w S A n xs) (hS : ∀ b, S b → b < w.heap.size) (hn : n ≤ 100000) :
    Calls Try.prog 160 #[.slice A n c] w fun e w' => ∃ v, e = .returned v ∧ Rows prK w' w.heap.size w.heap.size 225 v xs ∧ Below w.heap.size w w' := by
  have hl := Lib.hid hx.1
  go_enter Try.func160, Try.ntmps160
  go_wp2_with fail
  go_loopw [3, 5, 8] (fun v _ i wr => ∃ k : Nat, k ≤ n ∧ i = .int .i64 (k : Int) ∧ Rows prK wr w.heap.size w.heap.size 225 v (xs.take k) ∧ Below w.heap.size w wr) (fun _ _ i _ => n - (intOf i).toNat)
  case atStart => exact ⟨0, Nat.zero_le _, rfl, Rows.nil _ _ _ _, Below.refl _ _⟩
  case round =>
  obtain ⟨k, hk, rfl, hrow, hB⟩ := hrel
  have hz := hB.size
  by_cases hlt : k < n
  · obtain ⟨b, off, x, y, rfl, hb1, hxk, c0, c1⟩ := pr_cells (hx.below hB hS) hlt
    have lb1 : b < wr.heap.size := Nat.lt_of_lt_of_le (hS _ hb1) hz
    have hki : (k : Int) < n := by omega
    have hbx := (Below.refl wr.heap.size wr).alloc (Nat.le_refl _) (.cells #[.int .i64 x, .int .i64 y] 134)
    have hqx := Blk.new wr 134 #[.int .i64 x, .int .i64 y]
    have hrow3 := hrow.below hbx
    go_upto_region 5 with (fail)
    clear c0 c1
    generalize wr.alloc (.cells #[.int .i64 x, .int .i64 y] 134) = w3 at *
    have s0 : w3.cell? ⟨wr.heap.size, 0, none⟩ = some (.int .i64 x) := hqx.cellv 0 rfl
    have s1 : w3.cell? ⟨wr.heap.size, 1, none⟩ = some (.int .i64 y) := hqx.cellv 1 rfl
    have ltq := hqx.lt
    have hB3 := hB.trans (hbx.mono hz)
    have hb7 := (Below.refl w3.heap.size w3).alloc (Nat.le_refl _) (.cells #[.int .i64 x, .int .i64 y] 225)
    have hrow7 := hrow3.below hb7
    have hB7 := hB3.trans (hb7.mono hB3.size)
    have hz7 := hB7.size
    have hseen : Seen prK (w3.alloc (.cells #[.int .i64 x, .int .i64 y] 225)) (fun _ => True) (some ⟨w3.heap.size, 0, none⟩) 1 [(x, y)] := seen_one (R := prK) (S := fun _ => False) (S' := fun _ => True) w3 225 (x, y) #[.int .i64 x, .int .i64 y] rfl trivial (fun _ h => h.elim) trivial (fun _ h => h.elim)
    have htl : (xs.take k).length = k := by rw [List.length_take, hl.out]; omega
    have hnx := Lib.hid (show xs.take (k + 1) = xs.take k ++ [(x, y)] by rw [List.take_add_one, hxk]; rfl)
    replace htl := Lib.hid htl
    go_wp2_with (at_builtin; refine wpList_rows pr_ok24 rfl (.tmp 12) (.tmp 14) rfl hrow7 rfl rfl hseen (fun _ _ => trivial) (by rw [htl.out]; unfold maxLen; omega) (by rw [htl.out]; omega) hz7 ?_; intro v8 w8 hrow8 hg8)
    have hB8 := hB7.grown hg8 hz7 (fun j e => (hrow7.1.lt j e).1)
    exact ⟨⟨k + 1, by omega, by go_num, by rw [hnx.out]; exact hrow8, hB8⟩, by simp [intOf]; omega⟩
  · obtain rfl : k = n := by omega
    have e := Lib.hid (show xs.take k = xs from List.take_of_length_le (by have := hl.out; omega))
    go_wp2_with fail
    go_ret
    exact ⟨_, rfl, by rw [← e.out]; exact hrow, hB⟩
end Go.Proofs.Ytejgekoinbdhjaa
