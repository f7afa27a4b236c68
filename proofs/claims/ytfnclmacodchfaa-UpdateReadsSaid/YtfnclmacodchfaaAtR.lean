/- attr: Same, and the document's. -/
import Derived.Test.YtfnclmacodchfaaAtM
import Derived.BigQuiet
namespace Go.Proofs.Ytfnclmacodchfaa
set_option linter.unusedVariables false
open Go.RowKit

theorem Nums.nx {w w' : World} {A : Option Addr} {n : Nat} {zs : List Int} (h : Nums .i64 w w.heap.size A n zs) (hb : Below w.heap.size w w') : Nums .i64 w' w'.heap.size A n zs := by
  refine ⟨h.1, h.2.1, fun hn => ?_⟩
  obtain ⟨b, off, e, hlt, hc⟩ := h.2.2 hn
  exact ⟨b, off, e, Nat.lt_of_lt_of_le hlt hb.size, fun j hj => (hb.cell (p := ⟨b, off + j, none⟩) hlt).trans (hc j hj)⟩
def intsEq (zs ys : List Int) : Bool := decide (zs = ys)
theorem ints_at {zs : List Int} {k : Nat} (h : k < zs.length) : zs[k]? = some (nAt zs k) := by rw [nAt_get zs k h, List.getElem?_eq_getElem]
theorem ints_len {zs ys : List Int} (h : zs.length ≠ ys.length) : intsEq zs ys = false := by
  unfold intsEq; rw [decide_eq_false_iff_not]; intro e; exact h (by rw [e])
theorem ints_no {zs ys : List Int} {k : Nat} (h : k < zs.length) (h' : k < ys.length) (hne : nAt zs k ≠ nAt ys k) : intsEq zs ys = false := by
  unfold intsEq; rw [decide_eq_false_iff_not]; intro e; exact hne (by rw [e])
theorem ints_next {zs ys : List Int} {k : Nat} (h : k < zs.length) (h' : k < ys.length) (hk : intsEq (zs.take k) (ys.take k) = true) (he : nAt zs k = nAt ys k) : intsEq (zs.take (k + 1)) (ys.take (k + 1)) = true := by
  unfold intsEq at hk ⊢
  rw [decide_eq_true_eq] at hk ⊢
  rw [List.take_add_one, List.take_add_one, hk, ints_at h, ints_at h', he]
set_option maxRecDepth 100000 in
set_option maxHeartbeats 4000000 in
theorem equalInts_any (w : World) (A : Option Addr) (n c : Nat) (zs : List Int) (A' : Option Addr) (n' c' : Nat) (ys : List Int) (hx : Nums .i64 w w.heap.size A n zs) (hx' : Nums .i64 w w.heap.size A' n' ys) (hn : n ≤ 100000) :
    Calls Try.prog 64 #[.slice A n c, .slice A' n' c'] w fun e w' => e = .returned (.bool (intsEq zs ys)) ∧ Below w.heap.size w w' := by
  have hl := Lib.hid hx.1
  have hl' := Lib.hid hx'.1
  go_enter Try.func64, Try.ntmps64
  by_cases hne : n ≠ n'
  · have hb : ((n : Int) != n') = true := by rw [bne_iff_ne]; omega
    have e := Lib.hid (ints_len (zs := zs) (ys := ys) (by rw [hl.out, hl'.out]; exact hne))
    go_wp2_with fail
    go_ret
    exact ⟨ret_bool e.out.symm, Below.refl _ _⟩
  have hnn : n = n' := by omega
  subst hnn
  have hb : ((n : Int) != n) = false := by simp
  go_wp2_with fail
  go_loopw [5, 13] (fun _ i wr => ∃ k : Nat, k ≤ n ∧ i = .int .i64 (k : Int) ∧ intsEq (zs.take k) (ys.take k) = true ∧ Below w.heap.size w wr) (fun _ i _ => n - (intOf i).toNat)
  case atStart => exact ⟨0, Nat.zero_le _, rfl, rfl, Below.refl _ _⟩
  case round =>
  obtain ⟨k, hk, rfl, hkey, hB⟩ := hrel
  replace hkey := Lib.hid hkey
  have hy := hx.nx hB
  have hy' := hx'.nx hB
  by_cases hlt : k < n
  · obtain ⟨b, off, rfl, hb1, hc⟩ := hy.2.2 (by omega)
    obtain ⟨b', off', rfl, hb2, hc'⟩ := hy'.2.2 (by omega)
    have c0 := hc k hlt
    have d0 := hc' k hlt
    have hki : (k : Int) < n := by omega
    clear hc hc' hy hy'
    by_cases he : nAt zs k = nAt ys k
    · have bt : (nAt zs k != nAt ys k) = false := by rw [he]; simp
      have e := Lib.hid (ints_next (by rw [hl.out]; exact hlt) (by rw [hl'.out]; exact hlt) hkey.out he)
      replace he := Lib.hid he
      go_wp2_with fail
      -- region 6: 0 1 2 3 4 5 6 7 8
      try refine wp_region_noPanic ?_
      have hs1r : Below wr.heap.size wr wr.drew := (Below.refl _ _).drew
      refine wp_region_held_drew (S := fun w' => Below wr.heap.size wr w') (by kernel_rfl) hs1r (fun _ => ?_)
      (refine held_takeA 0 (by rfl) ?_ (by kernel_rfl) (fun _ _ _ h => h) hs1r ?_ ?_; rotate_left; (focus (intro wq hSw; have hrd : ∀ b o, b < wr.heap.size → wq.cell? ⟨b, o, none⟩ = wr.cell? ⟨b, o, none⟩ := (fun b o h => hSw.cell (p := ⟨b, o, none⟩) h); go_simp; try with_reducible rfl; done)); try simp only [Act.put, List.setIfInBounds_toArray, List.set_cons_zero, List.set_cons_succ])
      (refine held_takeA 1 (by rfl) ?_ (by kernel_rfl) (fun _ _ _ h => h) hs1r ?_ ?_; rotate_left; (focus (intro wq hSw; have hrd : ∀ b o, b < wr.heap.size → wq.cell? ⟨b, o, none⟩ = wr.cell? ⟨b, o, none⟩ := (fun b o h => hSw.cell (p := ⟨b, o, none⟩) h); go_simp; try with_reducible rfl; done)); try simp only [Act.put, List.setIfInBounds_toArray, List.set_cons_zero, List.set_cons_succ])
      (refine held_takeA 2 (by rfl) ?_ (by kernel_rfl) (fun _ _ _ h => h) hs1r ?_ ?_; rotate_left; (focus (intro wq hSw; have hrd : ∀ b o, b < wr.heap.size → wq.cell? ⟨b, o, none⟩ = wr.cell? ⟨b, o, none⟩ := (fun b o h => hSw.cell (p := ⟨b, o, none⟩) h); go_simp; try with_reducible rfl; done)); try simp only [Act.put, List.setIfInBounds_toArray, List.set_cons_zero, List.set_cons_succ])
      (refine held_takeA 3 (by rfl) ?_ (by kernel_rfl) (fun _ _ _ h => h) hs1r ?_ ?_; rotate_left; (focus (intro wq hSw; have hrd : ∀ b o, b < wr.heap.size → wq.cell? ⟨b, o, none⟩ = wr.cell? ⟨b, o, none⟩ := (fun b o h => hSw.cell (p := ⟨b, o, none⟩) h); go_simp; try with_reducible rfl; done)); try simp only [Act.put, List.setIfInBounds_toArray, List.set_cons_zero, List.set_cons_succ])
      (refine held_takeA 4 (by rfl) ?_ (by kernel_rfl) (fun _ _ _ h => h) hs1r ?_ ?_; rotate_left; (focus (intro wq hSw; have hrd : ∀ b o, b < wr.heap.size → wq.cell? ⟨b, o, none⟩ = wr.cell? ⟨b, o, none⟩ := (fun b o h => hSw.cell (p := ⟨b, o, none⟩) h); go_simp; try with_reducible rfl; done)); try simp only [Act.put, List.setIfInBounds_toArray, List.set_cons_zero, List.set_cons_succ])
      (refine held_takeA 5 (by rfl) ?_ (by kernel_rfl) (fun _ _ _ h => h) hs1r ?_ ?_; rotate_left; (focus (intro wq hSw; have hrd : ∀ b o, b < wr.heap.size → wq.cell? ⟨b, o, none⟩ = wr.cell? ⟨b, o, none⟩ := (fun b o h => hSw.cell (p := ⟨b, o, none⟩) h); go_simp; try with_reducible rfl; done)); try simp only [Act.put, List.setIfInBounds_toArray, List.set_cons_zero, List.set_cons_succ])
      (refine held_takeA 6 (by rfl) ?_ (by kernel_rfl) (fun _ _ _ h => h) hs1r ?_ ?_; rotate_left; (focus (intro wq hSw; have hrd : ∀ b o, b < wr.heap.size → wq.cell? ⟨b, o, none⟩ = wr.cell? ⟨b, o, none⟩ := (fun b o h => hSw.cell (p := ⟨b, o, none⟩) h); go_simp; try with_reducible rfl; done)); try simp only [Act.put, List.setIfInBounds_toArray, List.set_cons_zero, List.set_cons_succ])
      (refine held_takeA 7 (by rfl) ?_ (by kernel_rfl) (fun _ _ _ h => h) hs1r ?_ ?_; rotate_left; (focus (intro wq hSw; have hrd : ∀ b o, b < wr.heap.size → wq.cell? ⟨b, o, none⟩ = wr.cell? ⟨b, o, none⟩ := (fun b o h => hSw.cell (p := ⟨b, o, none⟩) h); go_simp; try with_reducible rfl; done)); try simp only [Act.put, List.setIfInBounds_toArray, List.set_cons_zero, List.set_cons_succ])
      (refine held_takeA 8 (by rfl) ?_ (by kernel_rfl) (fun _ _ _ h => h) hs1r ?_ ?_; rotate_left; (focus (intro wq hSw; have hrd : ∀ b o, b < wr.heap.size → wq.cell? ⟨b, o, none⟩ = wr.cell? ⟨b, o, none⟩ := (fun b o h => hSw.cell (p := ⟨b, o, none⟩) h); go_simp; try with_reducible rfl; done)); try simp only [Act.put, List.setIfInBounds_toArray, List.set_cons_zero, List.set_cons_succ])
      refine wpAnyH_done (by kernel_rfl) ?_ _
      try refine NoPanic.normal ?_
      go_wp2_with fail
      exact ⟨⟨k + 1, by omega, by go_num, e.out, hB.drew⟩, by simp [intOf]; omega⟩
    · have bt : (nAt zs k != nAt ys k) = true := by rw [bne_iff_ne]; exact he
      have e := Lib.hid (ints_no (by rw [hl.out]; exact hlt) (by rw [hl'.out]; exact hlt) he)
      replace he := Lib.hid he
      go_wp2_with fail
      -- region 6: 0 1 2 3 4 5 6 7 8
      try refine wp_region_noPanic ?_
      have hs2r : Below wr.heap.size wr wr.drew := (Below.refl _ _).drew
      refine wp_region_held_drew (S := fun w' => Below wr.heap.size wr w') (by kernel_rfl) hs2r (fun _ => ?_)
      (refine held_takeA 0 (by rfl) ?_ (by kernel_rfl) (fun _ _ _ h => h) hs2r ?_ ?_; rotate_left; (focus (intro wq hSw; have hrd : ∀ b o, b < wr.heap.size → wq.cell? ⟨b, o, none⟩ = wr.cell? ⟨b, o, none⟩ := (fun b o h => hSw.cell (p := ⟨b, o, none⟩) h); go_simp; try with_reducible rfl; done)); try simp only [Act.put, List.setIfInBounds_toArray, List.set_cons_zero, List.set_cons_succ])
      (refine held_takeA 1 (by rfl) ?_ (by kernel_rfl) (fun _ _ _ h => h) hs2r ?_ ?_; rotate_left; (focus (intro wq hSw; have hrd : ∀ b o, b < wr.heap.size → wq.cell? ⟨b, o, none⟩ = wr.cell? ⟨b, o, none⟩ := (fun b o h => hSw.cell (p := ⟨b, o, none⟩) h); go_simp; try with_reducible rfl; done)); try simp only [Act.put, List.setIfInBounds_toArray, List.set_cons_zero, List.set_cons_succ])
      (refine held_takeA 2 (by rfl) ?_ (by kernel_rfl) (fun _ _ _ h => h) hs2r ?_ ?_; rotate_left; (focus (intro wq hSw; have hrd : ∀ b o, b < wr.heap.size → wq.cell? ⟨b, o, none⟩ = wr.cell? ⟨b, o, none⟩ := (fun b o h => hSw.cell (p := ⟨b, o, none⟩) h); go_simp; try with_reducible rfl; done)); try simp only [Act.put, List.setIfInBounds_toArray, List.set_cons_zero, List.set_cons_succ])
      (refine held_takeA 3 (by rfl) ?_ (by kernel_rfl) (fun _ _ _ h => h) hs2r ?_ ?_; rotate_left; (focus (intro wq hSw; have hrd : ∀ b o, b < wr.heap.size → wq.cell? ⟨b, o, none⟩ = wr.cell? ⟨b, o, none⟩ := (fun b o h => hSw.cell (p := ⟨b, o, none⟩) h); go_simp; try with_reducible rfl; done)); try simp only [Act.put, List.setIfInBounds_toArray, List.set_cons_zero, List.set_cons_succ])
      (refine held_takeA 4 (by rfl) ?_ (by kernel_rfl) (fun _ _ _ h => h) hs2r ?_ ?_; rotate_left; (focus (intro wq hSw; have hrd : ∀ b o, b < wr.heap.size → wq.cell? ⟨b, o, none⟩ = wr.cell? ⟨b, o, none⟩ := (fun b o h => hSw.cell (p := ⟨b, o, none⟩) h); go_simp; try with_reducible rfl; done)); try simp only [Act.put, List.setIfInBounds_toArray, List.set_cons_zero, List.set_cons_succ])
      (refine held_takeA 5 (by rfl) ?_ (by kernel_rfl) (fun _ _ _ h => h) hs2r ?_ ?_; rotate_left; (focus (intro wq hSw; have hrd : ∀ b o, b < wr.heap.size → wq.cell? ⟨b, o, none⟩ = wr.cell? ⟨b, o, none⟩ := (fun b o h => hSw.cell (p := ⟨b, o, none⟩) h); go_simp; try with_reducible rfl; done)); try simp only [Act.put, List.setIfInBounds_toArray, List.set_cons_zero, List.set_cons_succ])
      (refine held_takeA 6 (by rfl) ?_ (by kernel_rfl) (fun _ _ _ h => h) hs2r ?_ ?_; rotate_left; (focus (intro wq hSw; have hrd : ∀ b o, b < wr.heap.size → wq.cell? ⟨b, o, none⟩ = wr.cell? ⟨b, o, none⟩ := (fun b o h => hSw.cell (p := ⟨b, o, none⟩) h); go_simp; try with_reducible rfl; done)); try simp only [Act.put, List.setIfInBounds_toArray, List.set_cons_zero, List.set_cons_succ])
      (refine held_takeA 7 (by rfl) ?_ (by kernel_rfl) (fun _ _ _ h => h) hs2r ?_ ?_; rotate_left; (focus (intro wq hSw; have hrd : ∀ b o, b < wr.heap.size → wq.cell? ⟨b, o, none⟩ = wr.cell? ⟨b, o, none⟩ := (fun b o h => hSw.cell (p := ⟨b, o, none⟩) h); go_simp; try with_reducible rfl; done)); try simp only [Act.put, List.setIfInBounds_toArray, List.set_cons_zero, List.set_cons_succ])
      (refine held_takeA 8 (by rfl) ?_ (by kernel_rfl) (fun _ _ _ h => h) hs2r ?_ ?_; rotate_left; (focus (intro wq hSw; have hrd : ∀ b o, b < wr.heap.size → wq.cell? ⟨b, o, none⟩ = wr.cell? ⟨b, o, none⟩ := (fun b o h => hSw.cell (p := ⟨b, o, none⟩) h); go_simp; try with_reducible rfl; done)); try simp only [Act.put, List.setIfInBounds_toArray, List.set_cons_zero, List.set_cons_succ])
      refine wpAnyH_done (by kernel_rfl) ?_ _
      try refine NoPanic.normal ?_
      go_wp2_with fail
      go_ret
      exact ⟨ret_bool e.out.symm, hB.drew⟩
  · obtain rfl : k = n := by omega
    have e : intsEq zs ys = true := by
      have := hkey.out
      rw [List.take_of_length_le (by rw [hl.out]; omega), List.take_of_length_le (by rw [hl'.out]; omega)] at this
      exact this
    replace e := Lib.hid e
    go_wp2_with fail
    go_ret
    exact ⟨ret_bool e.out.symm, hB⟩
def sameA (o : Int) (zs : List Int) (h m : Int) (b : Bool) (o' : Int) (zs' : List Int) (h' m' : Int) (b' : Bool) : Bool := o == o' && h == h' && m == m' && b == b' && intsEq zs zs'
set_option maxRecDepth 100000 in
set_option maxHeartbeats 8000000 in
theorem attrSame_any (w : World) (o : Int) (A : Option Addr) (n c : Nat) (zs : List Int) (h m : Int) (b : Bool) (o' : Int) (A' : Option Addr) (n' c' : Nat) (ys : List Int) (h' m' : Int) (b' : Bool) (hx : Nums .i64 w w.heap.size A n zs) (hx' : Nums .i64 w w.heap.size A' n' ys) (hn : n ≤ 100000) :
    Calls Try.prog 27 #[.agg #[.int .i64 o, .slice A n c, .int .u32 h, .int .i64 m, .bool b], .agg #[.int .i64 o', .slice A' n' c', .int .u32 h', .int .i64 m', .bool b']] w fun e w' => e = .returned (.bool (sameA o zs h m b o' ys h' m' b')) ∧ Below w.heap.size w w' := by
  have hl := Lib.hid hx.1
  have hl' := Lib.hid hx'.1
  have hB := ((Below.refl w.heap.size w).alloc (Nat.le_refl _) (.cells #[.int .i64 o, .slice A n c, .int .u32 h, .int .i64 m, .bool b] 26)).alloc (by simp) (.cells #[.int .i64 o', .slice A' n' c', .int .u32 h', .int .i64 m', .bool b'] 26)
  have hq := (Blk.new w 26 #[.int .i64 o, .slice A n c, .int .u32 h, .int .i64 m, .bool b]).alloc (.cells #[.int .i64 o', .slice A' n' c', .int .u32 h', .int .i64 m', .bool b'] 26)
  have hq' : Blk ((w.alloc (.cells #[.int .i64 o, .slice A n c, .int .u32 h, .int .i64 m, .bool b] 26)).alloc (.cells #[.int .i64 o', .slice A' n' c', .int .u32 h', .int .i64 m', .bool b'] 26)) (w.heap.size + 1) 26 #[.int .i64 o', .slice A' n' c', .int .u32 h', .int .i64 m', .bool b'] := by
    have := Blk.new (w.alloc (.cells #[.int .i64 o, .slice A n c, .int .u32 h, .int .i64 m, .bool b] 26)) 26 #[.int .i64 o', .slice A' n' c', .int .u32 h', .int .i64 m', .bool b']
    simpa using this
  replace hx := hx.nx hB
  replace hx' := hx'.nx hB
  go_enter Try.func27, Try.ntmps27
  by_cases e0 : o = o'
  rotate_left
  · have f0 : sameA o zs h m b o' ys h' m' b' = false := by unfold sameA; rw [show (o == o') = false by simpa using e0]; simp
    have b0 : (o == o') = false := by simpa using e0
    replace f0 := Lib.hid f0
    replace e0 := Lib.hid e0
    go_wp2_with fail
    go_ret
    exact ⟨ret_bool f0.out.symm, hB⟩
  have b0 : (o == o') = true := by simpa using e0
  have g0 := b0
  replace g0 := Lib.hid g0
  replace e0 := Lib.hid e0
  by_cases e1 : h = h'
  rotate_left
  · have f1 : sameA o zs h m b o' ys h' m' b' = false := by unfold sameA; rw [show (h == h') = false by simpa using e1]; simp
    have b1 : (h == h') = false := by simpa using e1
    replace f1 := Lib.hid f1
    replace e1 := Lib.hid e1
    go_wp2_with fail
    go_ret
    exact ⟨ret_bool f1.out.symm, hB⟩
  have b1 : (h == h') = true := by simpa using e1
  have g1 := b1
  replace g1 := Lib.hid g1
  replace e1 := Lib.hid e1
  by_cases e2 : m = m'
  rotate_left
  · have f2 : sameA o zs h m b o' ys h' m' b' = false := by unfold sameA; rw [show (m == m') = false by simpa using e2]; simp
    have b2 : (m == m') = false := by simpa using e2
    replace f2 := Lib.hid f2
    replace e2 := Lib.hid e2
    go_wp2_with fail
    go_ret
    exact ⟨ret_bool f2.out.symm, hB⟩
  have b2 : (m == m') = true := by simpa using e2
  have g2 := b2
  replace g2 := Lib.hid g2
  replace e2 := Lib.hid e2
  by_cases e3 : b = b'
  rotate_left
  · have f3 : sameA o zs h m b o' ys h' m' b' = false := by unfold sameA; rw [show (b == b') = false by simpa using e3]; simp
    have b3 : (b == b') = false := by simpa using e3
    replace f3 := Lib.hid f3
    replace e3 := Lib.hid e3
    go_wp2_with fail
    go_ret
    exact ⟨ret_bool f3.out.symm, hB⟩
  subst e3
  have g3 := Lib.hid (beq_self_eq_true b)
  have hfin : sameA o zs h m b o' ys h' m' b = intsEq zs ys := by unfold sameA; rw [g0.out, g1.out, g2.out, g3.out]; rfl
  replace hfin := Lib.hid hfin
  go_wp2_with fail
  refine (equalInts_any _ A n c zs A' n' c' ys hx hx' hn).mono ?_
  rintro e w' ⟨rfl, hb⟩
  have hB2 := hB.trans (hb.mono hB.size)
  go_wp2_with fail
  go_ret
  exact ⟨ret_bool hfin.out.symm, hB2⟩
set_option maxRecDepth 100000 in
set_option maxHeartbeats 8000000 in
theorem refSame7_any (w : World) (o : Int) (A : Option Addr) (n c : Nat) (zs : List Int) (h m : Int) (b : Bool) (o' : Int) (A' : Option Addr) (n' c' : Nat) (ys : List Int) (h' m' : Int) (b' : Bool) (hx : Nums .i64 w w.heap.size A n zs) (hx' : Nums .i64 w w.heap.size A' n' ys) (hn : n ≤ 100000) :
    Calls Try.prog 29 #[.agg #[.int .i64 o, .slice A n c, .int .u32 h, .int .i64 m, .bool b], .agg #[.int .i64 o', .slice A' n' c', .int .u32 h', .int .i64 m', .bool b']] w fun e w' => e = .returned (.bool (sameA o zs h m b o' ys h' m' b')) ∧ Below w.heap.size w w' := by
  have hl := Lib.hid hx.1
  have hl' := Lib.hid hx'.1
  have hB := ((Below.refl w.heap.size w).alloc (Nat.le_refl _) (.cells #[.int .i64 o, .slice A n c, .int .u32 h, .int .i64 m, .bool b] 31)).alloc (by simp) (.cells #[.int .i64 o', .slice A' n' c', .int .u32 h', .int .i64 m', .bool b'] 31)
  have hq := (Blk.new w 31 #[.int .i64 o, .slice A n c, .int .u32 h, .int .i64 m, .bool b]).alloc (.cells #[.int .i64 o', .slice A' n' c', .int .u32 h', .int .i64 m', .bool b'] 31)
  have hq' : Blk ((w.alloc (.cells #[.int .i64 o, .slice A n c, .int .u32 h, .int .i64 m, .bool b] 31)).alloc (.cells #[.int .i64 o', .slice A' n' c', .int .u32 h', .int .i64 m', .bool b'] 31)) (w.heap.size + 1) 31 #[.int .i64 o', .slice A' n' c', .int .u32 h', .int .i64 m', .bool b'] := by
    have := Blk.new (w.alloc (.cells #[.int .i64 o, .slice A n c, .int .u32 h, .int .i64 m, .bool b] 31)) 31 #[.int .i64 o', .slice A' n' c', .int .u32 h', .int .i64 m', .bool b']
    simpa using this
  replace hx := hx.nx hB
  replace hx' := hx'.nx hB
  go_enter Try.func29, Try.ntmps29
  by_cases e0 : o = o'
  rotate_left
  · have f0 : sameA o zs h m b o' ys h' m' b' = false := by unfold sameA; rw [show (o == o') = false by simpa using e0]; simp
    have b0 : (o != o') = true := by simpa using e0
    replace f0 := Lib.hid f0
    replace e0 := Lib.hid e0
    go_wp2_with fail
    go_ret
    exact ⟨ret_bool f0.out.symm, hB⟩
  have b0 : (o != o') = false := by simpa using e0
  have g0 : (o == o') = true := by simpa using e0
  replace g0 := Lib.hid g0
  replace e0 := Lib.hid e0
  by_cases e1 : h = h'
  rotate_left
  · have f1 : sameA o zs h m b o' ys h' m' b' = false := by unfold sameA; rw [show (h == h') = false by simpa using e1]; simp
    have b1 : (h != h') = true := by simpa using e1
    replace f1 := Lib.hid f1
    replace e1 := Lib.hid e1
    go_wp2_with fail
    go_ret
    exact ⟨ret_bool f1.out.symm, hB⟩
  have b1 : (h != h') = false := by simpa using e1
  have g1 : (h == h') = true := by simpa using e1
  replace g1 := Lib.hid g1
  replace e1 := Lib.hid e1
  by_cases e2 : m = m'
  rotate_left
  · have f2 : sameA o zs h m b o' ys h' m' b' = false := by unfold sameA; rw [show (m == m') = false by simpa using e2]; simp
    have b2 : (m != m') = true := by simpa using e2
    replace f2 := Lib.hid f2
    replace e2 := Lib.hid e2
    go_wp2_with fail
    go_ret
    exact ⟨ret_bool f2.out.symm, hB⟩
  have b2 : (m != m') = false := by simpa using e2
  have g2 : (m == m') = true := by simpa using e2
  replace g2 := Lib.hid g2
  replace e2 := Lib.hid e2
  by_cases e3 : b = b'
  rotate_left
  · have f3 : sameA o zs h m b o' ys h' m' b' = false := by unfold sameA; rw [show (b == b') = false by simpa using e3]; simp
    have b3 : (b != b') = true := by simpa using e3
    replace f3 := Lib.hid f3
    replace e3 := Lib.hid e3
    go_wp2_with fail
    go_ret
    exact ⟨ret_bool f3.out.symm, hB⟩
  subst e3
  have g3 := Lib.hid (beq_self_eq_true b)
  have hfin : sameA o zs h m b o' ys h' m' b = intsEq zs ys := by unfold sameA; rw [g0.out, g1.out, g2.out, g3.out]; rfl
  replace hfin := Lib.hid hfin
  by_cases hne : n ≠ n'
  · have hb : ((n : Int) != n') = true := by rw [bne_iff_ne]; omega
    have e := Lib.hid (ints_len (zs := zs) (ys := ys) (by rw [hl.out, hl'.out]; exact hne))
    go_wp2_with fail
    go_ret
    exact ⟨ret_bool (by rw [hfin.out, e.out]), hB⟩
  have hnn : n = n' := by omega
  subst hnn
  have hb : ((n : Int) != n) = false := by simp
  generalize hw1 : ((w.alloc (.cells #[.int .i64 o, .slice A n c, .int .u32 h, .int .i64 m, .bool b] 31)).alloc (.cells #[.int .i64 o', .slice A' n c', .int .u32 h', .int .i64 m', .bool b] 31)) = w1 at hB hq hq' hx hx'
  have q0 : w1.cell? ⟨w.heap.size, 0, none⟩ = some (.int .i64 o) := hq.cellv 0 rfl
  have q1 : w1.cell? ⟨w.heap.size, 1, none⟩ = some (.slice A n c) := hq.cellv 1 rfl
  have q2 : w1.cell? ⟨w.heap.size, 2, none⟩ = some (.int .u32 h) := hq.cellv 2 rfl
  have q3 : w1.cell? ⟨w.heap.size, 3, none⟩ = some (.int .i64 m) := hq.cellv 3 rfl
  have q4 : w1.cell? ⟨w.heap.size, 4, none⟩ = some (.bool b) := hq.cellv 4 rfl
  have p0 : w1.cell? ⟨w.heap.size + 1, 0, none⟩ = some (.int .i64 o') := hq'.cellv 0 rfl
  have p1 : w1.cell? ⟨w.heap.size + 1, 1, none⟩ = some (.slice A' n c') := hq'.cellv 1 rfl
  have p2 : w1.cell? ⟨w.heap.size + 1, 2, none⟩ = some (.int .u32 h') := hq'.cellv 2 rfl
  have p3 : w1.cell? ⟨w.heap.size + 1, 3, none⟩ = some (.int .i64 m') := hq'.cellv 3 rfl
  have p4 : w1.cell? ⟨w.heap.size + 1, 4, none⟩ = some (.bool b) := hq'.cellv 4 rfl
  have lt0 := hq.lt
  have lt1 := hq'.lt
  go_wp2_with fail
  go_loopw [5, 44] (fun _ i wr => ∃ k : Nat, k ≤ n ∧ i = .int .i64 (k : Int) ∧ intsEq (zs.take k) (ys.take k) = true ∧ Blk wr w.heap.size 31 #[.int .i64 o, .slice A n c, .int .u32 h, .int .i64 m, .bool b] ∧ Blk wr (w.heap.size + 1) 31 #[.int .i64 o', .slice A' n c', .int .u32 h', .int .i64 m', .bool b] ∧ Below w1.heap.size w1 wr) (fun _ i _ => n - (intOf i).toNat)
  case atStart => exact ⟨0, Nat.zero_le _, rfl, rfl, hq, hq', Below.refl _ _⟩
  case round =>
  clear q0 q1 q2 q3 q4 p0 p1 p2 p3 p4 lt0 lt1
  clear hq hq'
  obtain ⟨k, hk, rfl, hkey, hq, hq', hb1⟩ := hrel
  replace hB := hB.trans (hb1.mono hB.size)
  replace hx := hx.nx hb1
  replace hx' := hx'.nx hb1
  clear hw1
  replace hkey := Lib.hid hkey
  have q0 : wr.cell? ⟨w.heap.size, 0, none⟩ = some (.int .i64 o) := hq.cellv 0 rfl
  have q1 : wr.cell? ⟨w.heap.size, 1, none⟩ = some (.slice A n c) := hq.cellv 1 rfl
  have q2 : wr.cell? ⟨w.heap.size, 2, none⟩ = some (.int .u32 h) := hq.cellv 2 rfl
  have q3 : wr.cell? ⟨w.heap.size, 3, none⟩ = some (.int .i64 m) := hq.cellv 3 rfl
  have q4 : wr.cell? ⟨w.heap.size, 4, none⟩ = some (.bool b) := hq.cellv 4 rfl
  have p0 : wr.cell? ⟨w.heap.size + 1, 0, none⟩ = some (.int .i64 o') := hq'.cellv 0 rfl
  have p1 : wr.cell? ⟨w.heap.size + 1, 1, none⟩ = some (.slice A' n c') := hq'.cellv 1 rfl
  have p2 : wr.cell? ⟨w.heap.size + 1, 2, none⟩ = some (.int .u32 h') := hq'.cellv 2 rfl
  have p3 : wr.cell? ⟨w.heap.size + 1, 3, none⟩ = some (.int .i64 m') := hq'.cellv 3 rfl
  have p4 : wr.cell? ⟨w.heap.size + 1, 4, none⟩ = some (.bool b) := hq'.cellv 4 rfl
  have lt0 := hq.lt
  have lt1 := hq'.lt
  by_cases hlt : k < n
  · obtain ⟨bb, off, rfl, hbb, hc⟩ := hx.2.2 (by omega)
    obtain ⟨bb', off', rfl, hbb', hc'⟩ := hx'.2.2 (by omega)
    have c0 := hc k hlt
    have d0 := hc' k hlt
    have hki : (k : Int) < n := by omega
    clear hc hc' hx hx'
    by_cases he : nAt zs k = nAt ys k
    · have bt : (nAt zs k != nAt ys k) = false := by rw [he]; simp
      have e := Lib.hid (ints_next (by rw [hl.out]; exact hlt) (by rw [hl'.out]; exact hlt) hkey.out he)
      replace he := Lib.hid he
      go_wp2_with fail
      -- region 6: 0 1 2 3 4 5 6 7 8 9 10
      try refine wp_region_noPanic ?_
      have hs3r : Below wr.heap.size wr wr.drew := (Below.refl _ _).drew
      refine wp_region_held_drew (S := fun w' => Below wr.heap.size wr w') (by kernel_rfl) hs3r (fun _ => ?_)
      (refine held_takeA 0 (by rfl) ?_ (by kernel_rfl) (fun _ _ _ h => h) hs3r ?_ ?_; rotate_left; (focus (intro wq hSw; have hrd : ∀ b o, b < wr.heap.size → wq.cell? ⟨b, o, none⟩ = wr.cell? ⟨b, o, none⟩ := (fun b o h => hSw.cell (p := ⟨b, o, none⟩) h); go_simp; try with_reducible rfl; done)); try simp only [Act.put, List.setIfInBounds_toArray, List.set_cons_zero, List.set_cons_succ])
      (refine held_takeA 1 (by rfl) ?_ (by kernel_rfl) (fun _ _ _ h => h) hs3r ?_ ?_; rotate_left; (focus (intro wq hSw; have hrd : ∀ b o, b < wr.heap.size → wq.cell? ⟨b, o, none⟩ = wr.cell? ⟨b, o, none⟩ := (fun b o h => hSw.cell (p := ⟨b, o, none⟩) h); go_simp; try with_reducible rfl; done)); try simp only [Act.put, List.setIfInBounds_toArray, List.set_cons_zero, List.set_cons_succ])
      (refine held_takeA 2 (by rfl) ?_ (by kernel_rfl) (fun _ _ _ h => h) hs3r ?_ ?_; rotate_left; (focus (intro wq hSw; have hrd : ∀ b o, b < wr.heap.size → wq.cell? ⟨b, o, none⟩ = wr.cell? ⟨b, o, none⟩ := (fun b o h => hSw.cell (p := ⟨b, o, none⟩) h); go_simp; try with_reducible rfl; done)); try simp only [Act.put, List.setIfInBounds_toArray, List.set_cons_zero, List.set_cons_succ])
      (refine held_takeA 3 (by rfl) ?_ (by kernel_rfl) (fun _ _ _ h => h) hs3r ?_ ?_; rotate_left; (focus (intro wq hSw; have hrd : ∀ b o, b < wr.heap.size → wq.cell? ⟨b, o, none⟩ = wr.cell? ⟨b, o, none⟩ := (fun b o h => hSw.cell (p := ⟨b, o, none⟩) h); go_simp; try with_reducible rfl; done)); try simp only [Act.put, List.setIfInBounds_toArray, List.set_cons_zero, List.set_cons_succ])
      (refine held_takeA 4 (by rfl) ?_ (by kernel_rfl) (fun _ _ _ h => h) hs3r ?_ ?_; rotate_left; (focus (intro wq hSw; have hrd : ∀ b o, b < wr.heap.size → wq.cell? ⟨b, o, none⟩ = wr.cell? ⟨b, o, none⟩ := (fun b o h => hSw.cell (p := ⟨b, o, none⟩) h); go_simp; try with_reducible rfl; done)); try simp only [Act.put, List.setIfInBounds_toArray, List.set_cons_zero, List.set_cons_succ])
      (refine held_takeA 5 (by rfl) ?_ (by kernel_rfl) (fun _ _ _ h => h) hs3r ?_ ?_; rotate_left; (focus (intro wq hSw; have hrd : ∀ b o, b < wr.heap.size → wq.cell? ⟨b, o, none⟩ = wr.cell? ⟨b, o, none⟩ := (fun b o h => hSw.cell (p := ⟨b, o, none⟩) h); go_simp; try with_reducible rfl; done)); try simp only [Act.put, List.setIfInBounds_toArray, List.set_cons_zero, List.set_cons_succ])
      (refine held_takeA 6 (by rfl) ?_ (by kernel_rfl) (fun _ _ _ h => h) hs3r ?_ ?_; rotate_left; (focus (intro wq hSw; have hrd : ∀ b o, b < wr.heap.size → wq.cell? ⟨b, o, none⟩ = wr.cell? ⟨b, o, none⟩ := (fun b o h => hSw.cell (p := ⟨b, o, none⟩) h); go_simp; try with_reducible rfl; done)); try simp only [Act.put, List.setIfInBounds_toArray, List.set_cons_zero, List.set_cons_succ])
      (refine held_takeA 7 (by rfl) ?_ (by kernel_rfl) (fun _ _ _ h => h) hs3r ?_ ?_; rotate_left; (focus (intro wq hSw; have hrd : ∀ b o, b < wr.heap.size → wq.cell? ⟨b, o, none⟩ = wr.cell? ⟨b, o, none⟩ := (fun b o h => hSw.cell (p := ⟨b, o, none⟩) h); go_simp; try with_reducible rfl; done)); try simp only [Act.put, List.setIfInBounds_toArray, List.set_cons_zero, List.set_cons_succ])
      (refine held_takeA 8 (by rfl) ?_ (by kernel_rfl) (fun _ _ _ h => h) hs3r ?_ ?_; rotate_left; (focus (intro wq hSw; have hrd : ∀ b o, b < wr.heap.size → wq.cell? ⟨b, o, none⟩ = wr.cell? ⟨b, o, none⟩ := (fun b o h => hSw.cell (p := ⟨b, o, none⟩) h); go_simp; try with_reducible rfl; done)); try simp only [Act.put, List.setIfInBounds_toArray, List.set_cons_zero, List.set_cons_succ])
      (refine held_takeA 9 (by rfl) ?_ (by kernel_rfl) (fun _ _ _ h => h) hs3r ?_ ?_; rotate_left; (focus (intro wq hSw; have hrd : ∀ b o, b < wr.heap.size → wq.cell? ⟨b, o, none⟩ = wr.cell? ⟨b, o, none⟩ := (fun b o h => hSw.cell (p := ⟨b, o, none⟩) h); go_simp; try with_reducible rfl; done)); try simp only [Act.put, List.setIfInBounds_toArray, List.set_cons_zero, List.set_cons_succ])
      (refine held_takeA 10 (by rfl) ?_ (by kernel_rfl) (fun _ _ _ h => h) hs3r ?_ ?_; rotate_left; (focus (intro wq hSw; have hrd : ∀ b o, b < wr.heap.size → wq.cell? ⟨b, o, none⟩ = wr.cell? ⟨b, o, none⟩ := (fun b o h => hSw.cell (p := ⟨b, o, none⟩) h); go_simp; try with_reducible rfl; done)); try simp only [Act.put, List.setIfInBounds_toArray, List.set_cons_zero, List.set_cons_succ])
      refine wpAnyH_done (by kernel_rfl) ?_ _
      try refine NoPanic.normal ?_
      go_wp2_with fail
      exact ⟨⟨k + 1, by omega, by go_num, e.out, hq.drew, hq'.drew, hb1.drew⟩, by simp [intOf]; omega⟩
    · have bt : (nAt zs k != nAt ys k) = true := by rw [bne_iff_ne]; exact he
      have e := Lib.hid (ints_no (by rw [hl.out]; exact hlt) (by rw [hl'.out]; exact hlt) he)
      replace he := Lib.hid he
      go_wp2_with fail
      -- region 6: 0 1 2 3 4 5 6 7 8 9 10
      try refine wp_region_noPanic ?_
      have hs4r : Below wr.heap.size wr wr.drew := (Below.refl _ _).drew
      refine wp_region_held_drew (S := fun w' => Below wr.heap.size wr w') (by kernel_rfl) hs4r (fun _ => ?_)
      (refine held_takeA 0 (by rfl) ?_ (by kernel_rfl) (fun _ _ _ h => h) hs4r ?_ ?_; rotate_left; (focus (intro wq hSw; have hrd : ∀ b o, b < wr.heap.size → wq.cell? ⟨b, o, none⟩ = wr.cell? ⟨b, o, none⟩ := (fun b o h => hSw.cell (p := ⟨b, o, none⟩) h); go_simp; try with_reducible rfl; done)); try simp only [Act.put, List.setIfInBounds_toArray, List.set_cons_zero, List.set_cons_succ])
      (refine held_takeA 1 (by rfl) ?_ (by kernel_rfl) (fun _ _ _ h => h) hs4r ?_ ?_; rotate_left; (focus (intro wq hSw; have hrd : ∀ b o, b < wr.heap.size → wq.cell? ⟨b, o, none⟩ = wr.cell? ⟨b, o, none⟩ := (fun b o h => hSw.cell (p := ⟨b, o, none⟩) h); go_simp; try with_reducible rfl; done)); try simp only [Act.put, List.setIfInBounds_toArray, List.set_cons_zero, List.set_cons_succ])
      (refine held_takeA 2 (by rfl) ?_ (by kernel_rfl) (fun _ _ _ h => h) hs4r ?_ ?_; rotate_left; (focus (intro wq hSw; have hrd : ∀ b o, b < wr.heap.size → wq.cell? ⟨b, o, none⟩ = wr.cell? ⟨b, o, none⟩ := (fun b o h => hSw.cell (p := ⟨b, o, none⟩) h); go_simp; try with_reducible rfl; done)); try simp only [Act.put, List.setIfInBounds_toArray, List.set_cons_zero, List.set_cons_succ])
      (refine held_takeA 3 (by rfl) ?_ (by kernel_rfl) (fun _ _ _ h => h) hs4r ?_ ?_; rotate_left; (focus (intro wq hSw; have hrd : ∀ b o, b < wr.heap.size → wq.cell? ⟨b, o, none⟩ = wr.cell? ⟨b, o, none⟩ := (fun b o h => hSw.cell (p := ⟨b, o, none⟩) h); go_simp; try with_reducible rfl; done)); try simp only [Act.put, List.setIfInBounds_toArray, List.set_cons_zero, List.set_cons_succ])
      (refine held_takeA 4 (by rfl) ?_ (by kernel_rfl) (fun _ _ _ h => h) hs4r ?_ ?_; rotate_left; (focus (intro wq hSw; have hrd : ∀ b o, b < wr.heap.size → wq.cell? ⟨b, o, none⟩ = wr.cell? ⟨b, o, none⟩ := (fun b o h => hSw.cell (p := ⟨b, o, none⟩) h); go_simp; try with_reducible rfl; done)); try simp only [Act.put, List.setIfInBounds_toArray, List.set_cons_zero, List.set_cons_succ])
      (refine held_takeA 5 (by rfl) ?_ (by kernel_rfl) (fun _ _ _ h => h) hs4r ?_ ?_; rotate_left; (focus (intro wq hSw; have hrd : ∀ b o, b < wr.heap.size → wq.cell? ⟨b, o, none⟩ = wr.cell? ⟨b, o, none⟩ := (fun b o h => hSw.cell (p := ⟨b, o, none⟩) h); go_simp; try with_reducible rfl; done)); try simp only [Act.put, List.setIfInBounds_toArray, List.set_cons_zero, List.set_cons_succ])
      (refine held_takeA 6 (by rfl) ?_ (by kernel_rfl) (fun _ _ _ h => h) hs4r ?_ ?_; rotate_left; (focus (intro wq hSw; have hrd : ∀ b o, b < wr.heap.size → wq.cell? ⟨b, o, none⟩ = wr.cell? ⟨b, o, none⟩ := (fun b o h => hSw.cell (p := ⟨b, o, none⟩) h); go_simp; try with_reducible rfl; done)); try simp only [Act.put, List.setIfInBounds_toArray, List.set_cons_zero, List.set_cons_succ])
      (refine held_takeA 7 (by rfl) ?_ (by kernel_rfl) (fun _ _ _ h => h) hs4r ?_ ?_; rotate_left; (focus (intro wq hSw; have hrd : ∀ b o, b < wr.heap.size → wq.cell? ⟨b, o, none⟩ = wr.cell? ⟨b, o, none⟩ := (fun b o h => hSw.cell (p := ⟨b, o, none⟩) h); go_simp; try with_reducible rfl; done)); try simp only [Act.put, List.setIfInBounds_toArray, List.set_cons_zero, List.set_cons_succ])
      (refine held_takeA 8 (by rfl) ?_ (by kernel_rfl) (fun _ _ _ h => h) hs4r ?_ ?_; rotate_left; (focus (intro wq hSw; have hrd : ∀ b o, b < wr.heap.size → wq.cell? ⟨b, o, none⟩ = wr.cell? ⟨b, o, none⟩ := (fun b o h => hSw.cell (p := ⟨b, o, none⟩) h); go_simp; try with_reducible rfl; done)); try simp only [Act.put, List.setIfInBounds_toArray, List.set_cons_zero, List.set_cons_succ])
      (refine held_takeA 9 (by rfl) ?_ (by kernel_rfl) (fun _ _ _ h => h) hs4r ?_ ?_; rotate_left; (focus (intro wq hSw; have hrd : ∀ b o, b < wr.heap.size → wq.cell? ⟨b, o, none⟩ = wr.cell? ⟨b, o, none⟩ := (fun b o h => hSw.cell (p := ⟨b, o, none⟩) h); go_simp; try with_reducible rfl; done)); try simp only [Act.put, List.setIfInBounds_toArray, List.set_cons_zero, List.set_cons_succ])
      (refine held_takeA 10 (by rfl) ?_ (by kernel_rfl) (fun _ _ _ h => h) hs4r ?_ ?_; rotate_left; (focus (intro wq hSw; have hrd : ∀ b o, b < wr.heap.size → wq.cell? ⟨b, o, none⟩ = wr.cell? ⟨b, o, none⟩ := (fun b o h => hSw.cell (p := ⟨b, o, none⟩) h); go_simp; try with_reducible rfl; done)); try simp only [Act.put, List.setIfInBounds_toArray, List.set_cons_zero, List.set_cons_succ])
      refine wpAnyH_done (by kernel_rfl) ?_ _
      try refine NoPanic.normal ?_
      go_wp2_with fail
      go_ret
      exact ⟨ret_bool (by rw [hfin.out, e.out]), hB.drew⟩
  · obtain rfl : k = n := by omega
    have e : intsEq zs ys = true := by
      have := hkey.out
      rw [List.take_of_length_le (by rw [hl.out]; omega), List.take_of_length_le (by rw [hl'.out]; omega)] at this
      exact this
    replace e := Lib.hid e
    go_wp2_with fail
    go_ret
    exact ⟨ret_bool (by rw [hfin.out, e.out]), hB⟩
end Go.Proofs.Ytfnclmacodchfaa
