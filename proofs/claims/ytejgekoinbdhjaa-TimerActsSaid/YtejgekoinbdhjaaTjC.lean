/- timer: the document's Tick. -/
import Derived.Test.YtejgekoinbdhjaaTjB
namespace Go.Proofs.Ytejgekoinbdhjaa
set_option linter.unusedVariables false
open Go Go.RowKit Go.Maps

theorem own_ne_own {w : World} {base base' size size' n n' : Nat} {et et' : TypeId} {v v' : Value} {xs xs' : List Value} (h : Own1 w base et size v n xs) (k : Own1 w base' et' size' v' n' xs') (hne : et ≠ et') : v.ownBlock = none ∨ v.ownBlock ≠ v'.ownBlock := by
  obtain ⟨_, h2 | ⟨r, cap, cur, q, _, hh, _⟩⟩ := h
  · exact .inl (by rw [h2.1]; rfl)
  · obtain ⟨_, k2 | ⟨r', cap', cur', q', _, hh', _⟩⟩ := k
    · refine .inr ?_
      rw [q, k2.1]
      exact fun e => by cases e
    · refine .inr ?_
      rw [q, q']
      intro e
      injection e with e
      have e : r = r' := e
      rw [e, hh'] at hh
      injection hh with hh
      injection hh with _ hh
      exact hne hh.symm
theorem rows_own {α : Type} {R : RK α} {w : World} {lo base : Nat} {et : TypeId} {v : Value} {l : List α} (h : Rows R w lo base et v l) (hok : ∀ a ∈ l, ∀ w S, R.ok w S a) : ∃ A cap, v = .slice A l.length cap ∧ l.length ≤ cap ∧ cap ≤ maxLen ∧ Seen R w (fun b => v.ownBlock = some b) A l.length l := by
  obtain ⟨A, cap, e, h1, h2, h3⟩ := h.1.any
  have hcm : cap ≤ maxLen := by
    rcases h.1.2 with ⟨q, _⟩ | ⟨g, cap', cur, q, _, _, _, hm, _⟩
    · rw [e] at q; injection q with _ _ q; rw [q]; exact Nat.zero_le _
    · rw [e] at q; injection q with _ _ q; rw [q]; exact hm
  refine ⟨A, cap, e, h1, hcm, rfl, fun a ha => hok a ha _ _, fun hn => ?_⟩
  obtain ⟨g, e2, _, hc⟩ := h3 hn
  refine ⟨g, 0, e2, by rw [e, e2]; rfl, fun j a hj i hi => ?_⟩
  have h5 := flat_get R l j i a hj hi
  have hlt := (List.getElem?_eq_some_iff.1 hj).1
  have : j * R.size + i < l.length * R.size := by
    have h6 : (j + 1) * R.size ≤ l.length * R.size := Nat.mul_le_mul_right _ hlt
    rw [Nat.succ_mul] at h6
    omega
  rw [Nat.zero_add, hc _ this, h5]
def isR (t : Int) (r : Int × Int) : Bool := decide (r.2 = t)
theorem isR_take {L : List (Int × Int)} {k : Nat} {r : Int × Int} {t : Int} (hr : L[k]? = some r) :
    (isR t r = true → ((L.take (k + 1)).filter (isR t)).map Prod.fst = ((L.take k).filter (isR t)).map Prod.fst ++ [r.1] ∧ (L.take (k + 1)).filter (fun x => !(isR t x)) = (L.take k).filter (fun x => !(isR t x))) ∧
    (isR t r = false → ((L.take (k + 1)).filter (isR t)).map Prod.fst = ((L.take k).filter (isR t)).map Prod.fst ∧ (L.take (k + 1)).filter (fun x => !(isR t x)) = (L.take k).filter (fun x => !(isR t x)) ++ [r]) := by
  rw [List.take_add_one, hr]
  refine ⟨fun h => ?_, fun h => ?_⟩ <;> simp [List.filter_append, h]
set_option maxRecDepth 100000 in
set_option maxHeartbeats 8000000 in
theorem refTick (w : World) (Y : Nat → Prop) (d : Nat) (mo no : Int) (L : List (Int × Int)) (h : RefT w Y d mo no L) (hn : L.length ≤ 100000) (h0 : 0 ≤ no) (hno : no < 1099511627776) (hid : ∀ r ∈ L, 0 ≤ r.1 ∧ r.1 < 1000000) :
    Calls Try.prog 145 #[.pointer (some ⟨d, 0, none⟩)] w fun e w' => ∃ lv Y', e = .returned lv ∧ Rows intK w' w.heap.size w.heap.size 3 lv ((L.filter (isR (no + 1))).map Prod.fst) ∧ RefT w' Y' d mo (no + 1) (L.filter fun r => !(isR (no + 1) r)) ∧ (∀ k, Y' k → Y k ∨ w.heap.size ≤ k) ∧ (∀ k, lv.ownBlock = some k → ¬ Y' k) ∧ Chg w w' (fun k => k = d) := by
  obtain ⟨v, h1, h2, h3, h4, h5⟩ := h
  obtain ⟨A, c, rfl, hnc, hcm, hS⟩ := rows_own h2 (fun _ _ _ _ => trivial)
  have hol := h2.1.lt
  have c1 : w.cell? ⟨d, 1, none⟩ = some (.int .i64 no) := h1.cellv 1 rfl
  have f1 := h1.frozen 1
  have ltd := h1.lt
  have hYd := h4 d (.inl rfl)
  have kw : IntKind.i64.wrap (no + 1) = no + 1 := IntWalk.i64_in _ (by omega)
  have d1 : decide (1099511627776 ≤ no) = false := by simp; omega
  obtain ⟨hq1, hg1⟩ := blk_store h1 1 (.int .i64 (no + 1))
  have hC1 : Chg w _ (fun k => k = d) := Chg.of_grown hg1 rfl
  have hS1 := hC1.seen hS (fun b q => ⟨(hol b q).2, fun e => h3 (e ▸ q)⟩)
  obtain ⟨n, hn2⟩ : ∃ n, n = L.length := ⟨_, rfl⟩
  rw [← hn2] at hS1 hn hq1 hnc hS h2 h3 h4 hol
  replace hn2 := Lib.hid hn2
  replace hq1 := Lib.hid hq1
  replace hC1 := Lib.hid hC1
  replace hS1 := Lib.hid hS1
  clear hg1
  go_enter Try.func145, Try.ntmps145
  go_upto_region 4 with (fail)
  replace hq1 := hq1.out
  replace hC1 := hC1.out
  have hS1 := (hS1.out).more (S' := fun b => b < w.heap.size ∧ b ≠ d) fun b q => ⟨(hol b q).2, fun e => h3 (e ▸ q)⟩
  clear c1 f1 hS h1
  generalize w.setCell ⟨d, 1, none⟩ (.int .i64 (no + 1)) = w1 at *
  have hz1 := hC1.size
  have c1 : w1.cell? ⟨d, 1, none⟩ = some (.int .i64 (no + 1)) := hq1.cellv 1 rfl
  have c2 : w1.cell? ⟨d, 2, none⟩ = some (.slice A n c) := hq1.cellv 2 rfl
  have ltd1 := hq1.lt
  go_wp2_with fail
  go_loopw [3, 4, 24] (fun lv rv i wr => ∃ k : Nat, k ≤ n ∧ i = .int .i64 (k : Int) ∧ Rows intK wr w1.heap.size w1.heap.size 3 lv (((L.take k).filter (isR (no + 1))).map Prod.fst) ∧ Rows rwK wr w1.heap.size w1.heap.size 243 rv ((L.take k).filter fun r => !(isR (no + 1) r)) ∧ Below w1.heap.size w1 wr) (fun _ _ i _ => n - (intOf i).toNat)
  case atStart => exact ⟨0, Nat.zero_le _, rfl, Rows.nil _ _ _ _, Rows.nil _ _ _ _, Below.refl _ _⟩
  case round =>
  generalize wr = wo at *
  obtain ⟨k, hk, rfl, hl, hr, hB⟩ := hrel
  have hz := hB.size
  have hqo := hq1.below hB ltd1
  by_cases hlt : k < n
  rotate_left
  · obtain rfl : k = n := by omega
    rw [List.take_of_length_le (by have := hn2.out; omega)] at hl hr
    obtain ⟨A8, c8, e8, -⟩ := hr.1.any
    have hdr := own_ne_blk hr.1 hqo (by decide)
    have hlr := own_ne_own hl.1 hr.1 (by decide)
    have hdl := own_ne_blk hl.1 hqo (by decide)
    have f2 := hqo.frozen 2
    have c2' : wo.cell? ⟨d, 2, none⟩ = some (.slice A k c) := hqo.cellv 2 rfl
    have ltdo := hqo.lt
    obtain ⟨ln, hln⟩ : ∃ ln, ln = (L.filter fun r => !(isR (no + 1) r)).length := ⟨_, rfl⟩
    rw [← hln] at e8
    subst e8
    replace hln := Lib.hid hln
    obtain ⟨hq2, hg2⟩ := blk_store hqo 2 (.slice A8 ln c8)
    have hC2 := Chg.of_grown (X := fun k => k = d) hg2 rfl
    have hl2 := row_chg hl hC2 (fun k e q => hdl (q ▸ e))
    have hr2 : Rows rwK _ 0 0 243 (.slice A8 ln c8) (L.filter fun r => !(isR (no + 1) r)) := (show Rows rwK _ w1.heap.size w1.heap.size 243 (.slice A8 ln c8) (L.filter fun r => !(isR (no + 1) r)) from ⟨hC2.own hr.1 (fun k e q => hdr (q ▸ e)), fun _ _ => trivial⟩).less (Nat.zero_le _) (Nat.zero_le _)
    have hCC := (hC1.trans (Chg.of_below (X := fun _ => False) hB) (fun _ _ q => q.elim)).trans hC2 (fun _ _ q => q)
    replace hq2 := Lib.hid hq2
    replace hl2 := Lib.hid hl2
    have hr2' := Lib.hid (show Rows rwK _ w1.heap.size w1.heap.size 243 (.slice A8 ln c8) (L.filter fun r => !(isR (no + 1) r)) from ⟨hC2.own hr.1 (fun k e q => hdr (q ▸ e)), fun _ _ => trivial⟩)
    replace hr2 := Lib.hid hr2
    replace hCC := Lib.hid hCC
    clear hg2 hC2
    go_wp2_with fail
    go_ret
    have hrl := (hr2'.out).1.lt
    have hlt9 := hl2.out.1.lt
    refine ⟨_, fun k => k = d ∨ (Value.slice A8 ln c8).ownBlock = some k, rfl, hl2.out.less hz1 hz1, ⟨_, hq2.out, hr2.out, hdr, fun _ q => q, ?_⟩, ?_, ?_, hCC.out⟩
    · rintro j (q | q)
      · subst q; exact hq2.out.lt
      · exact (hrl j q).2
    · rintro j (q | q)
      · subst q; exact .inl hYd
      · exact .inr (Nat.le_trans hz1 (hrl j q).1)
    · rintro j e (q | q)
      · subst q
        have := (hlt9 j e).1
        omega
      · rcases hlr with q2 | q2
        · cases q2.symm.trans e
        · exact q2 ((show _ = some j from e).trans q.symm)
  obtain ⟨b, off, x, y, hA, hb1, hxk, e0, e1⟩ := rw_cells (hS1.below hB (fun _ q => Nat.lt_of_lt_of_le q.1 hz1)) hlt
  have ltb : b < wo.heap.size := Nat.lt_of_lt_of_le hb1.1 (Nat.le_trans hz1 hz)
  have hki : (k : Int) < n := by omega
  have hB2 := hB.alloc hz (.cells #[.int .i64 x, .int .i64 y] 243)
  have hq2 := Blk.new wo 243 #[.int .i64 x, .int .i64 y]
  have hl2 := hl.alloc (.cells #[.int .i64 x, .int .i64 y] 243)
  have hr2 := hr.alloc (.cells #[.int .i64 x, .int .i64 y] 243)
  have hqd := hqo.alloc (.cells #[.int .i64 x, .int .i64 y] 243)
  have hxr := hid _ (List.mem_of_getElem? hxk)
  have htk := isR_take (t := no + 1) hxk
  have hll := List.length_filter_le (isR (no + 1)) (L.take k)
  have hlr := List.length_filter_le (fun r => !(isR (no + 1) r)) (L.take k)
  rw [List.length_take] at hll hlr
  have hln : n ≤ 100000 := hn
  have hzz := hB2.size
  subst hA
  replace hl2 := Lib.hid hl2
  replace hr2 := Lib.hid hr2
  replace htk := Lib.hid htk
  replace hll := Lib.hid (show (((L.take k).filter (isR (no + 1))).map Prod.fst).length ≤ 100000 by rw [List.length_map]; omega)
  replace hlr := Lib.hid (show ((L.take k).filter fun r => !(isR (no + 1) r)).length ≤ 100000 by omega)
  replace hxk := Lib.hid hxk
  clear hl hr
  go_upto_region 9 with (fail)
  clear e0 e1
  generalize wo.alloc (.cells #[.int .i64 x, .int .i64 y] 243) = w2 at *
  have p0 : w2.cell? ⟨wo.heap.size, 0, none⟩ = some (.int .i64 x) := hq2.cellv 0 rfl
  have p1 : w2.cell? ⟨wo.heap.size, 1, none⟩ = some (.int .i64 y) := hq2.cellv 1 rfl
  have q1 : w2.cell? ⟨d, 1, none⟩ = some (.int .i64 (no + 1)) := hqd.cellv 1 rfl
  have ltq := hqd.lt
  have ltp := hq2.lt
  by_cases hy : y = no + 1
  · have hyb : (y == no + 1) = true := by simpa using hy
    have hR9 := Lib.hid (htk.out.1 (by unfold isR; simpa using hy))
    replace hy := Lib.hid hy
    -- region 9: 0 1 2 3 4 5 6
    try refine wp_region_noPanic ?_
    have hs1r : Below w2.heap.size w2 w2.drew := (Below.refl _ _).drew
    refine wp_region_held_drew (S := fun w' => Below w2.heap.size w2 w') (by kernel_rfl) hs1r (fun _ => ?_)
    (refine held_takeA 0 (by rfl) ?_ (by kernel_rfl) (fun _ _ _ h => h) hs1r ?_ ?_; rotate_left; (focus (intro wq hSw; have hrd : ∀ b o, b < w2.heap.size → wq.cell? ⟨b, o, none⟩ = w2.cell? ⟨b, o, none⟩ := (fun b o h => hSw.cell (p := ⟨b, o, none⟩) h); go_simp; try with_reducible rfl; done)); try simp only [Act.put, List.setIfInBounds_toArray, List.set_cons_zero, List.set_cons_succ])
    (refine held_takeA 1 (by rfl) ?_ (by kernel_rfl) (fun _ _ _ h => h) hs1r ?_ ?_; rotate_left; (focus (intro wq hSw; have hrd : ∀ b o, b < w2.heap.size → wq.cell? ⟨b, o, none⟩ = w2.cell? ⟨b, o, none⟩ := (fun b o h => hSw.cell (p := ⟨b, o, none⟩) h); go_simp; try with_reducible rfl; done)); try simp only [Act.put, List.setIfInBounds_toArray, List.set_cons_zero, List.set_cons_succ])
    (refine held_takeA 2 (by rfl) ?_ (by kernel_rfl) (fun _ _ _ h => h) hs1r ?_ ?_; rotate_left; (focus (intro wq hSw; have hrd : ∀ b o, b < w2.heap.size → wq.cell? ⟨b, o, none⟩ = w2.cell? ⟨b, o, none⟩ := (fun b o h => hSw.cell (p := ⟨b, o, none⟩) h); go_simp; try with_reducible rfl; done)); try simp only [Act.put, List.setIfInBounds_toArray, List.set_cons_zero, List.set_cons_succ])
    (refine held_takeA 3 (by rfl) ?_ (by kernel_rfl) (fun _ _ _ h => h) hs1r ?_ ?_; rotate_left; (focus (intro wq hSw; have hrd : ∀ b o, b < w2.heap.size → wq.cell? ⟨b, o, none⟩ = w2.cell? ⟨b, o, none⟩ := (fun b o h => hSw.cell (p := ⟨b, o, none⟩) h); go_simp; try with_reducible rfl; done)); try simp only [Act.put, List.setIfInBounds_toArray, List.set_cons_zero, List.set_cons_succ])
    (refine held_takeA 4 (by rfl) ?_ (by kernel_rfl) (fun _ _ _ h => h) hs1r ?_ ?_; rotate_left; (focus (intro wq hSw; have hrd : ∀ b o, b < w2.heap.size → wq.cell? ⟨b, o, none⟩ = w2.cell? ⟨b, o, none⟩ := (fun b o h => hSw.cell (p := ⟨b, o, none⟩) h); go_simp; try with_reducible rfl; done)); try simp only [Act.put, List.setIfInBounds_toArray, List.set_cons_zero, List.set_cons_succ])
    (refine held_takeA 5 (by rfl) ?_ (by kernel_rfl) (fun _ _ _ h => h) hs1r ?_ ?_; rotate_left; (focus (intro wq hSw; have hrd : ∀ b o, b < w2.heap.size → wq.cell? ⟨b, o, none⟩ = w2.cell? ⟨b, o, none⟩ := (fun b o h => hSw.cell (p := ⟨b, o, none⟩) h); go_simp; try with_reducible rfl; done)); try simp only [Act.put, List.setIfInBounds_toArray, List.set_cons_zero, List.set_cons_succ])
    (refine held_takeA 6 (by rfl) ?_ (by kernel_rfl) (fun _ _ _ h => h) hs1r ?_ ?_; rotate_left; (focus (intro wq hSw; have hrd : ∀ b o, b < w2.heap.size → wq.cell? ⟨b, o, none⟩ = w2.cell? ⟨b, o, none⟩ := (fun b o h => hSw.cell (p := ⟨b, o, none⟩) h); go_simp; try with_reducible rfl; done)); try simp only [Act.put, List.setIfInBounds_toArray, List.set_cons_zero, List.set_cons_succ])
    refine wpAnyH_done (by kernel_rfl) ?_ _
    try refine NoPanic.normal ?_
    have p0d : w2.drew.cell? ⟨wo.heap.size, 0, none⟩ = some (.int .i64 x) := p0
    have ltpd : wo.heap.size < w2.drew.heap.size := ltp
    have hB3 := hB2.drew
    replace hl2 := hl2.out.drew
    replace hr2 := hr2.out.drew
    clear p0 p1 q1 ltq ltp hB2 hqd hq2
    generalize w2.drew = w3 at *
    have hz3 := hB3.size
    have hone : Seen intK (w3.alloc (.cells #[.int .i64 x] 3)) (fun _ => True) (some ⟨w3.heap.size, 0, none⟩) 1 [x] := seen_one (R := intK) (S := fun _ => False) (S' := fun _ => True) w3 3 x #[.int .i64 x] rfl (WalkArith.wf_i64 (by omega)) (fun _ h => h.elim) trivial (fun _ h => h.elim)
    have hokl : ∀ e ∈ [x], intK.ok (w3.alloc (.cells #[.int .i64 x] 3)) (fun b => w1.heap.size ≤ b ∧ b < (w3.alloc (.cells #[.int .i64 x] 3)).heap.size ∧ u3.ownBlock ≠ some b) e := fun e he => by
      rw [List.mem_singleton] at he
      subst he
      exact WalkArith.wf_i64 (by omega)
    have hl5 := hl2.alloc (.cells #[.int .i64 x] 3)
    have hr5 := hr2.alloc (.cells #[.int .i64 x] 3)
    have hB5 := hB3.alloc hz3 (.cells #[.int .i64 x] 3)
    have hz5 := hB5.size
    go_wp2_with (at_builtin; refine wpList_rows int_ok rfl (.tmp 35) (.tmp 38) rfl hl5 rfl rfl hone hokl (by unfold maxLen; have := hll.out; omega) (by have := hll.out; omega) hz5 ?_; intro v6 w6 hl6 hg6)
    have hn9 : u4.ownBlock = none ∨ u4.ownBlock ≠ u3.ownBlock := by
      rcases own_ne_own hr5.1 hl5.1 (by decide) with q | q
      · exact .inl q
      · exact .inr q
    have hr6 : Rows rwK w6 w1.heap.size w1.heap.size 243 u4 ((L.take k).filter fun r => !(isR (no + 1) r)) := ⟨hr5.1.kept hg6 hn9, fun _ _ => trivial⟩
    rw [← hR9.out.1] at hl6
    rw [← hR9.out.2] at hr6
    exact ⟨⟨k + 1, by omega, by go_num, hl6, hr6, hB5.trans (hl5.below_app hg6 hz5)⟩, by simp [intOf]; omega⟩
  · have hyb : (y == no + 1) = false := by simpa using hy
    have hR9 := Lib.hid (htk.out.2 (by unfold isR; simpa using hy))
    replace hy := Lib.hid hy
    -- region 9: 0 1 2 3 4 5 6
    try refine wp_region_noPanic ?_
    have hs2r : Below w2.heap.size w2 w2.drew := (Below.refl _ _).drew
    refine wp_region_held_drew (S := fun w' => Below w2.heap.size w2 w') (by kernel_rfl) hs2r (fun _ => ?_)
    (refine held_takeA 0 (by rfl) ?_ (by kernel_rfl) (fun _ _ _ h => h) hs2r ?_ ?_; rotate_left; (focus (intro wq hSw; have hrd : ∀ b o, b < w2.heap.size → wq.cell? ⟨b, o, none⟩ = w2.cell? ⟨b, o, none⟩ := (fun b o h => hSw.cell (p := ⟨b, o, none⟩) h); go_simp; try with_reducible rfl; done)); try simp only [Act.put, List.setIfInBounds_toArray, List.set_cons_zero, List.set_cons_succ])
    (refine held_takeA 1 (by rfl) ?_ (by kernel_rfl) (fun _ _ _ h => h) hs2r ?_ ?_; rotate_left; (focus (intro wq hSw; have hrd : ∀ b o, b < w2.heap.size → wq.cell? ⟨b, o, none⟩ = w2.cell? ⟨b, o, none⟩ := (fun b o h => hSw.cell (p := ⟨b, o, none⟩) h); go_simp; try with_reducible rfl; done)); try simp only [Act.put, List.setIfInBounds_toArray, List.set_cons_zero, List.set_cons_succ])
    (refine held_takeA 2 (by rfl) ?_ (by kernel_rfl) (fun _ _ _ h => h) hs2r ?_ ?_; rotate_left; (focus (intro wq hSw; have hrd : ∀ b o, b < w2.heap.size → wq.cell? ⟨b, o, none⟩ = w2.cell? ⟨b, o, none⟩ := (fun b o h => hSw.cell (p := ⟨b, o, none⟩) h); go_simp; try with_reducible rfl; done)); try simp only [Act.put, List.setIfInBounds_toArray, List.set_cons_zero, List.set_cons_succ])
    (refine held_takeA 3 (by rfl) ?_ (by kernel_rfl) (fun _ _ _ h => h) hs2r ?_ ?_; rotate_left; (focus (intro wq hSw; have hrd : ∀ b o, b < w2.heap.size → wq.cell? ⟨b, o, none⟩ = w2.cell? ⟨b, o, none⟩ := (fun b o h => hSw.cell (p := ⟨b, o, none⟩) h); go_simp; try with_reducible rfl; done)); try simp only [Act.put, List.setIfInBounds_toArray, List.set_cons_zero, List.set_cons_succ])
    (refine held_takeA 4 (by rfl) ?_ (by kernel_rfl) (fun _ _ _ h => h) hs2r ?_ ?_; rotate_left; (focus (intro wq hSw; have hrd : ∀ b o, b < w2.heap.size → wq.cell? ⟨b, o, none⟩ = w2.cell? ⟨b, o, none⟩ := (fun b o h => hSw.cell (p := ⟨b, o, none⟩) h); go_simp; try with_reducible rfl; done)); try simp only [Act.put, List.setIfInBounds_toArray, List.set_cons_zero, List.set_cons_succ])
    (refine held_takeA 5 (by rfl) ?_ (by kernel_rfl) (fun _ _ _ h => h) hs2r ?_ ?_; rotate_left; (focus (intro wq hSw; have hrd : ∀ b o, b < w2.heap.size → wq.cell? ⟨b, o, none⟩ = w2.cell? ⟨b, o, none⟩ := (fun b o h => hSw.cell (p := ⟨b, o, none⟩) h); go_simp; try with_reducible rfl; done)); try simp only [Act.put, List.setIfInBounds_toArray, List.set_cons_zero, List.set_cons_succ])
    (refine held_takeA 6 (by rfl) ?_ (by kernel_rfl) (fun _ _ _ h => h) hs2r ?_ ?_; rotate_left; (focus (intro wq hSw; have hrd : ∀ b o, b < w2.heap.size → wq.cell? ⟨b, o, none⟩ = w2.cell? ⟨b, o, none⟩ := (fun b o h => hSw.cell (p := ⟨b, o, none⟩) h); go_simp; try with_reducible rfl; done)); try simp only [Act.put, List.setIfInBounds_toArray, List.set_cons_zero, List.set_cons_succ])
    refine wpAnyH_done (by kernel_rfl) ?_ _
    try refine NoPanic.normal ?_
    have p0d : w2.drew.cell? ⟨wo.heap.size, 0, none⟩ = some (.int .i64 x) := p0
    have p1d : w2.drew.cell? ⟨wo.heap.size, 1, none⟩ = some (.int .i64 y) := p1
    have ltpd : wo.heap.size < w2.drew.heap.size := ltp
    have hB3 := hB2.drew
    replace hl2 := hl2.out.drew
    replace hr2 := hr2.out.drew
    clear p0 p1 q1 ltq ltp hB2 hqd hq2
    generalize w2.drew = w3 at *
    have hz3 := hB3.size
    have hone : Seen rwK (w3.alloc (.cells #[.int .i64 x, .int .i64 y] 243)) (fun _ => True) (some ⟨w3.heap.size, 0, none⟩) 1 [(x, y)] := seen_one (R := rwK) (S := fun _ => False) (S' := fun _ => True) w3 243 (x, y) #[.int .i64 x, .int .i64 y] rfl trivial (fun _ h => h.elim) trivial (fun _ h => h.elim)
    have hl5 := hl2.alloc (.cells #[.int .i64 x, .int .i64 y] 243)
    have hr5 := hr2.alloc (.cells #[.int .i64 x, .int .i64 y] 243)
    have hB5 := hB3.alloc hz3 (.cells #[.int .i64 x, .int .i64 y] 243)
    have hz5 := hB5.size
    go_wp2_with (at_builtin; refine wpList_rows rw_ok rfl (.tmp 40) (.tmp 42) rfl hr5 rfl rfl hone (fun _ _ => trivial) (by unfold maxLen; have := hlr.out; omega) (by have := hlr.out; omega) hz5 ?_; intro v6 w6 hr6 hg6)
    have hn9 : u3.ownBlock = none ∨ u3.ownBlock ≠ u4.ownBlock := by
      rcases own_ne_own hl5.1 hr5.1 (by decide) with q | q
      · exact .inl q
      · exact .inr q
    have hl6 : Rows intK w6 w1.heap.size w1.heap.size 3 u3 (((L.take k).filter (isR (no + 1))).map Prod.fst) := ⟨hl5.1.kept hg6 hn9, hl5.2⟩
    rw [← hR9.out.1] at hl6
    rw [← hR9.out.2] at hr6
    exact ⟨⟨k + 1, by omega, by go_num, hl6, hr6, hB5.trans (hr5.below_app hg6 hz5)⟩, by simp [intOf]; omega⟩
end Go.Proofs.Ytejgekoinbdhjaa
