import Derived.Test.YtgdeecmhhbdjgaaGreatMVipActs20
import Derived.Test.YtgdeecmhhbdjgaaGreatMVipActs22
import Derived.Test.YtgdeecmhhbdjgaaGreatMVipActs5
import Derived.Test.YtgdeecmhhbdjgaaGreatMVipActs2
/- vip: the document's table of flows: find, out. -/
namespace Go.Proofs.YtgdeecmhhbdjgaaGreat
set_option linter.unusedVariables false
open Go Go.RowKit Go.Maps

def findE (E : List EnV) (f : Flo) : Int := match E.findIdx? (isF f) with
  | some k => (k : Int)
  | none => -1
theorem findE_some {E : List EnV} {f : Flo} {k : Nat} {x : EnV} (hk : E[k]? = some x) (he : x.fl = f) (hn : ∀ j y, j < k → E[j]? = some y → y.fl ≠ f) : E.findIdx? (isF f) = some k := by
  have hl := (List.getElem?_eq_some_iff.1 hk).1
  rw [List.findIdx?_eq_some_iff_getElem]
  refine ⟨hl, ?_, fun j hj => ?_⟩
  · rw [(List.getElem?_eq_some_iff.1 hk).2]
    exact isF_yes he
  · have := hn j _ hj (List.getElem?_eq_getElem (by omega))
    simp [isF_no this]
theorem findE_none {E : List EnV} {f : Flo} (hn : ∀ y ∈ E, y.fl ≠ f) : E.findIdx? (isF f) = none := by
  rw [List.findIdx?_eq_none_iff]
  intro y hy
  simp [isF_no (hn y hy)]
theorem elem_en : Tryz.prog.underlying 189 = some (.slice (Tryz.prog.elem 189)) := by kernel_rfl
theorem size_en (w : World) : (sizeOf (Tryz.prog.elem 189)).run Tryz.prog w = .ok enK.size w := by kernel_rfl
theorem en_lit (w : World) : Rows enK (w.alloc (.cells #[] 89)) w.heap.size w.heap.size 89 (.slice (some ⟨w.heap.size, 0, none⟩) 0 0) [] :=
  ⟨by have := Own1.lit (base := w.heap.size) (et := 89) (size := 7) w #[] 0 (Nat.le_refl _) (Nat.zero_le _) rfl; exact this, by simp⟩
theorem en_td {α : Type} (l : List α) (k : Nat) : l.take k ++ l.drop (k + 1) = l.eraseIdx k := by
  rw [List.eraseIdx_eq_take_drop_succ]
set_option maxRecDepth 100000 in
set_option maxHeartbeats 8000000 in
theorem rfFind (w : World) (X : Nat → Prop) (d : Nat) (ro idl now : Int) (N : Nat) (E : List EnV) (f : Flo) (h : RefF w X d ro idl now N E) (hn : E.length ≤ 1000000) :
    Calls Tryz.prog 121 #[.pointer (some ⟨d, 0, none⟩), .agg #[.int .i64 f.pr, .int .u32 f.src, .int .u32 f.dst, .int .i64 f.sp, .int .i64 f.dp]] w fun e w' => e = .returned (.int .i64 (findE E f)) ∧ Below w.heap.size w w' := by
  have hB := (Below.refl w.heap.size w).alloc (Nat.le_refl _) (.cells #[.int .i64 f.pr, .int .u32 f.src, .int .u32 f.dst, .int .i64 f.sp, .int .i64 f.dp] 84)
  have hf := Blk.new w 84 #[.int .i64 f.pr, .int .u32 f.src, .int .u32 f.dst, .int .i64 f.sp, .int .i64 f.dp]
  have h1 := h.nx hB
  obtain ⟨A, n, c, ca, we, hnc, hcm, hca, hwe, hq, hS⟩ := h1
  have hl := Lib.hid hS.1
  replace hn : n ≤ 1000000 := by have := hS.1; omega
  go_enter Tryz.func121, Tryz.ntmps121
  go_upto_region 1 with (fail)
  generalize w.alloc (.cells #[.int .i64 f.pr, .int .u32 f.src, .int .u32 f.dst, .int .i64 f.sp, .int .i64 f.dp] 84) = w1 at *
  have c3 : w1.cell? ⟨d, 3, none⟩ = some (.slice A n c) := hq.cellv 3 rfl
  have ltd := hq.lt
  go_upto_region 2 with (fail)
  clear c3 ltd
  go_loopw [5, 6, 12] (fun _ _ i wr => ∃ k : Nat, k ≤ n ∧ i = .int .i64 (k : Int) ∧ (∀ j y, j < k → E[j]? = some y → y.fl ≠ f) ∧ Below w1.heap.size w1 wr) (fun _ _ i _ => n - (intOf i).toNat)
  case atStart => exact ⟨0, Nat.zero_le _, rfl, fun j y hj => absurd hj (by omega), Below.refl _ _⟩
  case round =>
  obtain ⟨k, hk, rfl, hno, hD⟩ := hrel
  have hz := hD.size
  replace hno := Lib.hid hno
  by_cases hlt : k < n
  · obtain ⟨bb, off, x, rfl, hb1, hxk, e0, e1, e2, e3, e4, e5, e6⟩ := en_cells9 (hS.below hD fun _ q => q.2) hlt
    have ltb : bb < wr.heap.size := Nat.lt_of_lt_of_le hb1.2 hz
    have hki : (k : Int) < n := by omega
    have hb2 := (Below.refl wr.heap.size wr).alloc (Nat.le_refl _) (.cells #[.int .i64 x.fl.pr, .int .u32 x.fl.src, .int .u32 x.fl.dst, .int .i64 x.fl.sp, .int .i64 x.fl.dp, .int .i64 x.be, .int .i64 x.la] 89)
    have hq2 := Blk.new wr 89 #[.int .i64 x.fl.pr, .int .u32 x.fl.src, .int .u32 x.fl.dst, .int .i64 x.fl.sp, .int .i64 x.fl.dp, .int .i64 x.be, .int .i64 x.la]
    have hf2 := (hf.below hD hf.lt).below hb2 (hf.below hD hf.lt).lt
    have hD2 := hD.alloc hz (.cells #[.int .i64 x.fl.pr, .int .u32 x.fl.src, .int .u32 x.fl.dst, .int .i64 x.fl.sp, .int .i64 x.fl.dp, .int .i64 x.be, .int .i64 x.la] 89)
    go_upto_region 4 with (fail)
    clear e0 e1 e2 e3 e4 e5 e6 ltb
    generalize wr.alloc (.cells #[.int .i64 x.fl.pr, .int .u32 x.fl.src, .int .u32 x.fl.dst, .int .i64 x.fl.sp, .int .i64 x.fl.dp, .int .i64 x.be, .int .i64 x.la] 89) = w2 at *
    have e0 : w2.cell? ⟨wr.heap.size, 0, none⟩ = some (.int .i64 x.fl.pr) := hq2.cellv 0 rfl
    have y0 : w2.cell? ⟨w.heap.size, 0, none⟩ = some (.int .i64 f.pr) := hf2.cellv 0 rfl
    have e1 : w2.cell? ⟨wr.heap.size, 1, none⟩ = some (.int .u32 x.fl.src) := hq2.cellv 1 rfl
    have y1 : w2.cell? ⟨w.heap.size, 1, none⟩ = some (.int .u32 f.src) := hf2.cellv 1 rfl
    have e2 : w2.cell? ⟨wr.heap.size, 2, none⟩ = some (.int .u32 x.fl.dst) := hq2.cellv 2 rfl
    have y2 : w2.cell? ⟨w.heap.size, 2, none⟩ = some (.int .u32 f.dst) := hf2.cellv 2 rfl
    have e3 : w2.cell? ⟨wr.heap.size, 3, none⟩ = some (.int .i64 x.fl.sp) := hq2.cellv 3 rfl
    have y3 : w2.cell? ⟨w.heap.size, 3, none⟩ = some (.int .i64 f.sp) := hf2.cellv 3 rfl
    have e4 : w2.cell? ⟨wr.heap.size, 4, none⟩ = some (.int .i64 x.fl.dp) := hq2.cellv 4 rfl
    have y4 : w2.cell? ⟨w.heap.size, 4, none⟩ = some (.int .i64 f.dp) := hf2.cellv 4 rfl
    have lt2 := hq2.lt
    have ltf := hf2.lt
    by_cases he : x.fl = f
    · have hr : findE E f = (k : Int) := by unfold findE; rw [findE_some hxk he hno.out]
      replace hr := Lib.hid hr
      replace hxk := Lib.hid hxk
      subst he
      go_wp2_with fail
      go_ret
      exact ⟨by rw [hr.out]; rfl, hB.trans (hD2.mono hB.size)⟩
    · have d1 : ¬ (x.fl.pr = f.pr ∧ x.fl.src = f.src ∧ x.fl.dst = f.dst ∧ x.fl.sp = f.sp ∧ x.fl.dp = f.dp) := fun q => he (by cases hx : x.fl; cases f; rw [hx] at q; simp at q ⊢; exact q)
      replace he := Lib.hid he
      replace hxk := Lib.hid hxk
      go_upto_region 12 with (fail)
      refine ⟨⟨k + 1, hlt, by push_cast; rfl, fun j y hj hy => ?_, hD2⟩, by simp only [intOf]; omega⟩
      rcases Nat.lt_or_ge j k with hjk | hjk
      · exact hno.out j y hjk hy
      · have : j = k := by omega
        subst this
        have e := hxk.out
        rw [e] at hy; injection hy with hy; subst hy
        exact he.out
  · have hkn : k = n := by omega
    subst hkn
    have hr : findE E f = -1 := by
      unfold findE
      rw [findE_none fun y hy => ?_]
      obtain ⟨j, hj, rfl⟩ := List.getElem_of_mem hy
      exact hno.out j _ (by have := hl.out; omega) (List.getElem?_eq_getElem hj)
    replace hr := Lib.hid hr
    go_wp2_with fail
    go_ret
    exact ⟨by rw [hr.out]; rfl, hB.trans (hD.mono hB.size)⟩
end Go.Proofs.YtgdeecmhhbdjgaaGreat

/- vip: the document's table of flows: out, time, Put. -/
namespace Go.Proofs.YtgdeecmhhbdjgaaGreat
set_option linter.unusedVariables false
open Go Go.RowKit Go.Maps

set_option maxRecDepth 100000 in
set_option maxHeartbeats 8000000 in
theorem rfOut (w : World) (X : Nat → Prop) (d : Nat) (ro idl now : Int) (N : Nat) (E : List EnV) (h : RefF w X d ro idl now N E) (k : Nat) (hk : k < E.length) (hn : E.length ≤ 1000000) (hX : ∀ b, w.heap.size ≤ b → X b) :
    Calls Tryz.prog 122 #[.pointer (some ⟨d, 0, none⟩), .int .i64 (k : Int)] w fun e w' => e = .returned (.tuple #[]) ∧ RefF w' X d ro idl now N (E.eraseIdx k) ∧ Chg w w' (fun b => b = d) := by
  obtain ⟨A, n, c, ca, we, hnc, hcm, hca, hwe, hq, hS⟩ := h
  have hln := hS.1
  have c3 : w.cell? ⟨d, 3, none⟩ = some (.slice A n c) := hq.cellv 3 rfl
  have ltd := hq.lt
  have hn9 : n ≤ 1000000 := by omega
  obtain ⟨A1, hs1, hr1⟩ := row_take elem_en size_en A n c k (by omega) hnc
  obtain ⟨A2, hs2, hr2⟩ := row_drop elem_en size_en A n c (k + 1) (by omega) hnc
  rw [show ((k + 1 : Nat) : Int) = (k : Int) + 1 by omega] at hs2
  have hS1 := hr1 _ _ _ hS
  have hS2 := hr2 _ _ _ hS
  clear hr1 hr2
  have hki : (k : Int) < n := by omega
  have kw : IntKind.i64.wrap ((k : Int) + 1) = (k : Int) + 1 := IntWalk.i64_in _ (by omega)
  replace hln := Lib.hid hln
  go_enter Tryz.func122, Tryz.ntmps122
  try refine wp_region_noPanic ?_
  have hs1r : (fun w' => Below w.heap.size w w') w.drew := (Below.refl _ _).drew
  refine wp_region_E 19 (S := fun w' => Below w.heap.size w w') (by kernel_rfl) hs1r (fun _ => ?_)
  (refine e_takeA 0 (by rfl) ?_ (by kernel_rfl) (fun _ _ _ h => h) hs1r ?_ ?_; rotate_left; (focus (intro wq hSw; have hrd := hSw; have hrd2 := zR hSw; go_simp; try with_reducible rfl; done)); try simp only [Act.put, zA, zB, zC])
  (refine e_takeA 2 (by rfl) ?_ (by kernel_rfl) (fun _ _ _ h => h) hs1r ?_ ?_; rotate_left; (focus (intro wq hSw; have hrd := hSw; have hrd2 := zR hSw; go_simp; try with_reducible rfl; done)); try simp only [Act.put, zA, zB, zC])
  (refine e_takeA 3 (by rfl) ?_ (by kernel_rfl) (fun _ _ _ h => h) hs1r ?_ ?_; rotate_left; (focus (intro wq hSw; have hrd := hSw; have hrd2 := zR hSw; go_simp; try with_reducible rfl; done)); try simp only [Act.put, zA, zB, zC])
  (refine e_takeA 4 (by rfl) ?_ (by kernel_rfl) (fun _ _ _ h => h) hs1r ?_ ?_; rotate_left; (focus (intro wq hSw; have hrd := hSw; have hrd2 := zR hSw; go_simp; try with_reducible rfl; done)); try simp only [Act.put, zA, zB, zC])
  (refine e_takeA 5 (by rfl) ?_ (by kernel_rfl) (fun _ _ _ h => h) hs1r ?_ ?_; rotate_left; (focus (intro wq hSw; have hrd := hSw; have hrd2 := zR hSw; go_simp; try with_reducible rfl; done)); try simp only [Act.put, zA, zB, zC])
  (refine e_takeA 6 (by rfl) ?_ (by kernel_rfl) (fun _ _ _ h => h) hs1r ?_ ?_; rotate_left; (focus (intro wq hSw; have hrd := hSw; have hrd2 := zR hSw; go_simp; try with_reducible rfl; done)); try simp only [Act.put, zA, zB, zC])
  (refine e_takeA 7 (by rfl) ?_ (by kernel_rfl) (fun _ _ _ h => h) hs1r ?_ ?_; rotate_left; (focus (intro wq hSw; have hrd := hSw; have hrd2 := zR hSw; go_simp; try with_reducible rfl; done)); try simp only [Act.put, zA, zB, zC])
  (refine e_takeA 9 (by rfl) ?_ (by kernel_rfl) (fun _ _ _ h => h) hs1r ?_ ?_; rotate_left; (focus (intro wq hSw; have hrd := hSw; have hrd2 := zR hSw; go_simp; try with_reducible rfl; done)); try simp only [Act.put, zA, zB, zC])
  (refine e_takeA 10 (by rfl) ?_ (by kernel_rfl) (fun _ _ _ h => h) hs1r ?_ ?_; rotate_left; (focus (intro wq hSw; have hrd := hSw; have hrd2 := zR hSw; go_simp; try with_reducible rfl; done)); try simp only [Act.put, zA, zB, zC])
  (refine e_takeA 11 (by rfl) ?_ (by kernel_rfl) (fun _ _ _ h => h) hs1r ?_ ?_; rotate_left; (focus (intro wq hSw; have hrd := hSw; have hrd2 := zR hSw; go_simp; try with_reducible rfl; done)); try simp only [Act.put, zA, zB, zC])
  (refine e_takeA 12 (by rfl) ?_ (by kernel_rfl) (fun _ _ _ h => h) hs1r ?_ ?_; rotate_left; (focus (intro wq hSw; have hrd := hSw; have hrd2 := zR hSw; go_simp; try with_reducible rfl; done)); try simp only [Act.put, zA, zB, zC])
  (refine e_takeA 13 (by rfl) ?_ (by kernel_rfl) (fun _ _ _ h => h) hs1r ?_ ?_; rotate_left; (focus (intro wq hSw; have hrd := hSw; have hrd2 := zR hSw; go_simp; try with_reducible rfl; done)); try simp only [Act.put, zA, zB, zC])
  (refine e_takeA 14 (by rfl) ?_ (by kernel_rfl) (fun _ _ _ h => h) hs1r ?_ ?_; rotate_left; (focus (intro wq hSw; have hrd := hSw; have hrd2 := zR hSw; go_simp; try with_reducible rfl; done)); try simp only [Act.put, zA, zB, zC])
  (refine e_takeA 15 (by rfl) ?_ (by kernel_rfl) (fun _ _ _ h => h) hs1r ?_ ?_; rotate_left; (focus (intro wq hSw; have hrd := hSw; have hrd2 := zR hSw; go_simp; try with_reducible rfl; done)); try simp only [Act.put, zA, zB, zC])
  refine e_callA 1 (by rfl) (by kernel_rfl) (by rfl) (fun KQ hKQ => ?_)
  go_simp
  have hb1 := (Below.refl w.heap.size w).drew.alloc (Nat.le_refl _) (.cells #[] 89)
  have hr0 : Rows enK (w.drew.alloc (.cells #[] 89)) w.heap.size w.heap.size 89 (.slice (some ⟨w.heap.size, 0, none⟩) 0 0) [] := en_lit w.drew
  have hS3 := hS1.below hb1 fun b q => q.2
  have hd : (w.alloc (.cells #[] 89)).drew = w.drew.alloc (.cells #[] 89) := rfl
  try rw [hd]
  have hzz := hb1.size
  generalize w.drew.alloc (.cells #[] 89) = w3 at *
  clear hd
  have hs2r := hb1
  refine hKQ.out _ _ hs2r ?_
  clear hKQ KQ
  try simp only [Act.put, zA, zB, zC]
  refine e_callA 8 (by rfl) (by kernel_rfl) (by rfl) (fun KQ hKQ => ?_)
  refine wp_rows en_ok29 (.tmp 5) (.tmp 11) (by rfl) hr0 (by rfl) (by rfl) hS3 (fun _ _ => trivial) (by unfold maxLen; simp; omega) (by simp; omega) hzz ?_
  intro v4 w4 hv4 hg4
  rw [List.nil_append] at hv4
  have hb4 := hb1.trans (hr0.below_app hg4 hzz)
  have hs3r := hb4
  refine hKQ.out _ _ hs3r ?_
  clear hKQ KQ
  try simp only [Act.put, zA, zB, zC]
  have hS4 := hS2.below hb4 fun b q => q.2
  have hz4 := hb4.size
  have hl1 : (E.take k).length = k := by rw [List.length_take]; omega
  refine e_callA 16 (by rfl) (by kernel_rfl) (by rfl) (fun KQ hKQ => ?_)
  refine wp_rows en_ok29 (.tmp 12) (.tmp 19) (by rfl) hv4 (by rfl) (by rfl) hS4 (fun _ _ => trivial) (by unfold maxLen; omega) (by omega) hz4 ?_
  intro v5 w5 hv5 hg5
  rw [en_td] at hv5
  have hb5 := hb4.trans (hv4.below_app hg5 hz4)
  obtain ⟨A5, c5, e5, hc5, hcm5, hS5⟩ := hv5.seen (Nat.le_refl _)
  subst e5
  have hq5 := hq.below hb5 ltd
  have g5 := hq5.frozen 3
  have hz5 := hb5.size
  have ltg5 : d < w5.heap.size := Nat.lt_of_lt_of_le ltd hz5
  have c5' : w5.cell? ⟨d, 3, none⟩ = some (.slice A n c) := hq5.cellv 3 rfl
  have hs4r := hb5
  refine hKQ.out _ _ hs4r ?_
  clear hKQ KQ
  try simp only [Act.put, zA, zB, zC]
  (refine e_takeA 17 (by rfl) ?_ (by kernel_rfl) (fun _ _ _ h => h) hs4r ?_ ?_; rotate_left; (focus (intro wq hSw; have hrd := hSw; have hrd2 := zR hSw; go_simp; try with_reducible rfl; done)); try simp only [Act.put, zA, zB, zC])
  (refine e_takeA 18 (by rfl) ?_ (by kernel_rfl) (fun _ _ _ h => h) hs4r ?_ ?_; rotate_left; (focus (intro wq hSw; have hrd := hSw; have hrd2 := zR hSw; go_simp; try with_reducible rfl; done)); try simp only [Act.put, zA, zB, zC])
  refine e_last (by rfl) (by kernel_rfl) (by rfl) (fun KQ hKQ => ?_)
  go_simp
  obtain ⟨hq6, hg6⟩ := blk_store hq5 3 (.slice A5 (E.eraseIdx k).length c5)
  replace hq6 : Blk (w5.setCell ⟨d, 3, none⟩ (.slice A5 (E.eraseIdx k).length c5)) d 191 (rfC ro idl now A5 (E.eraseIdx k).length c5 ca we) := hq6
  have hS6 := hS5.grown hg6 fun b q => ⟨q.2, fun e => by injection e with e; omega⟩
  generalize w5.setCell ⟨d, 3, none⟩ (.slice A5 (E.eraseIdx k).length c5) = w6 at *
  refine hKQ.out _ _ ?_
  clear hKQ KQ
  try simp only [Act.put]
  refine e_done (by kernel_rfl) ?_ _
  try refine NoPanic.normal ?_
  go_end0
  exact ⟨rfl, ⟨A5, _, c5, ca, we, hc5, hcm5, hca, hwe, hq6, hS6.more fun b q => ⟨hX b q.1, Nat.lt_of_lt_of_le q.2 hg6.size⟩⟩, (Chg.of_below (X := fun b => b = d) hb5).trans (Chg.of_grown (X := fun b => b = d) hg6 rfl) fun _ _ q => q⟩
set_option maxRecDepth 100000 in
set_option maxHeartbeats 8000000 in
theorem rfTime (w : World) (X : Nat → Prop) (d : Nat) (ro idl now : Int) (N : Nat) (E : List EnV) (h : RefF w X d ro idl now N E) (t : Int) (ht : t ≤ now) : Calls Tryz.prog 120 #[.pointer (some ⟨d, 0, none⟩), .int .i64 t] w fun e w' => e = .returned (.int .i64 now) ∧ w' = w := by
  obtain ⟨A, n, c, ca, we, hnc, hcm, hca, hwe, hq, hS⟩ := h
  have c2 : w.cell? ⟨d, 2, none⟩ = some (.int .i64 now) := hq.cellv 2 rfl
  have lt := hq.lt
  have dl : decide (now < t) = false := by simpa using ht
  go_enter Tryz.func120, Tryz.ntmps120
  go_wp2_with fail
  go_ret
  exact ⟨rfl, rfl⟩
end Go.Proofs.YtgdeecmhhbdjgaaGreat

/- vip: the document's table of flows: Copy. -/
namespace Go.Proofs.YtgdeecmhhbdjgaaGreat
set_option linter.unusedVariables false
open Go Go.RowKit Go.Maps

set_option maxRecDepth 100000 in
set_option maxHeartbeats 16000000 in
theorem rfCopy (w : World) (X Z : Nat → Prop) (d : Nat) (ro idl now : Int) (N : Nat) (E : List EnV) (h : RefF w X d ro idl now N E) (hn : E.length ≤ 100000) (hZ : ∀ b, w.heap.size < b → Z b) :
    Calls Tryz.prog 135 #[.pointer (some ⟨d, 0, none⟩)] w fun e w' => e = .returned (.pointer (some ⟨w.heap.size, 0, none⟩)) ∧ RefF w' Z w.heap.size ro idl now N E ∧ Below w.heap.size w w' := by
  obtain ⟨A, n, c, ca, we, hnc, hcm, hca, hwe, hq, hS⟩ := h
  have hln := Lib.hid hS.1
  have hn9 : n ≤ 100000 := by have := hS.1; omega
  have ltd := hq.lt
  have c0 : w.cell? ⟨d, 0, none⟩ = some (.int .i64 ro) := hq.cellv 0 rfl
  have c1 : w.cell? ⟨d, 1, none⟩ = some (.int .i64 idl) := hq.cellv 1 rfl
  have c2 : w.cell? ⟨d, 2, none⟩ = some (.int .i64 now) := hq.cellv 2 rfl
  have c3 : w.cell? ⟨d, 3, none⟩ = some (.slice A n c) := hq.cellv 3 rfl
  have c4 : w.cell? ⟨d, 4, none⟩ = some (.int .i64 ca) := hq.cellv 4 rfl
  have c5 : w.cell? ⟨d, 5, none⟩ = some (.int .i64 we) := hq.cellv 5 rfl
  have hB := (Below.refl w.heap.size w).alloc (Nat.le_refl _) (.cells #[.int .i64 ro, .int .i64 idl, .int .i64 now, .slice A n c, .int .i64 ca, .int .i64 we] 191)
  have hqx := Blk.new w 191 #[.int .i64 ro, .int .i64 idl, .int .i64 now, .slice A n c, .int .i64 ca, .int .i64 we]
  have hq1 := hq.below hB ltd
  have hS1 := hS.below hB fun b q => q.2
  go_enter Tryz.func135, Tryz.ntmps135
  go_upto_region 2 with (fail)
  clear c0 c1 c2 c3 c4 c5
  generalize w.alloc (.cells #[.int .i64 ro, .int .i64 idl, .int .i64 now, .slice A n c, .int .i64 ca, .int .i64 we] 191) = w1 at *
  have c3 : w1.cell? ⟨d, 3, none⟩ = some (.slice A n c) := hq1.cellv 3 rfl
  have ltd1 := hq1.lt
  have ltx := hqx.lt
  have hb2 := (Below.refl w1.heap.size w1).alloc (Nat.le_refl _) (.cells #[] 89)
  have hrow : Rows enK (w1.alloc (.cells #[] 89)) w1.heap.size w1.heap.size 89 (.slice (some ⟨w1.heap.size, 0, none⟩) 0 0) [] := en_lit w1
  have hS2 := hS1.below (hb2.mono hB.size) fun b q => q.2
  have hqx2 := hqx.below hb2 ltx
  have hz2 := hb2.size
  have c3b : (w1.alloc (.cells #[] 89)).cell? ⟨d, 3, none⟩ = some (.slice A n c) := (hq1.below hb2 ltd1).cellv 3 rfl
  go_upto_region 3 with (at_builtin; refine wpList_rows en_ok29 rfl (.tmp 7) (.tmp 11) rfl hrow rfl rfl hS2 (fun _ _ => trivial) (by unfold maxLen; simp; omega) (by simp; omega) hz2 ?_; intro v6 w6 hrow6 hg6; rw [List.nil_append] at hrow6; obtain ⟨A9, c9, e9, hc9, hcm9, hS9⟩ := hrow6.seen (Nat.le_refl _); subst e9; have hb6 := hb2.trans (hrow.below_app hg6 hz2); have hq6 := hqx.below hb6 ltx; have f6 := hq6.frozen 3; have lt6 := hq6.lt; have c6 : w6.cell? ⟨w.heap.size, 3, none⟩ = some (.slice A n c) := hq6.cellv 3 rfl)
  obtain ⟨hq7, hg7⟩ := blk_store hq6 3 (.slice A9 E.length c9)
  replace hq7 : Blk (w6.setCell ⟨w.heap.size, 3, none⟩ (.slice A9 E.length c9)) w.heap.size 191 (rfC ro idl now A9 E.length c9 ca we) := hq7
  have hS7 := hS9.grown hg7 fun b q => ⟨q.2, fun e => by injection e with e; omega⟩
  have hB7 := (hB.trans (hb6.mono hB.size)).grown hg7 (Nat.le_trans hB.size hb6.size) (fun j e => by injection e with e; omega)
  go_wp2_with fail
  go_ret
  exact ⟨rfl, ⟨A9, _, c9, ca, we, hc9, hcm9, hca, hwe, hq7, hS7.more fun b q => ⟨hZ b (Nat.lt_of_lt_of_le ltx q.1), Nat.lt_of_lt_of_le q.2 hg7.size⟩⟩, hB7⟩
end Go.Proofs.YtgdeecmhhbdjgaaGreat
