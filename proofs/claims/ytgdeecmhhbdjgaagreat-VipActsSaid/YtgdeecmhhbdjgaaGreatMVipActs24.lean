import Derived.Test.YtgdeecmhhbdjgaaGreatMVipActs23
/- vip: the document's table of flows: Put. -/
namespace Go.Proofs.YtgdeecmhhbdjgaaGreat
set_option linter.unusedVariables false
open Go Go.RowKit Go.Maps

def cutE (ro : Int) (E : List EnV) (f : Flo) : List EnV := match E.findIdx? (isF f) with
  | some k => E.eraseIdx k
  | none => if ro ≤ E.length then E.eraseIdx 0 else E
def putE (ro : Int) (E : List EnV) (f : Flo) (b t : Int) : List EnV := cutE ro E f ++ [⟨f, b, t⟩]
set_option maxRecDepth 100000 in
set_option maxHeartbeats 16000000 in
theorem rfPut (w : World) (X : Nat → Prop) (d : Nat) (ro idl now : Int) (N : Nat) (E : List EnV) (h : RefF w X d ro idl now N E) (f : Flo) (b t : Int) (ht : t ≤ now) (hn : E.length ≤ 100000) (hN : N ≤ 100000) (hro : 1 ≤ ro) (hX : ∀ b, w.heap.size ≤ b → X b) (hXd : ¬ X d) :
    Calls Tryz.prog 40 #[.pointer (some ⟨d, 0, none⟩), .agg #[.int .i64 f.pr, .int .u32 f.src, .int .u32 f.dst, .int .i64 f.sp, .int .i64 f.dp], .int .i64 b, .int .i64 t] w fun e w' => (∃ y m, e = .returned (.tuple #[y, m])) ∧ RefF w' X d ro idl now (N + 1) (putE ro E f b now) ∧ Chg w w' (fun b => b = d) := by
  have hB := (((Below.refl w.heap.size w).alloc (Nat.le_refl _) (.cells #[.int .i64 f.pr, .int .u32 f.src, .int .u32 f.dst, .int .i64 f.sp, .int .i64 f.dp] 84)).alloc (by simp) (.cells #[.int .i64 0, .int .u32 0, .int .u32 0, .int .i64 0, .int .i64 0, .int .i64 0, .int .i64 0] 89)).alloc (by simp; omega) (.cells #[.int .i64 0, .int .u32 0, .int .u32 0, .int .i64 0, .int .i64 0, .int .i64 0, .int .i64 0] 89)
  have hf := ((Blk.new w 84 #[.int .i64 f.pr, .int .u32 f.src, .int .u32 f.dst, .int .i64 f.sp, .int .i64 f.dp]).alloc (.cells #[.int .i64 0, .int .u32 0, .int .u32 0, .int .i64 0, .int .i64 0, .int .i64 0, .int .i64 0] 89)).alloc (.cells #[.int .i64 0, .int .u32 0, .int .u32 0, .int .i64 0, .int .i64 0, .int .i64 0, .int .i64 0] 89)
  have h8 := (Blk.new (w.alloc (.cells #[.int .i64 f.pr, .int .u32 f.src, .int .u32 f.dst, .int .i64 f.sp, .int .i64 f.dp] 84)) 89 #[.int .i64 0, .int .u32 0, .int .u32 0, .int .i64 0, .int .i64 0, .int .i64 0, .int .i64 0]).alloc (.cells #[.int .i64 0, .int .u32 0, .int .u32 0, .int .i64 0, .int .i64 0, .int .i64 0, .int .i64 0] 89)
  have h10 := Blk.new ((w.alloc (.cells #[.int .i64 f.pr, .int .u32 f.src, .int .u32 f.dst, .int .i64 f.sp, .int .i64 f.dp] 84)).alloc (.cells #[.int .i64 0, .int .u32 0, .int .u32 0, .int .i64 0, .int .i64 0, .int .i64 0, .int .i64 0] 89)) 89 #[.int .i64 0, .int .u32 0, .int .u32 0, .int .i64 0, .int .i64 0, .int .i64 0, .int .i64 0]
  rw [show (w.alloc (.cells #[.int .i64 f.pr, .int .u32 f.src, .int .u32 f.dst, .int .i64 f.sp, .int .i64 f.dp] 84)).heap.size = w.heap.size + 1 by simp] at h8
  rw [show ((w.alloc (.cells #[.int .i64 f.pr, .int .u32 f.src, .int .u32 f.dst, .int .i64 f.sp, .int .i64 f.dp] 84)).alloc (.cells #[.int .i64 0, .int .u32 0, .int .u32 0, .int .i64 0, .int .i64 0, .int .i64 0, .int .i64 0] 89)).heap.size = w.heap.size + 1 + 1 by simp] at h10
  have hlt0 := h.lt
  have hA := h.nx (((Below.refl w.heap.size w).alloc (Nat.le_refl _) (.cells #[.int .i64 f.pr, .int .u32 f.src, .int .u32 f.dst, .int .i64 f.sp, .int .i64 f.dp] 84)).alloc (by simp) (.cells #[.int .i64 0, .int .u32 0, .int .u32 0, .int .i64 0, .int .i64 0, .int .i64 0, .int .i64 0] 89))
  have h3 := h.nx hB
  go_enter Tryz.func40, Tryz.ntmps40
  go_upto_region 1 with (fail)
  go_upto_region 4 with (go_at_call 120; refine (rfTime _ X d ro idl now N E hA t ht).mono ?_; rintro e w' ⟨rfl, rfl⟩)
  clear hA
  generalize (((w.alloc (.cells #[.int .i64 f.pr, .int .u32 f.src, .int .u32 f.dst, .int .i64 f.sp, .int .i64 f.dp] 84)).alloc (.cells #[.int .i64 0, .int .u32 0, .int .u32 0, .int .i64 0, .int .i64 0, .int .i64 0, .int .i64 0] 89)).alloc (.cells #[.int .i64 0, .int .u32 0, .int .u32 0, .int .i64 0, .int .i64 0, .int .i64 0, .int .i64 0] 89)) = w1 at *
  have y0 : w1.cell? ⟨w.heap.size, 0, none⟩ = some (.int .i64 f.pr) := hf.cellv 0 rfl
  have y1 : w1.cell? ⟨w.heap.size, 1, none⟩ = some (.int .u32 f.src) := hf.cellv 1 rfl
  have y2 : w1.cell? ⟨w.heap.size, 2, none⟩ = some (.int .u32 f.dst) := hf.cellv 2 rfl
  have y3 : w1.cell? ⟨w.heap.size, 3, none⟩ = some (.int .i64 f.sp) := hf.cellv 3 rfl
  have y4 : w1.cell? ⟨w.heap.size, 4, none⟩ = some (.int .i64 f.dp) := hf.cellv 4 rfl
  have ltf := hf.lt
  go_upto_region 5 with (go_at_call 121; refine (rfFind w1 X d ro idl now N E f h3 (by omega)).mono ?_; rintro e w3 ⟨rfl, hb3⟩)
  clear y0 y1 y2 y3 y4 ltf
  replace hB := hB.trans (hb3.mono hB.size)
  replace hf := hf.below hb3 hf.lt
  replace h8 := h8.below hb3 h8.lt
  replace h10 := h10.below hb3 h10.lt
  replace h3 := h3.nx hb3
  cases hfi : E.findIdx? (isF f) with
  | some k =>
    have hz : findE E f = (k : Int) := by unfold findE; rw [hfi]
    have hcut : cutE ro E f = E.eraseIdx k := by unfold cutE; rw [hfi]
    have hkl : k < E.length := by
      obtain ⟨hl, _, _⟩ := List.findIdx?_eq_some_iff_getElem.1 hfi
      exact hl
    rw [hz]
    replace hcut := Lib.hid hcut
    clear hfi hz
    have hXw : ∀ b, w3.heap.size ≤ b → X b := fun b q => hX b (Nat.le_trans hB.size q)
    clear h
    go_upto_region 12 with (go_at_call 122; refine (rfOut w3 X d ro idl now N E h3 k hkl (by omega) hXw).mono ?_; rintro e w4 ⟨rfl, h4, hC4⟩)
    replace hf := hC4.blk hf (by omega)
    replace h8 := hC4.blk h8 (by omega)
    replace h10 := hC4.blk h10 (by omega)
    have hCw := (Chg.of_below (X := fun b => b = d) hB).trans hC4 fun _ _ q => q
    have hE4 : (E.eraseIdx k).length ≤ 100000 := by (try simp only [List.length_eraseIdx]); (try split) <;> omega
    obtain ⟨A, n, c, ca, we, hnc, hcm, hca, hwe, hq, hS⟩ := h4
    have hln := Lib.hid hS.1
    have hn9 : n ≤ 100000 := by have := hS.1; omega
    replace hE4 := Lib.hid hE4
    have c3 : w4.cell? ⟨d, 3, none⟩ = some (.slice A n c) := hq.cellv 3 rfl
    have ltd := hq.lt
    have ltf := hf.lt
    try refine wp_region_noPanic ?_
    have hs1r : (fun w' => Below w4.heap.size w4 w') w4.drew := (Below.refl _ _).drew
    refine wp_region_E 15 (S := fun w' => Below w4.heap.size w4 w') (by kernel_rfl) hs1r (fun _ => ?_)
    (refine e_takeA 0 (by rfl) ?_ (by kernel_rfl) (fun _ _ _ h => h) hs1r ?_ ?_; rotate_left; (focus (intro wq hSw; have hrd := hSw; have hrd2 := zR hSw; go_simp; try with_reducible rfl; done)); try simp only [Act.put, zA, zB, zC])
    (refine e_takeA 2 (by rfl) ?_ (by kernel_rfl) (fun _ _ _ h => h) hs1r ?_ ?_; rotate_left; (focus (intro wq hSw; have hrd := hSw; have hrd2 := zR hSw; go_simp; try with_reducible rfl; done)); try simp only [Act.put, zA, zB, zC])
    (refine e_takeA 3 (by rfl) ?_ (by kernel_rfl) (fun _ _ _ h => h) hs1r ?_ ?_; rotate_left; (focus (intro wq hSw; have hrd := hSw; have hrd2 := zR hSw; go_simp; try with_reducible rfl; done)); try simp only [Act.put, zA, zB, zC])
    (refine e_takeA 4 (by rfl) ?_ (by kernel_rfl) (fun _ _ _ h => h) hs1r ?_ ?_; rotate_left; (focus (intro wq hSw; have hrd := hSw; have hrd2 := zR hSw; go_simp; try with_reducible rfl; done)); try simp only [Act.put, zA, zB, zC])
    (refine e_takeA 5 (by rfl) ?_ (by kernel_rfl) (fun _ _ _ h => h) hs1r ?_ ?_; rotate_left; (focus (intro wq hSw; have hrd := hSw; have hrd2 := zR hSw; go_simp; try with_reducible rfl; done)); try simp only [Act.put, zA, zB, zC])
    (refine e_takeA 7 (by rfl) ?_ (by kernel_rfl) (fun _ _ _ h => h) hs1r ?_ ?_; rotate_left; (focus (intro wq hSw; refine exec_load_blk (x := .tmp 5) ?_ ?_ (hf.below hSw hf.lt) _ Tryz.underlying84 rfl (by kernel_rfl) <;> rfl)); simp only [Act.put, zA, zB, zC])
    (refine e_takeA 8 (by rfl) ?_ (by kernel_rfl) (fun _ _ _ h => h) hs1r ?_ ?_; rotate_left; (focus (intro wq hSw; have hrd := hSw; have hrd2 := zR hSw; go_simp; try with_reducible rfl; done)); try simp only [Act.put, zA, zB, zC])
    (refine e_takeA 9 (by rfl) ?_ (by kernel_rfl) (fun _ _ _ h => h) hs1r ?_ ?_; rotate_left; (focus (intro wq hSw; have hrd := hSw; have hrd2 := zR hSw; go_simp; try with_reducible rfl; done)); try simp only [Act.put, zA, zB, zC])
    (refine e_takeA 10 (by rfl) ?_ (by kernel_rfl) (fun _ _ _ h => h) hs1r ?_ ?_; rotate_left; (focus (intro wq hSw; have hrd := hSw; have hrd2 := zR hSw; go_simp; try with_reducible rfl; done)); try simp only [Act.put, zA, zB, zC])
    refine e_two 1 11 (by rfl) (by rfl) (by kernel_rfl) (by rfl) (by rfl) (fun KQ hKQ => ?_) (fun KQ hKQ => ?_)
    · skip
      have hbs : Below w4.heap.size w4 w4.drew := (Below.refl _ _).drew
      skip
      go_simp
      have hd : (w4.alloc (.cells #[] 89)).drew = w4.drew.alloc (.cells #[] 89) := rfl
      try rw [hd]
      have hbs' := hbs.alloc hbs.size (.cells #[] 89)
      have hv : Rows enK (w4.drew.alloc (.cells #[] 89)) w4.heap.size w4.heap.size 89 (.slice (some ⟨w4.drew.heap.size, 0, none⟩) 0 0) [] := (en_lit w4.drew).less hbs.size hbs.size
      generalize w4.drew.alloc (.cells #[] 89) = wa at *
      clear hd
      have hs2r := hbs'
      refine hKQ.out _ _ hs2r ?_
      clear hKQ KQ
      try simp only [Act.put, zA, zB, zC]
      refine e_two 6 11 (by rfl) (by rfl) (by kernel_rfl) (by rfl) (by rfl) (fun KQ hKQ => ?_) (fun KQ hKQ => ?_)
      · skip
        have hSa := hS.below hbs' fun b q => q.2
        skip
        refine wp_rows en_ok29 (.tmp 57) (.tmp 61) (by rfl) hv (by rfl) (by rfl) hSa (fun _ _ => trivial) (by unfold maxLen; simp; omega) (by simp; omega) hbs'.size ?_
        intro vwb wb hvwb hgwb
        rw [List.nil_append] at hvwb
        have hbb := hv.below_app hgwb hbs'.size
        have hbs'' := hbs'.trans hbb
        have hv := hvwb
        have hs3r := hbs''
        refine hKQ.out _ _ hs3r ?_
        clear hKQ KQ
        try simp only [Act.put, zA, zB, zC]
        refine e_callA 11 (by rfl) (by kernel_rfl) (by rfl) (fun KQ hKQ => ?_)
        go_simp
        have hbs''' := hbs''.alloc hbs''.size (.cells #[.int .i64 f.pr, .int .u32 f.src, .int .u32 f.dst, .int .i64 f.sp, .int .i64 f.dp, .int .i64 b, .int .i64 now] 89)
        obtain ⟨LB, hLB⟩ : ∃ LB, LB = wb.heap.size := ⟨_, rfl⟩
        have hseen : Seen enK (wb.alloc (.cells #[.int .i64 f.pr, .int .u32 f.src, .int .u32 f.dst, .int .i64 f.sp, .int .i64 f.dp, .int .i64 b, .int .i64 now] 89)) (fun b => b = LB) (some ⟨LB, 0, none⟩) 1 [(⟨f, b, now⟩ : EnV)] := by
          rw [hLB]
          exact seen_one (R := enK) (S := fun _ => False) (S' := fun b => b = wb.heap.size) wb 89 (⟨f, b, now⟩ : EnV) #[.int .i64 f.pr, .int .u32 f.src, .int .u32 f.dst, .int .i64 f.sp, .int .i64 f.dp, .int .i64 b, .int .i64 now] rfl trivial (fun _ h => h.elim) rfl (fun _ h => h.elim)
        have hlitlt : LB < (wb.alloc (.cells #[.int .i64 f.pr, .int .u32 f.src, .int .u32 f.dst, .int .i64 f.sp, .int .i64 f.dp, .int .i64 b, .int .i64 now] 89)).heap.size := by
          rw [hLB]
          show wb.heap.size < _
          simp
        have hapart := fun (e : _ = some LB) => (absurd (hv.own LB e).2 (by rw [hLB]; exact Nat.lt_irrefl _) : False)
        have hv := hv.alloc (.cells #[.int .i64 f.pr, .int .u32 f.src, .int .u32 f.dst, .int .i64 f.sp, .int .i64 f.dp, .int .i64 b, .int .i64 now] 89)
        generalize wb.alloc (.cells #[.int .i64 f.pr, .int .u32 f.src, .int .u32 f.dst, .int .i64 f.sp, .int .i64 f.dp, .int .i64 b, .int .i64 now] 89) = wc at *
        try rw [← hLB]
        clear hLB 
        have hs4r := hbs'''
        refine hKQ.out _ _ hs4r ?_
        clear hKQ KQ
        try simp only [Act.put, zA, zB, zC]
        refine e_callA 12 (by rfl) (by kernel_rfl) (by rfl) (fun KQ hKQ => ?_)
        refine wp_rows en_ok29 (.tmp 62) (.tmp 67) (by rfl) hv (by rfl) (by rfl) hseen (fun _ _ => trivial) (by unfold maxLen; rw [hln.out]; omega) (by rw [hln.out]; omega) hbs'''.size ?_
        intro v8 w8 hv8 hg8
        have hb8 := hbs'''.trans (hv.below_app hg8 hbs'''.size)
        rw [← hcut.out] at hv8
        obtain ⟨A9, c9, e9, hc9, hcm9, hS9⟩ := hv8.seen (Nat.le_refl _)
        have e99 : cutE ro E f ++ [⟨f, b, now⟩] = putE ro E f b now := rfl
        rw [e99] at e9 hc9 hS9
        subst e9
        have hq9 := hq.below hb8 ltd
        have g9 := hq9.frozen 3
        have hz9 := hb8.size
        have ltg9 : d < w8.heap.size := hq9.lt
        have c9' : w8.cell? ⟨d, 3, none⟩ = some (.slice A n c) := hq9.cellv 3 rfl
        have hs5r := hb8
        refine hKQ.out _ _ hs5r ?_
        clear hKQ KQ
        try simp only [Act.put, zA, zB, zC]
        (refine e_takeA 13 (by rfl) ?_ (by kernel_rfl) (fun _ _ _ h => h) hs5r ?_ ?_; rotate_left; (focus (intro wq hSw; have hrd := hSw; have hrd2 := zR hSw; go_simp; try with_reducible rfl; done)); try simp only [Act.put, zA, zB, zC])
        (refine e_takeA 14 (by rfl) ?_ (by kernel_rfl) (fun _ _ _ h => h) hs5r ?_ ?_; rotate_left; (focus (intro wq hSw; have hrd := hSw; have hrd2 := zR hSw; go_simp; try with_reducible rfl; done)); try simp only [Act.put, zA, zB, zC])
        refine e_last (by rfl) (by kernel_rfl) (by rfl) (fun KQ hKQ => ?_)
        go_simp
        obtain ⟨hq6, hg6⟩ := blk_store hq9 3 (.slice A9 (putE ro E f b now).length c9)
        replace hq6 : Blk (w8.setCell ⟨d, 3, none⟩ (.slice A9 (putE ro E f b now).length c9)) d 191 (rfC ro idl now A9 (putE ro E f b now).length c9 ca we) := hq6
        have hS6 := hS9.grown hg6 fun b q => ⟨q.2, fun e => by injection e with e; omega⟩
        have hC6 := hCw.trans ((Chg.of_below (X := fun b => b = d) hb8).trans (Chg.of_grown (X := fun b => b = d) hg6 rfl) fun _ _ q => q) fun _ _ q => q
        have h86 := (h8.below hb8 h8.lt).grown hg6 (fun e => by injection e with e; omega)
        have h106 := (h10.below hb8 h10.lt).grown hg6 (fun e => by injection e with e; omega)
        generalize w8.setCell ⟨d, 3, none⟩ (.slice A9 (putE ro E f b now).length c9) = w6 at *
        refine hKQ.out _ _ ?_
        clear hKQ KQ
        try simp only [Act.put]
        refine e_done (by kernel_rfl) ?_ _
        try refine NoPanic.normal ?_
        have hl8 := h8.lt
        have hd8 : d ≠ (w.heap.size + 1) := by have := hlt0; omega
        have hS6z : w4.heap.size ≤ w6.heap.size := Nat.le_trans hz9 hg6.size
        replace hq6 := Lib.hid hq6
        replace hS6 := Lib.hid (hS6.more (S' := fun b => w4.heap.size ≤ b ∧ b < w6.heap.size) fun b q => ⟨q.1, Nat.lt_of_lt_of_le q.2 hg6.size⟩)
        clear hq9 hS9 c9' g9 hv8
        have z0 : w6.cell? ⟨(w.heap.size + 1 + 1), 0, none⟩ = some (.int .i64 0) := h106.cellv 0 rfl
        have z1 : w6.cell? ⟨(w.heap.size + 1 + 1), 1, none⟩ = some (.int .u32 0) := h106.cellv 1 rfl
        have z2 : w6.cell? ⟨(w.heap.size + 1 + 1), 2, none⟩ = some (.int .u32 0) := h106.cellv 2 rfl
        have z3 : w6.cell? ⟨(w.heap.size + 1 + 1), 3, none⟩ = some (.int .i64 0) := h106.cellv 3 rfl
        have z4 : w6.cell? ⟨(w.heap.size + 1 + 1), 4, none⟩ = some (.int .i64 0) := h106.cellv 4 rfl
        have z5 : w6.cell? ⟨(w.heap.size + 1 + 1), 5, none⟩ = some (.int .i64 0) := h106.cellv 5 rfl
        have z6 : w6.cell? ⟨(w.heap.size + 1 + 1), 6, none⟩ = some (.int .i64 0) := h106.cellv 6 rfl
        have lt10 := h106.lt
        go_wp2_with (refine wpList_store_blk rfl h86 89 (.tmp 8) (.tmp 71) rfl rfl rfl rfl got_entry29 (by simp [Value.oneCell']) ?_; intro w7 hq7 hg7)
        try rw [Exit.noGoto_ret]
        refine bodyPost_ret (results_ct rfl _ rfl (load_blk hq7 Tryz.underlying89 rfl got_entry29)) rfl ?_
        have hb7 : Chg w6 w7 (fun b => b = (w.heap.size + 1)) := Chg.of_grown hg7 rfl
        refine ⟨⟨_, _, rfl⟩, ⟨A9, _, c9, ca, we, hc9, hcm9, ⟨hca.1, by omega⟩, ⟨hwe.1, by omega⟩, hb7.blk hq6.out hd8, (hb7.seen hS6.out fun b q => ⟨q.2, fun e => by omega⟩).more fun b q => ⟨hX b (Nat.le_trans hCw.size q.1), Nat.lt_of_lt_of_le q.2 hb7.size⟩⟩, ?_⟩
        exact hC6.trans hb7 (fun b q e => by omega)
      · skip
        go_simp
        have hbs'' := hbs'.alloc hbs'.size (.cells #[.int .i64 f.pr, .int .u32 f.src, .int .u32 f.dst, .int .i64 f.sp, .int .i64 f.dp, .int .i64 b, .int .i64 now] 89)
        obtain ⟨LB, hLB⟩ : ∃ LB, LB = wa.heap.size := ⟨_, rfl⟩
        have hseen : Seen enK (wa.alloc (.cells #[.int .i64 f.pr, .int .u32 f.src, .int .u32 f.dst, .int .i64 f.sp, .int .i64 f.dp, .int .i64 b, .int .i64 now] 89)) (fun b => b = LB) (some ⟨LB, 0, none⟩) 1 [(⟨f, b, now⟩ : EnV)] := by
          rw [hLB]
          exact seen_one (R := enK) (S := fun _ => False) (S' := fun b => b = wa.heap.size) wa 89 (⟨f, b, now⟩ : EnV) #[.int .i64 f.pr, .int .u32 f.src, .int .u32 f.dst, .int .i64 f.sp, .int .i64 f.dp, .int .i64 b, .int .i64 now] rfl trivial (fun _ h => h.elim) rfl (fun _ h => h.elim)
        have hlitlt : LB < (wa.alloc (.cells #[.int .i64 f.pr, .int .u32 f.src, .int .u32 f.dst, .int .i64 f.sp, .int .i64 f.dp, .int .i64 b, .int .i64 now] 89)).heap.size := by
          rw [hLB]
          show wa.heap.size < _
          simp
        have hapart := fun (e : _ = some LB) => (absurd (hv.own LB e).2 (by rw [hLB]; exact Nat.lt_irrefl _) : False)
        have hv := hv.alloc (.cells #[.int .i64 f.pr, .int .u32 f.src, .int .u32 f.dst, .int .i64 f.sp, .int .i64 f.dp, .int .i64 b, .int .i64 now] 89)
        generalize wa.alloc (.cells #[.int .i64 f.pr, .int .u32 f.src, .int .u32 f.dst, .int .i64 f.sp, .int .i64 f.dp, .int .i64 b, .int .i64 now] 89) = wb at *
        try rw [← hLB]
        clear hLB
        have hs6r := hbs''
        refine hKQ.out _ _ hs6r ?_
        clear hKQ KQ
        try simp only [Act.put, zA, zB, zC]
        have hSa := hS.below hbs'' fun b q => q.2
        refine e_callA 6 (by rfl) (by kernel_rfl) (by rfl) (fun KQ hKQ => ?_)
        refine wp_rows en_ok29 (.tmp 57) (.tmp 61) (by rfl) hv (by rfl) (by rfl) hSa (fun _ _ => trivial) (by unfold maxLen; simp; omega) (by simp; omega) hbs''.size ?_
        intro vwc wc hvwc hgwc
        rw [List.nil_append] at hvwc
        have hbb := hv.below_app hgwc hbs''.size
        have hseen := hseen.grown hgwc (fun b q => ⟨by rw [q]; exact hlitlt, by rw [q]; intro e; exact hapart e⟩)
        have hlitlt := Nat.lt_of_lt_of_le hlitlt hbb.size
        have hbs''' := hbs''.trans hbb
        have hv := hvwc
        have hs7r := hbs'''
        refine hKQ.out _ _ hs7r ?_
        clear hKQ KQ
        try simp only [Act.put, zA, zB, zC]
        refine e_callA 12 (by rfl) (by kernel_rfl) (by rfl) (fun KQ hKQ => ?_)
        refine wp_rows en_ok29 (.tmp 62) (.tmp 67) (by rfl) hv (by rfl) (by rfl) hseen (fun _ _ => trivial) (by unfold maxLen; rw [hln.out]; omega) (by rw [hln.out]; omega) hbs'''.size ?_
        intro v8 w8 hv8 hg8
        have hb8 := hbs'''.trans (hv.below_app hg8 hbs'''.size)
        rw [← hcut.out] at hv8
        obtain ⟨A9, c9, e9, hc9, hcm9, hS9⟩ := hv8.seen (Nat.le_refl _)
        have e99 : cutE ro E f ++ [⟨f, b, now⟩] = putE ro E f b now := rfl
        rw [e99] at e9 hc9 hS9
        subst e9
        have hq9 := hq.below hb8 ltd
        have g9 := hq9.frozen 3
        have hz9 := hb8.size
        have ltg9 : d < w8.heap.size := hq9.lt
        have c9' : w8.cell? ⟨d, 3, none⟩ = some (.slice A n c) := hq9.cellv 3 rfl
        have hs8r := hb8
        refine hKQ.out _ _ hs8r ?_
        clear hKQ KQ
        try simp only [Act.put, zA, zB, zC]
        (refine e_takeA 13 (by rfl) ?_ (by kernel_rfl) (fun _ _ _ h => h) hs8r ?_ ?_; rotate_left; (focus (intro wq hSw; have hrd := hSw; have hrd2 := zR hSw; go_simp; try with_reducible rfl; done)); try simp only [Act.put, zA, zB, zC])
        (refine e_takeA 14 (by rfl) ?_ (by kernel_rfl) (fun _ _ _ h => h) hs8r ?_ ?_; rotate_left; (focus (intro wq hSw; have hrd := hSw; have hrd2 := zR hSw; go_simp; try with_reducible rfl; done)); try simp only [Act.put, zA, zB, zC])
        refine e_last (by rfl) (by kernel_rfl) (by rfl) (fun KQ hKQ => ?_)
        go_simp
        obtain ⟨hq6, hg6⟩ := blk_store hq9 3 (.slice A9 (putE ro E f b now).length c9)
        replace hq6 : Blk (w8.setCell ⟨d, 3, none⟩ (.slice A9 (putE ro E f b now).length c9)) d 191 (rfC ro idl now A9 (putE ro E f b now).length c9 ca we) := hq6
        have hS6 := hS9.grown hg6 fun b q => ⟨q.2, fun e => by injection e with e; omega⟩
        have hC6 := hCw.trans ((Chg.of_below (X := fun b => b = d) hb8).trans (Chg.of_grown (X := fun b => b = d) hg6 rfl) fun _ _ q => q) fun _ _ q => q
        have h86 := (h8.below hb8 h8.lt).grown hg6 (fun e => by injection e with e; omega)
        have h106 := (h10.below hb8 h10.lt).grown hg6 (fun e => by injection e with e; omega)
        generalize w8.setCell ⟨d, 3, none⟩ (.slice A9 (putE ro E f b now).length c9) = w6 at *
        refine hKQ.out _ _ ?_
        clear hKQ KQ
        try simp only [Act.put]
        refine e_done (by kernel_rfl) ?_ _
        try refine NoPanic.normal ?_
        have hl8 := h8.lt
        have hd8 : d ≠ (w.heap.size + 1) := by have := hlt0; omega
        have hS6z : w4.heap.size ≤ w6.heap.size := Nat.le_trans hz9 hg6.size
        replace hq6 := Lib.hid hq6
        replace hS6 := Lib.hid (hS6.more (S' := fun b => w4.heap.size ≤ b ∧ b < w6.heap.size) fun b q => ⟨q.1, Nat.lt_of_lt_of_le q.2 hg6.size⟩)
        clear hq9 hS9 c9' g9 hv8
        have z0 : w6.cell? ⟨(w.heap.size + 1 + 1), 0, none⟩ = some (.int .i64 0) := h106.cellv 0 rfl
        have z1 : w6.cell? ⟨(w.heap.size + 1 + 1), 1, none⟩ = some (.int .u32 0) := h106.cellv 1 rfl
        have z2 : w6.cell? ⟨(w.heap.size + 1 + 1), 2, none⟩ = some (.int .u32 0) := h106.cellv 2 rfl
        have z3 : w6.cell? ⟨(w.heap.size + 1 + 1), 3, none⟩ = some (.int .i64 0) := h106.cellv 3 rfl
        have z4 : w6.cell? ⟨(w.heap.size + 1 + 1), 4, none⟩ = some (.int .i64 0) := h106.cellv 4 rfl
        have z5 : w6.cell? ⟨(w.heap.size + 1 + 1), 5, none⟩ = some (.int .i64 0) := h106.cellv 5 rfl
        have z6 : w6.cell? ⟨(w.heap.size + 1 + 1), 6, none⟩ = some (.int .i64 0) := h106.cellv 6 rfl
        have lt10 := h106.lt
        go_wp2_with (refine wpList_store_blk rfl h86 89 (.tmp 8) (.tmp 71) rfl rfl rfl rfl got_entry29 (by simp [Value.oneCell']) ?_; intro w7 hq7 hg7)
        try rw [Exit.noGoto_ret]
        refine bodyPost_ret (results_ct rfl _ rfl (load_blk hq7 Tryz.underlying89 rfl got_entry29)) rfl ?_
        have hb7 : Chg w6 w7 (fun b => b = (w.heap.size + 1)) := Chg.of_grown hg7 rfl
        refine ⟨⟨_, _, rfl⟩, ⟨A9, _, c9, ca, we, hc9, hcm9, ⟨hca.1, by omega⟩, ⟨hwe.1, by omega⟩, hb7.blk hq6.out hd8, (hb7.seen hS6.out fun b q => ⟨q.2, fun e => by omega⟩).more fun b q => ⟨hX b (Nat.le_trans hCw.size q.1), Nat.lt_of_lt_of_le q.2 hb7.size⟩⟩, ?_⟩
        exact hC6.trans hb7 (fun b q e => by omega)
    · skip
      have hbs : Below w4.heap.size w4 w4.drew := (Below.refl _ _).drew
      skip
      go_simp
      have hd : (w4.alloc (.cells #[.int .i64 f.pr, .int .u32 f.src, .int .u32 f.dst, .int .i64 f.sp, .int .i64 f.dp, .int .i64 b, .int .i64 now] 89)).drew = w4.drew.alloc (.cells #[.int .i64 f.pr, .int .u32 f.src, .int .u32 f.dst, .int .i64 f.sp, .int .i64 f.dp, .int .i64 b, .int .i64 now] 89) := rfl
      try rw [hd]
      have hbs' := hbs.alloc hbs.size (.cells #[.int .i64 f.pr, .int .u32 f.src, .int .u32 f.dst, .int .i64 f.sp, .int .i64 f.dp, .int .i64 b, .int .i64 now] 89)
      obtain ⟨LB, hLB⟩ : ∃ LB, LB = w4.heap.size := ⟨_, rfl⟩
      have hseen : Seen enK (w4.drew.alloc (.cells #[.int .i64 f.pr, .int .u32 f.src, .int .u32 f.dst, .int .i64 f.sp, .int .i64 f.dp, .int .i64 b, .int .i64 now] 89)) (fun b => b = LB) (some ⟨LB, 0, none⟩) 1 [(⟨f, b, now⟩ : EnV)] := by
        rw [hLB]
        exact seen_one (R := enK) (S := fun _ => False) (S' := fun b => b = w4.heap.size) w4.drew 89 (⟨f, b, now⟩ : EnV) #[.int .i64 f.pr, .int .u32 f.src, .int .u32 f.dst, .int .i64 f.sp, .int .i64 f.dp, .int .i64 b, .int .i64 now] rfl trivial (fun _ h => h.elim) rfl (fun _ h => h.elim)
      have hlitlt : LB < (w4.drew.alloc (.cells #[.int .i64 f.pr, .int .u32 f.src, .int .u32 f.dst, .int .i64 f.sp, .int .i64 f.dp, .int .i64 b, .int .i64 now] 89)).heap.size := by
        rw [hLB]
        show w4.drew.heap.size < _
        simp
      generalize w4.drew.alloc (.cells #[.int .i64 f.pr, .int .u32 f.src, .int .u32 f.dst, .int .i64 f.sp, .int .i64 f.dp, .int .i64 b, .int .i64 now] 89) = wa at *
      try rw [← hLB]
      clear hLB hd
      have hs9r := hbs'
      refine hKQ.out _ _ hs9r ?_
      clear hKQ KQ
      try simp only [Act.put, zA, zB, zC]
      refine e_callA 1 (by rfl) (by kernel_rfl) (by rfl) (fun KQ hKQ => ?_)
      go_simp
      have hbs'' := hbs'.alloc hbs'.size (.cells #[] 89)
      have hv : Rows enK (wa.alloc (.cells #[] 89)) w4.heap.size w4.heap.size 89 (.slice (some ⟨wa.heap.size, 0, none⟩) 0 0) [] := (en_lit wa).less hbs'.size hbs'.size
      have hseen := hseen.below (w' := wa.alloc (.cells #[] 89)) ((Below.refl _ _).alloc (Nat.le_refl _) _) (fun b q => by rw [q]; exact hlitlt)
      have hlitlt2 : LB < (wa.alloc (.cells #[] 89)).heap.size := Nat.lt_of_lt_of_le hlitlt (by simp)
      have hapart : (Value.slice (some ⟨wa.heap.size, 0, none⟩) 0 0).ownBlock = some LB → False := fun e => by (have e2 : some wa.heap.size = some LB := e); injection e2 with e2; omega
      generalize wa.alloc (.cells #[] 89) = wb at *
      replace hlitlt := hlitlt2
      have hs10r := hbs''
      refine hKQ.out _ _ hs10r ?_
      clear hKQ KQ
      try simp only [Act.put, zA, zB, zC]
      have hSa := hS.below hbs'' fun b q => q.2
      refine e_callA 6 (by rfl) (by kernel_rfl) (by rfl) (fun KQ hKQ => ?_)
      refine wp_rows en_ok29 (.tmp 57) (.tmp 61) (by rfl) hv (by rfl) (by rfl) hSa (fun _ _ => trivial) (by unfold maxLen; simp; omega) (by simp; omega) hbs''.size ?_
      intro vwc wc hvwc hgwc
      rw [List.nil_append] at hvwc
      have hbb := hv.below_app hgwc hbs''.size
      have hseen := hseen.grown hgwc (fun b q => ⟨by rw [q]; exact hlitlt, by rw [q]; intro e; exact hapart e⟩)
      have hlitlt := Nat.lt_of_lt_of_le hlitlt hbb.size
      have hbs''' := hbs''.trans hbb
      have hv := hvwc
      have hs11r := hbs'''
      refine hKQ.out _ _ hs11r ?_
      clear hKQ KQ
      try simp only [Act.put, zA, zB, zC]
      refine e_callA 12 (by rfl) (by kernel_rfl) (by rfl) (fun KQ hKQ => ?_)
      refine wp_rows en_ok29 (.tmp 62) (.tmp 67) (by rfl) hv (by rfl) (by rfl) hseen (fun _ _ => trivial) (by unfold maxLen; rw [hln.out]; omega) (by rw [hln.out]; omega) hbs'''.size ?_
      intro v8 w8 hv8 hg8
      have hb8 := hbs'''.trans (hv.below_app hg8 hbs'''.size)
      rw [← hcut.out] at hv8
      obtain ⟨A9, c9, e9, hc9, hcm9, hS9⟩ := hv8.seen (Nat.le_refl _)
      have e99 : cutE ro E f ++ [⟨f, b, now⟩] = putE ro E f b now := rfl
      rw [e99] at e9 hc9 hS9
      subst e9
      have hq9 := hq.below hb8 ltd
      have g9 := hq9.frozen 3
      have hz9 := hb8.size
      have ltg9 : d < w8.heap.size := hq9.lt
      have c9' : w8.cell? ⟨d, 3, none⟩ = some (.slice A n c) := hq9.cellv 3 rfl
      have hs12r := hb8
      refine hKQ.out _ _ hs12r ?_
      clear hKQ KQ
      try simp only [Act.put, zA, zB, zC]
      (refine e_takeA 13 (by rfl) ?_ (by kernel_rfl) (fun _ _ _ h => h) hs12r ?_ ?_; rotate_left; (focus (intro wq hSw; have hrd := hSw; have hrd2 := zR hSw; go_simp; try with_reducible rfl; done)); try simp only [Act.put, zA, zB, zC])
      (refine e_takeA 14 (by rfl) ?_ (by kernel_rfl) (fun _ _ _ h => h) hs12r ?_ ?_; rotate_left; (focus (intro wq hSw; have hrd := hSw; have hrd2 := zR hSw; go_simp; try with_reducible rfl; done)); try simp only [Act.put, zA, zB, zC])
      refine e_last (by rfl) (by kernel_rfl) (by rfl) (fun KQ hKQ => ?_)
      go_simp
      obtain ⟨hq6, hg6⟩ := blk_store hq9 3 (.slice A9 (putE ro E f b now).length c9)
      replace hq6 : Blk (w8.setCell ⟨d, 3, none⟩ (.slice A9 (putE ro E f b now).length c9)) d 191 (rfC ro idl now A9 (putE ro E f b now).length c9 ca we) := hq6
      have hS6 := hS9.grown hg6 fun b q => ⟨q.2, fun e => by injection e with e; omega⟩
      have hC6 := hCw.trans ((Chg.of_below (X := fun b => b = d) hb8).trans (Chg.of_grown (X := fun b => b = d) hg6 rfl) fun _ _ q => q) fun _ _ q => q
      have h86 := (h8.below hb8 h8.lt).grown hg6 (fun e => by injection e with e; omega)
      have h106 := (h10.below hb8 h10.lt).grown hg6 (fun e => by injection e with e; omega)
      generalize w8.setCell ⟨d, 3, none⟩ (.slice A9 (putE ro E f b now).length c9) = w6 at *
      refine hKQ.out _ _ ?_
      clear hKQ KQ
      try simp only [Act.put]
      refine e_done (by kernel_rfl) ?_ _
      try refine NoPanic.normal ?_
      have hl8 := h8.lt
      have hd8 : d ≠ (w.heap.size + 1) := by have := hlt0; omega
      have hS6z : w4.heap.size ≤ w6.heap.size := Nat.le_trans hz9 hg6.size
      replace hq6 := Lib.hid hq6
      replace hS6 := Lib.hid (hS6.more (S' := fun b => w4.heap.size ≤ b ∧ b < w6.heap.size) fun b q => ⟨q.1, Nat.lt_of_lt_of_le q.2 hg6.size⟩)
      clear hq9 hS9 c9' g9 hv8
      have z0 : w6.cell? ⟨(w.heap.size + 1 + 1), 0, none⟩ = some (.int .i64 0) := h106.cellv 0 rfl
      have z1 : w6.cell? ⟨(w.heap.size + 1 + 1), 1, none⟩ = some (.int .u32 0) := h106.cellv 1 rfl
      have z2 : w6.cell? ⟨(w.heap.size + 1 + 1), 2, none⟩ = some (.int .u32 0) := h106.cellv 2 rfl
      have z3 : w6.cell? ⟨(w.heap.size + 1 + 1), 3, none⟩ = some (.int .i64 0) := h106.cellv 3 rfl
      have z4 : w6.cell? ⟨(w.heap.size + 1 + 1), 4, none⟩ = some (.int .i64 0) := h106.cellv 4 rfl
      have z5 : w6.cell? ⟨(w.heap.size + 1 + 1), 5, none⟩ = some (.int .i64 0) := h106.cellv 5 rfl
      have z6 : w6.cell? ⟨(w.heap.size + 1 + 1), 6, none⟩ = some (.int .i64 0) := h106.cellv 6 rfl
      have lt10 := h106.lt
      go_wp2_with (refine wpList_store_blk rfl h86 89 (.tmp 8) (.tmp 71) rfl rfl rfl rfl got_entry29 (by simp [Value.oneCell']) ?_; intro w7 hq7 hg7)
      try rw [Exit.noGoto_ret]
      refine bodyPost_ret (results_ct rfl _ rfl (load_blk hq7 Tryz.underlying89 rfl got_entry29)) rfl ?_
      have hb7 : Chg w6 w7 (fun b => b = (w.heap.size + 1)) := Chg.of_grown hg7 rfl
      refine ⟨⟨_, _, rfl⟩, ⟨A9, _, c9, ca, we, hc9, hcm9, ⟨hca.1, by omega⟩, ⟨hwe.1, by omega⟩, hb7.blk hq6.out hd8, (hb7.seen hS6.out fun b q => ⟨q.2, fun e => by omega⟩).more fun b q => ⟨hX b (Nat.le_trans hCw.size q.1), Nat.lt_of_lt_of_le q.2 hb7.size⟩⟩, ?_⟩
      exact hC6.trans hb7 (fun b q e => by omega)
  | none =>
    have hz : findE E f = -1 := by unfold findE; rw [hfi]
    rw [hz]
    obtain ⟨A, n, c, ca, we, hnc, hcm, hca, hwe, hq, hS⟩ := h
    clear h3
    replace hq := hq.below hB hlt0
    replace hS := hS.below hB fun b q => q.2
    have hln := hS.1
    have c4 : w3.cell? ⟨d, 4, none⟩ = some (.int .i64 ca) := hq.cellv 4 rfl
    have f4 := hq.frozen 4
    have ltd := hq.lt
    have kw : IntKind.i64.wrap (ca + 1) = ca + 1 := IntWalk.i64_in _ (by omega)
    go_upto_region 7 with (fail)
    obtain ⟨hq4, hg4⟩ := blk_store hq 4 (.int .i64 (ca + 1))
    replace hq4 : Blk (w3.setCell ⟨d, 4, none⟩ (.int .i64 (ca + 1))) d 191 (rfC ro idl now A n c (ca + 1) we) := hq4
    go_upto_region 8 with (fail)
    have hC4 : Chg w3 (w3.setCell ⟨d, 4, none⟩ (.int .i64 (ca + 1))) (fun b => b = d) := Chg.of_grown hg4 rfl
    have hS4 := hC4.seen hS fun b q => ⟨Nat.lt_of_lt_of_le q.2 hB.size, fun e => hXd (e ▸ q.1)⟩
    replace hf := hC4.blk hf (by omega)
    replace h8 := hC4.blk h8 (by omega)
    replace h10 := hC4.blk h10 (by omega)
    clear hg4 hq hS c4 f4 kw
    generalize w3.setCell ⟨d, 4, none⟩ (.int .i64 (ca + 1)) = w4 at *
    have c3 : w4.cell? ⟨d, 3, none⟩ = some (.slice A n c) := hq4.cellv 3 rfl
    have c0 : w4.cell? ⟨d, 0, none⟩ = some (.int .i64 ro) := hq4.cellv 0 rfl
    have lt4 := hq4.lt
    have hXw : ∀ b, w3.heap.size ≤ b → X b := fun b q => hX b (Nat.le_trans hB.size q)
    have hl9 := Lib.hid hln
    by_cases hroom : ro ≤ (n : Int)
    · have d1 : decide (ro ≤ (n : Int)) = true := by simpa using hroom
      have hcut : cutE ro E f = E.eraseIdx 0 := by unfold cutE; rw [hfi, hln]; simp [hroom]
      replace hcut := Lib.hid hcut
      clear hfi hz
      have h0n : 0 < n := by omega
      obtain ⟨bb, off, x, rfl, hb1, hxk, e0, e1, e2, e3, e4, e5, e6⟩ := en_cells9 hS4 h0n
      simp only [Nat.zero_mul, Nat.add_zero] at e0 e1 e2 e3 e4 e5 e6
      have ltb : bb < w4.heap.size := Nat.lt_of_lt_of_le hb1.2 (Nat.le_trans hB.size hC4.size)
      go_region
      replace hf : Blk w4.drew _ _ _ := hf
      replace h8 : Blk w4.drew _ _ _ := h8
      replace h10 : Blk w4.drew _ _ _ := h10
      replace hq4 : Blk w4.drew _ _ _ := hq4
      replace hC4 := hC4.trans (Chg.of_below (X := fun _ => False) (Below.refl _ _).drew) (fun _ _ q => q.elim)
      replace hS4 : Seen enK w4.drew (fun b => X b ∧ b < w.heap.size) _ n E := hS4
      replace e0 : w4.drew.cell? ⟨bb, off, none⟩ = some (.int .i64 x.fl.pr) := e0
      replace e1 : w4.drew.cell? ⟨bb, off + 1, none⟩ = some (.int .u32 x.fl.src) := e1
      replace e2 : w4.drew.cell? ⟨bb, off + 2, none⟩ = some (.int .u32 x.fl.dst) := e2
      replace e3 : w4.drew.cell? ⟨bb, off + 3, none⟩ = some (.int .i64 x.fl.sp) := e3
      replace e4 : w4.drew.cell? ⟨bb, off + 4, none⟩ = some (.int .i64 x.fl.dp) := e4
      replace e5 : w4.drew.cell? ⟨bb, off + 5, none⟩ = some (.int .i64 x.be) := e5
      replace e6 : w4.drew.cell? ⟨bb, off + 6, none⟩ = some (.int .i64 x.la) := e6
      have ltb2 : bb < w4.drew.heap.size := ltb
      clear ltb c0 c3 lt4
      generalize w4.drew = w5 at *
      have ltd5 := hq4.lt
      have c3 : w5.cell? ⟨d, 3, none⟩ = some (.slice (some ⟨bb, off, none⟩) n c) := hq4.cellv 3 rfl
      go_upto_region 10 with (refine wpList_store_blk rfl h10 89 (.tmp 10) (.tmp 46) rfl rfl rfl rfl got_entry29 (by simp [Value.oneCell']) ?_; intro w6 h106 hg6)
      replace h106 : Blk w6 (w.heap.size + 1 + 1) 89 #[.int .i64 x.fl.pr, .int .u32 x.fl.src, .int .u32 x.fl.dst, .int .i64 x.fl.sp, .int .i64 x.fl.dp, .int .i64 x.be, .int .i64 x.la] := h106
      have hC6 : Chg w5 w6 (fun b => b = (w.heap.size + 1 + 1)) := Chg.of_grown hg6 rfl
      have hd8 : d ≠ (w.heap.size + 1) := by have := hlt0; omega
      have hd10 : d ≠ (w.heap.size + 1 + 1) := by have := hlt0; omega
      replace hf := hC6.blk hf (by omega)
      replace h8 := hC6.blk h8 (by omega)
      replace hq4 := hC6.blk hq4 hd10
      replace hS4 := hC6.seen hS4 fun b q => ⟨Nat.lt_of_lt_of_le q.2 (Nat.le_trans hB.size hC4.size), by omega⟩
      clear e0 e1 e2 e3 e4 e5 e6 ltb2 ltd5 c3 h10
      have c5 : w6.cell? ⟨d, 5, none⟩ = some (.int .i64 we) := hq4.cellv 5 rfl
      have f5 := hq4.frozen 5
      have ltd6 := hq4.lt
      have kw2 : IntKind.i64.wrap (we + 1) = we + 1 := IntWalk.i64_in _ (by omega)
      obtain ⟨hq7, hg7⟩ := blk_store hq4 5 (.int .i64 (we + 1))
      replace hq7 : Blk (w6.setCell ⟨d, 5, none⟩ (.int .i64 (we + 1))) d 191 (rfC ro idl now (some ⟨bb, off, none⟩) n c (ca + 1) (we + 1)) := hq7
      replace hq7 := Lib.hid hq7
      replace hg7 := Lib.hid hg7
      go_upto_region 11 with (fail)
      have hC7 : Chg w6 (w6.setCell ⟨d, 5, none⟩ (.int .i64 (we + 1))) (fun b => b = d) := Chg.of_grown hg7.out rfl
      replace hf := hC7.blk hf (by omega)
      replace h8 := hC7.blk h8 (by omega)
      replace h106 := hC7.blk h106 (by omega)
      replace hS4 := hC7.seen hS4 fun b q => ⟨Nat.lt_of_lt_of_le q.2 (Nat.le_trans hB.size (Nat.le_trans hC4.size hC6.size)), fun e => hXd (e ▸ q.1)⟩
      have hCw := (((Chg.of_below (X := fun b => b = d) hB).trans hC4 fun _ _ q => q).trans hC6 fun b q e => by omega).trans hC7 fun _ _ q => q
      clear hg6 hg7 f5 c5 hq4 hC6 ltd6
      generalize w6.setCell ⟨d, 5, none⟩ (.int .i64 (we + 1)) = w7 at *
      have h7 : RefF w7 X d ro idl now (N + 1) E := ⟨_, n, c, ca + 1, we + 1, hnc, hcm, ⟨by omega, by omega⟩, ⟨by omega, by omega⟩, hq7.out, hS4.more fun b q => ⟨q.1, Nat.lt_of_lt_of_le q.2 hCw.size⟩⟩
      have hX7 : ∀ b, w7.heap.size ≤ b → X b := fun b q => hX b (Nat.le_trans hCw.size q)
      clear hq7 hS4 hca hwe hnc hcm
      go_upto_region 12 with (go_at_call 122; refine (rfOut w7 X d ro idl now (N + 1) E h7 0 (by omega) (by omega) hX7).mono ?_; rintro e wk ⟨rfl, h4, hC8⟩)
      replace hf := hC8.blk hf (by omega)
      replace h8 := hC8.blk h8 (by omega)
      replace h10 := hC8.blk h106 (by omega)
      replace hCw := hCw.trans hC8 fun _ _ q => q
      clear h7 h106 hC8 hX7 hC4
      have hE4 : (E.eraseIdx 0).length ≤ 100000 := by (try simp only [List.length_eraseIdx]); (try split) <;> omega
      obtain ⟨A, n, c, ca, we, hnc, hcm, hca, hwe, hq, hS⟩ := h4
      have hln := Lib.hid hS.1
      have hn9 : n ≤ 100000 := by have := hS.1; omega
      replace hE4 := Lib.hid hE4
      have c3 : wk.cell? ⟨d, 3, none⟩ = some (.slice A n c) := hq.cellv 3 rfl
      have ltd := hq.lt
      have ltf := hf.lt
      try refine wp_region_noPanic ?_
      have hs13r : (fun w' => Below wk.heap.size wk w') wk.drew := (Below.refl _ _).drew
      refine wp_region_E 15 (S := fun w' => Below wk.heap.size wk w') (by kernel_rfl) hs13r (fun _ => ?_)
      (refine e_takeA 0 (by rfl) ?_ (by kernel_rfl) (fun _ _ _ h => h) hs13r ?_ ?_; rotate_left; (focus (intro wq hSw; have hrd := hSw; have hrd2 := zR hSw; go_simp; try with_reducible rfl; done)); try simp only [Act.put, zA, zB, zC])
      (refine e_takeA 2 (by rfl) ?_ (by kernel_rfl) (fun _ _ _ h => h) hs13r ?_ ?_; rotate_left; (focus (intro wq hSw; have hrd := hSw; have hrd2 := zR hSw; go_simp; try with_reducible rfl; done)); try simp only [Act.put, zA, zB, zC])
      (refine e_takeA 3 (by rfl) ?_ (by kernel_rfl) (fun _ _ _ h => h) hs13r ?_ ?_; rotate_left; (focus (intro wq hSw; have hrd := hSw; have hrd2 := zR hSw; go_simp; try with_reducible rfl; done)); try simp only [Act.put, zA, zB, zC])
      (refine e_takeA 4 (by rfl) ?_ (by kernel_rfl) (fun _ _ _ h => h) hs13r ?_ ?_; rotate_left; (focus (intro wq hSw; have hrd := hSw; have hrd2 := zR hSw; go_simp; try with_reducible rfl; done)); try simp only [Act.put, zA, zB, zC])
      (refine e_takeA 5 (by rfl) ?_ (by kernel_rfl) (fun _ _ _ h => h) hs13r ?_ ?_; rotate_left; (focus (intro wq hSw; have hrd := hSw; have hrd2 := zR hSw; go_simp; try with_reducible rfl; done)); try simp only [Act.put, zA, zB, zC])
      (refine e_takeA 7 (by rfl) ?_ (by kernel_rfl) (fun _ _ _ h => h) hs13r ?_ ?_; rotate_left; (focus (intro wq hSw; refine exec_load_blk (x := .tmp 5) ?_ ?_ (hf.below hSw hf.lt) _ Tryz.underlying84 rfl (by kernel_rfl) <;> rfl)); simp only [Act.put, zA, zB, zC])
      (refine e_takeA 8 (by rfl) ?_ (by kernel_rfl) (fun _ _ _ h => h) hs13r ?_ ?_; rotate_left; (focus (intro wq hSw; have hrd := hSw; have hrd2 := zR hSw; go_simp; try with_reducible rfl; done)); try simp only [Act.put, zA, zB, zC])
      (refine e_takeA 9 (by rfl) ?_ (by kernel_rfl) (fun _ _ _ h => h) hs13r ?_ ?_; rotate_left; (focus (intro wq hSw; have hrd := hSw; have hrd2 := zR hSw; go_simp; try with_reducible rfl; done)); try simp only [Act.put, zA, zB, zC])
      (refine e_takeA 10 (by rfl) ?_ (by kernel_rfl) (fun _ _ _ h => h) hs13r ?_ ?_; rotate_left; (focus (intro wq hSw; have hrd := hSw; have hrd2 := zR hSw; go_simp; try with_reducible rfl; done)); try simp only [Act.put, zA, zB, zC])
      refine e_two 1 11 (by rfl) (by rfl) (by kernel_rfl) (by rfl) (by rfl) (fun KQ hKQ => ?_) (fun KQ hKQ => ?_)
      · skip
        have hbs : Below wk.heap.size wk wk.drew := (Below.refl _ _).drew
        skip
        go_simp
        have hd : (wk.alloc (.cells #[] 89)).drew = wk.drew.alloc (.cells #[] 89) := rfl
        try rw [hd]
        have hbs' := hbs.alloc hbs.size (.cells #[] 89)
        have hv : Rows enK (wk.drew.alloc (.cells #[] 89)) wk.heap.size wk.heap.size 89 (.slice (some ⟨wk.drew.heap.size, 0, none⟩) 0 0) [] := (en_lit wk.drew).less hbs.size hbs.size
        generalize wk.drew.alloc (.cells #[] 89) = wa at *
        clear hd
        have hs14r := hbs'
        refine hKQ.out _ _ hs14r ?_
        clear hKQ KQ
        try simp only [Act.put, zA, zB, zC]
        refine e_two 6 11 (by rfl) (by rfl) (by kernel_rfl) (by rfl) (by rfl) (fun KQ hKQ => ?_) (fun KQ hKQ => ?_)
        · skip
          have hSa := hS.below hbs' fun b q => q.2
          skip
          refine wp_rows en_ok29 (.tmp 57) (.tmp 61) (by rfl) hv (by rfl) (by rfl) hSa (fun _ _ => trivial) (by unfold maxLen; simp; omega) (by simp; omega) hbs'.size ?_
          intro vwb wb hvwb hgwb
          rw [List.nil_append] at hvwb
          have hbb := hv.below_app hgwb hbs'.size
          have hbs'' := hbs'.trans hbb
          have hv := hvwb
          have hs15r := hbs''
          refine hKQ.out _ _ hs15r ?_
          clear hKQ KQ
          try simp only [Act.put, zA, zB, zC]
          refine e_callA 11 (by rfl) (by kernel_rfl) (by rfl) (fun KQ hKQ => ?_)
          go_simp
          have hbs''' := hbs''.alloc hbs''.size (.cells #[.int .i64 f.pr, .int .u32 f.src, .int .u32 f.dst, .int .i64 f.sp, .int .i64 f.dp, .int .i64 b, .int .i64 now] 89)
          obtain ⟨LB, hLB⟩ : ∃ LB, LB = wb.heap.size := ⟨_, rfl⟩
          have hseen : Seen enK (wb.alloc (.cells #[.int .i64 f.pr, .int .u32 f.src, .int .u32 f.dst, .int .i64 f.sp, .int .i64 f.dp, .int .i64 b, .int .i64 now] 89)) (fun b => b = LB) (some ⟨LB, 0, none⟩) 1 [(⟨f, b, now⟩ : EnV)] := by
            rw [hLB]
            exact seen_one (R := enK) (S := fun _ => False) (S' := fun b => b = wb.heap.size) wb 89 (⟨f, b, now⟩ : EnV) #[.int .i64 f.pr, .int .u32 f.src, .int .u32 f.dst, .int .i64 f.sp, .int .i64 f.dp, .int .i64 b, .int .i64 now] rfl trivial (fun _ h => h.elim) rfl (fun _ h => h.elim)
          have hlitlt : LB < (wb.alloc (.cells #[.int .i64 f.pr, .int .u32 f.src, .int .u32 f.dst, .int .i64 f.sp, .int .i64 f.dp, .int .i64 b, .int .i64 now] 89)).heap.size := by
            rw [hLB]
            show wb.heap.size < _
            simp
          have hapart := fun (e : _ = some LB) => (absurd (hv.own LB e).2 (by rw [hLB]; exact Nat.lt_irrefl _) : False)
          have hv := hv.alloc (.cells #[.int .i64 f.pr, .int .u32 f.src, .int .u32 f.dst, .int .i64 f.sp, .int .i64 f.dp, .int .i64 b, .int .i64 now] 89)
          generalize wb.alloc (.cells #[.int .i64 f.pr, .int .u32 f.src, .int .u32 f.dst, .int .i64 f.sp, .int .i64 f.dp, .int .i64 b, .int .i64 now] 89) = wc at *
          try rw [← hLB]
          clear hLB 
          have hs16r := hbs'''
          refine hKQ.out _ _ hs16r ?_
          clear hKQ KQ
          try simp only [Act.put, zA, zB, zC]
          refine e_callA 12 (by rfl) (by kernel_rfl) (by rfl) (fun KQ hKQ => ?_)
          refine wp_rows en_ok29 (.tmp 62) (.tmp 67) (by rfl) hv (by rfl) (by rfl) hseen (fun _ _ => trivial) (by unfold maxLen; rw [hln.out]; omega) (by rw [hln.out]; omega) hbs'''.size ?_
          intro v8 w8 hv8 hg8
          have hb8 := hbs'''.trans (hv.below_app hg8 hbs'''.size)
          rw [← hcut.out] at hv8
          obtain ⟨A9, c9, e9, hc9, hcm9, hS9⟩ := hv8.seen (Nat.le_refl _)
          have e99 : cutE ro E f ++ [⟨f, b, now⟩] = putE ro E f b now := rfl
          rw [e99] at e9 hc9 hS9
          subst e9
          have hq9 := hq.below hb8 ltd
          have g9 := hq9.frozen 3
          have hz9 := hb8.size
          have ltg9 : d < w8.heap.size := hq9.lt
          have c9' : w8.cell? ⟨d, 3, none⟩ = some (.slice A n c) := hq9.cellv 3 rfl
          have hs17r := hb8
          refine hKQ.out _ _ hs17r ?_
          clear hKQ KQ
          try simp only [Act.put, zA, zB, zC]
          (refine e_takeA 13 (by rfl) ?_ (by kernel_rfl) (fun _ _ _ h => h) hs17r ?_ ?_; rotate_left; (focus (intro wq hSw; have hrd := hSw; have hrd2 := zR hSw; go_simp; try with_reducible rfl; done)); try simp only [Act.put, zA, zB, zC])
          (refine e_takeA 14 (by rfl) ?_ (by kernel_rfl) (fun _ _ _ h => h) hs17r ?_ ?_; rotate_left; (focus (intro wq hSw; have hrd := hSw; have hrd2 := zR hSw; go_simp; try with_reducible rfl; done)); try simp only [Act.put, zA, zB, zC])
          refine e_last (by rfl) (by kernel_rfl) (by rfl) (fun KQ hKQ => ?_)
          go_simp
          obtain ⟨hq6, hg6⟩ := blk_store hq9 3 (.slice A9 (putE ro E f b now).length c9)
          replace hq6 : Blk (w8.setCell ⟨d, 3, none⟩ (.slice A9 (putE ro E f b now).length c9)) d 191 (rfC ro idl now A9 (putE ro E f b now).length c9 ca we) := hq6
          have hS6 := hS9.grown hg6 fun b q => ⟨q.2, fun e => by injection e with e; omega⟩
          have hC6 := hCw.trans ((Chg.of_below (X := fun b => b = d) hb8).trans (Chg.of_grown (X := fun b => b = d) hg6 rfl) fun _ _ q => q) fun _ _ q => q
          have h86 := (h8.below hb8 h8.lt).grown hg6 (fun e => by injection e with e; omega)
          have h106 := (h10.below hb8 h10.lt).grown hg6 (fun e => by injection e with e; omega)
          generalize w8.setCell ⟨d, 3, none⟩ (.slice A9 (putE ro E f b now).length c9) = w6 at *
          refine hKQ.out _ _ ?_
          clear hKQ KQ
          try simp only [Act.put]
          refine e_done (by kernel_rfl) ?_ _
          try refine NoPanic.normal ?_
          have hl8 := h8.lt
          have hd8 : d ≠ (w.heap.size + 1) := by have := hlt0; omega
          have hS6z : wk.heap.size ≤ w6.heap.size := Nat.le_trans hz9 hg6.size
          replace hq6 := Lib.hid hq6
          replace hS6 := Lib.hid (hS6.more (S' := fun b => wk.heap.size ≤ b ∧ b < w6.heap.size) fun b q => ⟨q.1, Nat.lt_of_lt_of_le q.2 hg6.size⟩)
          clear hq9 hS9 c9' g9 hv8
          have z0 : w6.cell? ⟨(w.heap.size + 1 + 1), 0, none⟩ = some (.int .i64 x.fl.pr) := h106.cellv 0 rfl
          have z1 : w6.cell? ⟨(w.heap.size + 1 + 1), 1, none⟩ = some (.int .u32 x.fl.src) := h106.cellv 1 rfl
          have z2 : w6.cell? ⟨(w.heap.size + 1 + 1), 2, none⟩ = some (.int .u32 x.fl.dst) := h106.cellv 2 rfl
          have z3 : w6.cell? ⟨(w.heap.size + 1 + 1), 3, none⟩ = some (.int .i64 x.fl.sp) := h106.cellv 3 rfl
          have z4 : w6.cell? ⟨(w.heap.size + 1 + 1), 4, none⟩ = some (.int .i64 x.fl.dp) := h106.cellv 4 rfl
          have z5 : w6.cell? ⟨(w.heap.size + 1 + 1), 5, none⟩ = some (.int .i64 x.be) := h106.cellv 5 rfl
          have z6 : w6.cell? ⟨(w.heap.size + 1 + 1), 6, none⟩ = some (.int .i64 x.la) := h106.cellv 6 rfl
          have lt10 := h106.lt
          go_wp2_with (refine wpList_store_blk rfl h86 89 (.tmp 8) (.tmp 71) rfl rfl rfl rfl got_entry29 (by simp [Value.oneCell']) ?_; intro w7 hq7 hg7)
          try rw [Exit.noGoto_ret]
          refine bodyPost_ret (results_ct rfl _ rfl (load_blk hq7 Tryz.underlying89 rfl got_entry29)) rfl ?_
          have hb7 : Chg w6 w7 (fun b => b = (w.heap.size + 1)) := Chg.of_grown hg7 rfl
          refine ⟨⟨_, _, rfl⟩, ⟨A9, _, c9, ca, we, hc9, hcm9, ⟨hca.1, by omega⟩, ⟨hwe.1, by omega⟩, hb7.blk hq6.out hd8, (hb7.seen hS6.out fun b q => ⟨q.2, fun e => by omega⟩).more fun b q => ⟨hX b (Nat.le_trans hCw.size q.1), Nat.lt_of_lt_of_le q.2 hb7.size⟩⟩, ?_⟩
          exact hC6.trans hb7 (fun b q e => by omega)
        · skip
          go_simp
          have hbs'' := hbs'.alloc hbs'.size (.cells #[.int .i64 f.pr, .int .u32 f.src, .int .u32 f.dst, .int .i64 f.sp, .int .i64 f.dp, .int .i64 b, .int .i64 now] 89)
          obtain ⟨LB, hLB⟩ : ∃ LB, LB = wa.heap.size := ⟨_, rfl⟩
          have hseen : Seen enK (wa.alloc (.cells #[.int .i64 f.pr, .int .u32 f.src, .int .u32 f.dst, .int .i64 f.sp, .int .i64 f.dp, .int .i64 b, .int .i64 now] 89)) (fun b => b = LB) (some ⟨LB, 0, none⟩) 1 [(⟨f, b, now⟩ : EnV)] := by
            rw [hLB]
            exact seen_one (R := enK) (S := fun _ => False) (S' := fun b => b = wa.heap.size) wa 89 (⟨f, b, now⟩ : EnV) #[.int .i64 f.pr, .int .u32 f.src, .int .u32 f.dst, .int .i64 f.sp, .int .i64 f.dp, .int .i64 b, .int .i64 now] rfl trivial (fun _ h => h.elim) rfl (fun _ h => h.elim)
          have hlitlt : LB < (wa.alloc (.cells #[.int .i64 f.pr, .int .u32 f.src, .int .u32 f.dst, .int .i64 f.sp, .int .i64 f.dp, .int .i64 b, .int .i64 now] 89)).heap.size := by
            rw [hLB]
            show wa.heap.size < _
            simp
          have hapart := fun (e : _ = some LB) => (absurd (hv.own LB e).2 (by rw [hLB]; exact Nat.lt_irrefl _) : False)
          have hv := hv.alloc (.cells #[.int .i64 f.pr, .int .u32 f.src, .int .u32 f.dst, .int .i64 f.sp, .int .i64 f.dp, .int .i64 b, .int .i64 now] 89)
          generalize wa.alloc (.cells #[.int .i64 f.pr, .int .u32 f.src, .int .u32 f.dst, .int .i64 f.sp, .int .i64 f.dp, .int .i64 b, .int .i64 now] 89) = wb at *
          try rw [← hLB]
          clear hLB
          have hs18r := hbs''
          refine hKQ.out _ _ hs18r ?_
          clear hKQ KQ
          try simp only [Act.put, zA, zB, zC]
          have hSa := hS.below hbs'' fun b q => q.2
          refine e_callA 6 (by rfl) (by kernel_rfl) (by rfl) (fun KQ hKQ => ?_)
          refine wp_rows en_ok29 (.tmp 57) (.tmp 61) (by rfl) hv (by rfl) (by rfl) hSa (fun _ _ => trivial) (by unfold maxLen; simp; omega) (by simp; omega) hbs''.size ?_
          intro vwc wc hvwc hgwc
          rw [List.nil_append] at hvwc
          have hbb := hv.below_app hgwc hbs''.size
          have hseen := hseen.grown hgwc (fun b q => ⟨by rw [q]; exact hlitlt, by rw [q]; intro e; exact hapart e⟩)
          have hlitlt := Nat.lt_of_lt_of_le hlitlt hbb.size
          have hbs''' := hbs''.trans hbb
          have hv := hvwc
          have hs19r := hbs'''
          refine hKQ.out _ _ hs19r ?_
          clear hKQ KQ
          try simp only [Act.put, zA, zB, zC]
          refine e_callA 12 (by rfl) (by kernel_rfl) (by rfl) (fun KQ hKQ => ?_)
          refine wp_rows en_ok29 (.tmp 62) (.tmp 67) (by rfl) hv (by rfl) (by rfl) hseen (fun _ _ => trivial) (by unfold maxLen; rw [hln.out]; omega) (by rw [hln.out]; omega) hbs'''.size ?_
          intro v8 w8 hv8 hg8
          have hb8 := hbs'''.trans (hv.below_app hg8 hbs'''.size)
          rw [← hcut.out] at hv8
          obtain ⟨A9, c9, e9, hc9, hcm9, hS9⟩ := hv8.seen (Nat.le_refl _)
          have e99 : cutE ro E f ++ [⟨f, b, now⟩] = putE ro E f b now := rfl
          rw [e99] at e9 hc9 hS9
          subst e9
          have hq9 := hq.below hb8 ltd
          have g9 := hq9.frozen 3
          have hz9 := hb8.size
          have ltg9 : d < w8.heap.size := hq9.lt
          have c9' : w8.cell? ⟨d, 3, none⟩ = some (.slice A n c) := hq9.cellv 3 rfl
          have hs20r := hb8
          refine hKQ.out _ _ hs20r ?_
          clear hKQ KQ
          try simp only [Act.put, zA, zB, zC]
          (refine e_takeA 13 (by rfl) ?_ (by kernel_rfl) (fun _ _ _ h => h) hs20r ?_ ?_; rotate_left; (focus (intro wq hSw; have hrd := hSw; have hrd2 := zR hSw; go_simp; try with_reducible rfl; done)); try simp only [Act.put, zA, zB, zC])
          (refine e_takeA 14 (by rfl) ?_ (by kernel_rfl) (fun _ _ _ h => h) hs20r ?_ ?_; rotate_left; (focus (intro wq hSw; have hrd := hSw; have hrd2 := zR hSw; go_simp; try with_reducible rfl; done)); try simp only [Act.put, zA, zB, zC])
          refine e_last (by rfl) (by kernel_rfl) (by rfl) (fun KQ hKQ => ?_)
          go_simp
          obtain ⟨hq6, hg6⟩ := blk_store hq9 3 (.slice A9 (putE ro E f b now).length c9)
          replace hq6 : Blk (w8.setCell ⟨d, 3, none⟩ (.slice A9 (putE ro E f b now).length c9)) d 191 (rfC ro idl now A9 (putE ro E f b now).length c9 ca we) := hq6
          have hS6 := hS9.grown hg6 fun b q => ⟨q.2, fun e => by injection e with e; omega⟩
          have hC6 := hCw.trans ((Chg.of_below (X := fun b => b = d) hb8).trans (Chg.of_grown (X := fun b => b = d) hg6 rfl) fun _ _ q => q) fun _ _ q => q
          have h86 := (h8.below hb8 h8.lt).grown hg6 (fun e => by injection e with e; omega)
          have h106 := (h10.below hb8 h10.lt).grown hg6 (fun e => by injection e with e; omega)
          generalize w8.setCell ⟨d, 3, none⟩ (.slice A9 (putE ro E f b now).length c9) = w6 at *
          refine hKQ.out _ _ ?_
          clear hKQ KQ
          try simp only [Act.put]
          refine e_done (by kernel_rfl) ?_ _
          try refine NoPanic.normal ?_
          have hl8 := h8.lt
          have hd8 : d ≠ (w.heap.size + 1) := by have := hlt0; omega
          have hS6z : wk.heap.size ≤ w6.heap.size := Nat.le_trans hz9 hg6.size
          replace hq6 := Lib.hid hq6
          replace hS6 := Lib.hid (hS6.more (S' := fun b => wk.heap.size ≤ b ∧ b < w6.heap.size) fun b q => ⟨q.1, Nat.lt_of_lt_of_le q.2 hg6.size⟩)
          clear hq9 hS9 c9' g9 hv8
          have z0 : w6.cell? ⟨(w.heap.size + 1 + 1), 0, none⟩ = some (.int .i64 x.fl.pr) := h106.cellv 0 rfl
          have z1 : w6.cell? ⟨(w.heap.size + 1 + 1), 1, none⟩ = some (.int .u32 x.fl.src) := h106.cellv 1 rfl
          have z2 : w6.cell? ⟨(w.heap.size + 1 + 1), 2, none⟩ = some (.int .u32 x.fl.dst) := h106.cellv 2 rfl
          have z3 : w6.cell? ⟨(w.heap.size + 1 + 1), 3, none⟩ = some (.int .i64 x.fl.sp) := h106.cellv 3 rfl
          have z4 : w6.cell? ⟨(w.heap.size + 1 + 1), 4, none⟩ = some (.int .i64 x.fl.dp) := h106.cellv 4 rfl
          have z5 : w6.cell? ⟨(w.heap.size + 1 + 1), 5, none⟩ = some (.int .i64 x.be) := h106.cellv 5 rfl
          have z6 : w6.cell? ⟨(w.heap.size + 1 + 1), 6, none⟩ = some (.int .i64 x.la) := h106.cellv 6 rfl
          have lt10 := h106.lt
          go_wp2_with (refine wpList_store_blk rfl h86 89 (.tmp 8) (.tmp 71) rfl rfl rfl rfl got_entry29 (by simp [Value.oneCell']) ?_; intro w7 hq7 hg7)
          try rw [Exit.noGoto_ret]
          refine bodyPost_ret (results_ct rfl _ rfl (load_blk hq7 Tryz.underlying89 rfl got_entry29)) rfl ?_
          have hb7 : Chg w6 w7 (fun b => b = (w.heap.size + 1)) := Chg.of_grown hg7 rfl
          refine ⟨⟨_, _, rfl⟩, ⟨A9, _, c9, ca, we, hc9, hcm9, ⟨hca.1, by omega⟩, ⟨hwe.1, by omega⟩, hb7.blk hq6.out hd8, (hb7.seen hS6.out fun b q => ⟨q.2, fun e => by omega⟩).more fun b q => ⟨hX b (Nat.le_trans hCw.size q.1), Nat.lt_of_lt_of_le q.2 hb7.size⟩⟩, ?_⟩
          exact hC6.trans hb7 (fun b q e => by omega)
      · skip
        have hbs : Below wk.heap.size wk wk.drew := (Below.refl _ _).drew
        skip
        go_simp
        have hd : (wk.alloc (.cells #[.int .i64 f.pr, .int .u32 f.src, .int .u32 f.dst, .int .i64 f.sp, .int .i64 f.dp, .int .i64 b, .int .i64 now] 89)).drew = wk.drew.alloc (.cells #[.int .i64 f.pr, .int .u32 f.src, .int .u32 f.dst, .int .i64 f.sp, .int .i64 f.dp, .int .i64 b, .int .i64 now] 89) := rfl
        try rw [hd]
        have hbs' := hbs.alloc hbs.size (.cells #[.int .i64 f.pr, .int .u32 f.src, .int .u32 f.dst, .int .i64 f.sp, .int .i64 f.dp, .int .i64 b, .int .i64 now] 89)
        obtain ⟨LB, hLB⟩ : ∃ LB, LB = wk.heap.size := ⟨_, rfl⟩
        have hseen : Seen enK (wk.drew.alloc (.cells #[.int .i64 f.pr, .int .u32 f.src, .int .u32 f.dst, .int .i64 f.sp, .int .i64 f.dp, .int .i64 b, .int .i64 now] 89)) (fun b => b = LB) (some ⟨LB, 0, none⟩) 1 [(⟨f, b, now⟩ : EnV)] := by
          rw [hLB]
          exact seen_one (R := enK) (S := fun _ => False) (S' := fun b => b = wk.heap.size) wk.drew 89 (⟨f, b, now⟩ : EnV) #[.int .i64 f.pr, .int .u32 f.src, .int .u32 f.dst, .int .i64 f.sp, .int .i64 f.dp, .int .i64 b, .int .i64 now] rfl trivial (fun _ h => h.elim) rfl (fun _ h => h.elim)
        have hlitlt : LB < (wk.drew.alloc (.cells #[.int .i64 f.pr, .int .u32 f.src, .int .u32 f.dst, .int .i64 f.sp, .int .i64 f.dp, .int .i64 b, .int .i64 now] 89)).heap.size := by
          rw [hLB]
          show wk.drew.heap.size < _
          simp
        generalize wk.drew.alloc (.cells #[.int .i64 f.pr, .int .u32 f.src, .int .u32 f.dst, .int .i64 f.sp, .int .i64 f.dp, .int .i64 b, .int .i64 now] 89) = wa at *
        try rw [← hLB]
        clear hLB hd
        have hs21r := hbs'
        refine hKQ.out _ _ hs21r ?_
        clear hKQ KQ
        try simp only [Act.put, zA, zB, zC]
        refine e_callA 1 (by rfl) (by kernel_rfl) (by rfl) (fun KQ hKQ => ?_)
        go_simp
        have hbs'' := hbs'.alloc hbs'.size (.cells #[] 89)
        have hv : Rows enK (wa.alloc (.cells #[] 89)) wk.heap.size wk.heap.size 89 (.slice (some ⟨wa.heap.size, 0, none⟩) 0 0) [] := (en_lit wa).less hbs'.size hbs'.size
        have hseen := hseen.below (w' := wa.alloc (.cells #[] 89)) ((Below.refl _ _).alloc (Nat.le_refl _) _) (fun b q => by rw [q]; exact hlitlt)
        have hlitlt2 : LB < (wa.alloc (.cells #[] 89)).heap.size := Nat.lt_of_lt_of_le hlitlt (by simp)
        have hapart : (Value.slice (some ⟨wa.heap.size, 0, none⟩) 0 0).ownBlock = some LB → False := fun e => by (have e2 : some wa.heap.size = some LB := e); injection e2 with e2; omega
        generalize wa.alloc (.cells #[] 89) = wb at *
        replace hlitlt := hlitlt2
        have hs22r := hbs''
        refine hKQ.out _ _ hs22r ?_
        clear hKQ KQ
        try simp only [Act.put, zA, zB, zC]
        have hSa := hS.below hbs'' fun b q => q.2
        refine e_callA 6 (by rfl) (by kernel_rfl) (by rfl) (fun KQ hKQ => ?_)
        refine wp_rows en_ok29 (.tmp 57) (.tmp 61) (by rfl) hv (by rfl) (by rfl) hSa (fun _ _ => trivial) (by unfold maxLen; simp; omega) (by simp; omega) hbs''.size ?_
        intro vwc wc hvwc hgwc
        rw [List.nil_append] at hvwc
        have hbb := hv.below_app hgwc hbs''.size
        have hseen := hseen.grown hgwc (fun b q => ⟨by rw [q]; exact hlitlt, by rw [q]; intro e; exact hapart e⟩)
        have hlitlt := Nat.lt_of_lt_of_le hlitlt hbb.size
        have hbs''' := hbs''.trans hbb
        have hv := hvwc
        have hs23r := hbs'''
        refine hKQ.out _ _ hs23r ?_
        clear hKQ KQ
        try simp only [Act.put, zA, zB, zC]
        refine e_callA 12 (by rfl) (by kernel_rfl) (by rfl) (fun KQ hKQ => ?_)
        refine wp_rows en_ok29 (.tmp 62) (.tmp 67) (by rfl) hv (by rfl) (by rfl) hseen (fun _ _ => trivial) (by unfold maxLen; rw [hln.out]; omega) (by rw [hln.out]; omega) hbs'''.size ?_
        intro v8 w8 hv8 hg8
        have hb8 := hbs'''.trans (hv.below_app hg8 hbs'''.size)
        rw [← hcut.out] at hv8
        obtain ⟨A9, c9, e9, hc9, hcm9, hS9⟩ := hv8.seen (Nat.le_refl _)
        have e99 : cutE ro E f ++ [⟨f, b, now⟩] = putE ro E f b now := rfl
        rw [e99] at e9 hc9 hS9
        subst e9
        have hq9 := hq.below hb8 ltd
        have g9 := hq9.frozen 3
        have hz9 := hb8.size
        have ltg9 : d < w8.heap.size := hq9.lt
        have c9' : w8.cell? ⟨d, 3, none⟩ = some (.slice A n c) := hq9.cellv 3 rfl
        have hs24r := hb8
        refine hKQ.out _ _ hs24r ?_
        clear hKQ KQ
        try simp only [Act.put, zA, zB, zC]
        (refine e_takeA 13 (by rfl) ?_ (by kernel_rfl) (fun _ _ _ h => h) hs24r ?_ ?_; rotate_left; (focus (intro wq hSw; have hrd := hSw; have hrd2 := zR hSw; go_simp; try with_reducible rfl; done)); try simp only [Act.put, zA, zB, zC])
        (refine e_takeA 14 (by rfl) ?_ (by kernel_rfl) (fun _ _ _ h => h) hs24r ?_ ?_; rotate_left; (focus (intro wq hSw; have hrd := hSw; have hrd2 := zR hSw; go_simp; try with_reducible rfl; done)); try simp only [Act.put, zA, zB, zC])
        refine e_last (by rfl) (by kernel_rfl) (by rfl) (fun KQ hKQ => ?_)
        go_simp
        obtain ⟨hq6, hg6⟩ := blk_store hq9 3 (.slice A9 (putE ro E f b now).length c9)
        replace hq6 : Blk (w8.setCell ⟨d, 3, none⟩ (.slice A9 (putE ro E f b now).length c9)) d 191 (rfC ro idl now A9 (putE ro E f b now).length c9 ca we) := hq6
        have hS6 := hS9.grown hg6 fun b q => ⟨q.2, fun e => by injection e with e; omega⟩
        have hC6 := hCw.trans ((Chg.of_below (X := fun b => b = d) hb8).trans (Chg.of_grown (X := fun b => b = d) hg6 rfl) fun _ _ q => q) fun _ _ q => q
        have h86 := (h8.below hb8 h8.lt).grown hg6 (fun e => by injection e with e; omega)
        have h106 := (h10.below hb8 h10.lt).grown hg6 (fun e => by injection e with e; omega)
        generalize w8.setCell ⟨d, 3, none⟩ (.slice A9 (putE ro E f b now).length c9) = w6 at *
        refine hKQ.out _ _ ?_
        clear hKQ KQ
        try simp only [Act.put]
        refine e_done (by kernel_rfl) ?_ _
        try refine NoPanic.normal ?_
        have hl8 := h8.lt
        have hd8 : d ≠ (w.heap.size + 1) := by have := hlt0; omega
        have hS6z : wk.heap.size ≤ w6.heap.size := Nat.le_trans hz9 hg6.size
        replace hq6 := Lib.hid hq6
        replace hS6 := Lib.hid (hS6.more (S' := fun b => wk.heap.size ≤ b ∧ b < w6.heap.size) fun b q => ⟨q.1, Nat.lt_of_lt_of_le q.2 hg6.size⟩)
        clear hq9 hS9 c9' g9 hv8
        have z0 : w6.cell? ⟨(w.heap.size + 1 + 1), 0, none⟩ = some (.int .i64 x.fl.pr) := h106.cellv 0 rfl
        have z1 : w6.cell? ⟨(w.heap.size + 1 + 1), 1, none⟩ = some (.int .u32 x.fl.src) := h106.cellv 1 rfl
        have z2 : w6.cell? ⟨(w.heap.size + 1 + 1), 2, none⟩ = some (.int .u32 x.fl.dst) := h106.cellv 2 rfl
        have z3 : w6.cell? ⟨(w.heap.size + 1 + 1), 3, none⟩ = some (.int .i64 x.fl.sp) := h106.cellv 3 rfl
        have z4 : w6.cell? ⟨(w.heap.size + 1 + 1), 4, none⟩ = some (.int .i64 x.fl.dp) := h106.cellv 4 rfl
        have z5 : w6.cell? ⟨(w.heap.size + 1 + 1), 5, none⟩ = some (.int .i64 x.be) := h106.cellv 5 rfl
        have z6 : w6.cell? ⟨(w.heap.size + 1 + 1), 6, none⟩ = some (.int .i64 x.la) := h106.cellv 6 rfl
        have lt10 := h106.lt
        go_wp2_with (refine wpList_store_blk rfl h86 89 (.tmp 8) (.tmp 71) rfl rfl rfl rfl got_entry29 (by simp [Value.oneCell']) ?_; intro w7 hq7 hg7)
        try rw [Exit.noGoto_ret]
        refine bodyPost_ret (results_ct rfl _ rfl (load_blk hq7 Tryz.underlying89 rfl got_entry29)) rfl ?_
        have hb7 : Chg w6 w7 (fun b => b = (w.heap.size + 1)) := Chg.of_grown hg7 rfl
        refine ⟨⟨_, _, rfl⟩, ⟨A9, _, c9, ca, we, hc9, hcm9, ⟨hca.1, by omega⟩, ⟨hwe.1, by omega⟩, hb7.blk hq6.out hd8, (hb7.seen hS6.out fun b q => ⟨q.2, fun e => by omega⟩).more fun b q => ⟨hX b (Nat.le_trans hCw.size q.1), Nat.lt_of_lt_of_le q.2 hb7.size⟩⟩, ?_⟩
        exact hC6.trans hb7 (fun b q e => by omega)
    · have d1 : decide (ro ≤ (n : Int)) = false := by simpa using hroom
      have hcut : cutE ro E f = E := by unfold cutE; rw [hfi, hln]; simp [hroom]
      replace hcut := Lib.hid hcut
      clear hfi hz
      have h4 : RefF w4 X d ro idl now (N + 1) E := ⟨A, n, c, ca + 1, we, hnc, hcm, ⟨by omega, by omega⟩, ⟨hwe.1, by omega⟩, hq4, hS4.more fun b q => ⟨q.1, Nat.lt_of_lt_of_le q.2 (Nat.le_trans hB.size hC4.size)⟩⟩
      go_region
      clear c3 c0 lt4 hq4 hS4 hca hwe hnc hcm
      replace hf : Blk w4.drew _ _ _ := hf
      replace h8 : Blk w4.drew _ _ _ := h8
      replace h10 : Blk w4.drew _ _ _ := h10
      replace h4 := h4.nx (Below.refl _ _).drew
      replace hC4 := hC4.trans (Chg.of_below (X := fun _ => False) (Below.refl _ _).drew) (fun _ _ q => q.elim)
      clear ltd
      generalize w4.drew = w5 at *
      go_upto_region 12 with (fail)
      have hCw := (Chg.of_below (X := fun b => b = d) hB).trans hC4 fun _ _ q => q
      have hE4 : (E).length ≤ 100000 := by (try simp only [List.length_eraseIdx]); (try split) <;> omega
      obtain ⟨A, n, c, ca, we, hnc, hcm, hca, hwe, hq, hS⟩ := h4
      have hln := Lib.hid hS.1
      have hn9 : n ≤ 100000 := by have := hS.1; omega
      replace hE4 := Lib.hid hE4
      have c3 : w5.cell? ⟨d, 3, none⟩ = some (.slice A n c) := hq.cellv 3 rfl
      have ltd := hq.lt
      have ltf := hf.lt
      try refine wp_region_noPanic ?_
      have hs25r : (fun w' => Below w5.heap.size w5 w') w5.drew := (Below.refl _ _).drew
      refine wp_region_E 15 (S := fun w' => Below w5.heap.size w5 w') (by kernel_rfl) hs25r (fun _ => ?_)
      (refine e_takeA 0 (by rfl) ?_ (by kernel_rfl) (fun _ _ _ h => h) hs25r ?_ ?_; rotate_left; (focus (intro wq hSw; have hrd := hSw; have hrd2 := zR hSw; go_simp; try with_reducible rfl; done)); try simp only [Act.put, zA, zB, zC])
      (refine e_takeA 2 (by rfl) ?_ (by kernel_rfl) (fun _ _ _ h => h) hs25r ?_ ?_; rotate_left; (focus (intro wq hSw; have hrd := hSw; have hrd2 := zR hSw; go_simp; try with_reducible rfl; done)); try simp only [Act.put, zA, zB, zC])
      (refine e_takeA 3 (by rfl) ?_ (by kernel_rfl) (fun _ _ _ h => h) hs25r ?_ ?_; rotate_left; (focus (intro wq hSw; have hrd := hSw; have hrd2 := zR hSw; go_simp; try with_reducible rfl; done)); try simp only [Act.put, zA, zB, zC])
      (refine e_takeA 4 (by rfl) ?_ (by kernel_rfl) (fun _ _ _ h => h) hs25r ?_ ?_; rotate_left; (focus (intro wq hSw; have hrd := hSw; have hrd2 := zR hSw; go_simp; try with_reducible rfl; done)); try simp only [Act.put, zA, zB, zC])
      (refine e_takeA 5 (by rfl) ?_ (by kernel_rfl) (fun _ _ _ h => h) hs25r ?_ ?_; rotate_left; (focus (intro wq hSw; have hrd := hSw; have hrd2 := zR hSw; go_simp; try with_reducible rfl; done)); try simp only [Act.put, zA, zB, zC])
      (refine e_takeA 7 (by rfl) ?_ (by kernel_rfl) (fun _ _ _ h => h) hs25r ?_ ?_; rotate_left; (focus (intro wq hSw; refine exec_load_blk (x := .tmp 5) ?_ ?_ (hf.below hSw hf.lt) _ Tryz.underlying84 rfl (by kernel_rfl) <;> rfl)); simp only [Act.put, zA, zB, zC])
      (refine e_takeA 8 (by rfl) ?_ (by kernel_rfl) (fun _ _ _ h => h) hs25r ?_ ?_; rotate_left; (focus (intro wq hSw; have hrd := hSw; have hrd2 := zR hSw; go_simp; try with_reducible rfl; done)); try simp only [Act.put, zA, zB, zC])
      (refine e_takeA 9 (by rfl) ?_ (by kernel_rfl) (fun _ _ _ h => h) hs25r ?_ ?_; rotate_left; (focus (intro wq hSw; have hrd := hSw; have hrd2 := zR hSw; go_simp; try with_reducible rfl; done)); try simp only [Act.put, zA, zB, zC])
      (refine e_takeA 10 (by rfl) ?_ (by kernel_rfl) (fun _ _ _ h => h) hs25r ?_ ?_; rotate_left; (focus (intro wq hSw; have hrd := hSw; have hrd2 := zR hSw; go_simp; try with_reducible rfl; done)); try simp only [Act.put, zA, zB, zC])
      refine e_two 1 11 (by rfl) (by rfl) (by kernel_rfl) (by rfl) (by rfl) (fun KQ hKQ => ?_) (fun KQ hKQ => ?_)
      · skip
        have hbs : Below w5.heap.size w5 w5.drew := (Below.refl _ _).drew
        skip
        go_simp
        have hd : (w5.alloc (.cells #[] 89)).drew = w5.drew.alloc (.cells #[] 89) := rfl
        try rw [hd]
        have hbs' := hbs.alloc hbs.size (.cells #[] 89)
        have hv : Rows enK (w5.drew.alloc (.cells #[] 89)) w5.heap.size w5.heap.size 89 (.slice (some ⟨w5.drew.heap.size, 0, none⟩) 0 0) [] := (en_lit w5.drew).less hbs.size hbs.size
        generalize w5.drew.alloc (.cells #[] 89) = wa at *
        clear hd
        have hs26r := hbs'
        refine hKQ.out _ _ hs26r ?_
        clear hKQ KQ
        try simp only [Act.put, zA, zB, zC]
        refine e_two 6 11 (by rfl) (by rfl) (by kernel_rfl) (by rfl) (by rfl) (fun KQ hKQ => ?_) (fun KQ hKQ => ?_)
        · skip
          have hSa := hS.below hbs' fun b q => q.2
          skip
          refine wp_rows en_ok29 (.tmp 57) (.tmp 61) (by rfl) hv (by rfl) (by rfl) hSa (fun _ _ => trivial) (by unfold maxLen; simp; omega) (by simp; omega) hbs'.size ?_
          intro vwb wb hvwb hgwb
          rw [List.nil_append] at hvwb
          have hbb := hv.below_app hgwb hbs'.size
          have hbs'' := hbs'.trans hbb
          have hv := hvwb
          have hs27r := hbs''
          refine hKQ.out _ _ hs27r ?_
          clear hKQ KQ
          try simp only [Act.put, zA, zB, zC]
          refine e_callA 11 (by rfl) (by kernel_rfl) (by rfl) (fun KQ hKQ => ?_)
          go_simp
          have hbs''' := hbs''.alloc hbs''.size (.cells #[.int .i64 f.pr, .int .u32 f.src, .int .u32 f.dst, .int .i64 f.sp, .int .i64 f.dp, .int .i64 b, .int .i64 now] 89)
          obtain ⟨LB, hLB⟩ : ∃ LB, LB = wb.heap.size := ⟨_, rfl⟩
          have hseen : Seen enK (wb.alloc (.cells #[.int .i64 f.pr, .int .u32 f.src, .int .u32 f.dst, .int .i64 f.sp, .int .i64 f.dp, .int .i64 b, .int .i64 now] 89)) (fun b => b = LB) (some ⟨LB, 0, none⟩) 1 [(⟨f, b, now⟩ : EnV)] := by
            rw [hLB]
            exact seen_one (R := enK) (S := fun _ => False) (S' := fun b => b = wb.heap.size) wb 89 (⟨f, b, now⟩ : EnV) #[.int .i64 f.pr, .int .u32 f.src, .int .u32 f.dst, .int .i64 f.sp, .int .i64 f.dp, .int .i64 b, .int .i64 now] rfl trivial (fun _ h => h.elim) rfl (fun _ h => h.elim)
          have hlitlt : LB < (wb.alloc (.cells #[.int .i64 f.pr, .int .u32 f.src, .int .u32 f.dst, .int .i64 f.sp, .int .i64 f.dp, .int .i64 b, .int .i64 now] 89)).heap.size := by
            rw [hLB]
            show wb.heap.size < _
            simp
          have hapart := fun (e : _ = some LB) => (absurd (hv.own LB e).2 (by rw [hLB]; exact Nat.lt_irrefl _) : False)
          have hv := hv.alloc (.cells #[.int .i64 f.pr, .int .u32 f.src, .int .u32 f.dst, .int .i64 f.sp, .int .i64 f.dp, .int .i64 b, .int .i64 now] 89)
          generalize wb.alloc (.cells #[.int .i64 f.pr, .int .u32 f.src, .int .u32 f.dst, .int .i64 f.sp, .int .i64 f.dp, .int .i64 b, .int .i64 now] 89) = wc at *
          try rw [← hLB]
          clear hLB 
          have hs28r := hbs'''
          refine hKQ.out _ _ hs28r ?_
          clear hKQ KQ
          try simp only [Act.put, zA, zB, zC]
          refine e_callA 12 (by rfl) (by kernel_rfl) (by rfl) (fun KQ hKQ => ?_)
          refine wp_rows en_ok29 (.tmp 62) (.tmp 67) (by rfl) hv (by rfl) (by rfl) hseen (fun _ _ => trivial) (by unfold maxLen; rw [hln.out]; omega) (by rw [hln.out]; omega) hbs'''.size ?_
          intro v8 w8 hv8 hg8
          have hb8 := hbs'''.trans (hv.below_app hg8 hbs'''.size)
          rw [← hcut.out] at hv8
          obtain ⟨A9, c9, e9, hc9, hcm9, hS9⟩ := hv8.seen (Nat.le_refl _)
          have e99 : cutE ro E f ++ [⟨f, b, now⟩] = putE ro E f b now := rfl
          rw [e99] at e9 hc9 hS9
          subst e9
          have hq9 := hq.below hb8 ltd
          have g9 := hq9.frozen 3
          have hz9 := hb8.size
          have ltg9 : d < w8.heap.size := hq9.lt
          have c9' : w8.cell? ⟨d, 3, none⟩ = some (.slice A n c) := hq9.cellv 3 rfl
          have hs29r := hb8
          refine hKQ.out _ _ hs29r ?_
          clear hKQ KQ
          try simp only [Act.put, zA, zB, zC]
          (refine e_takeA 13 (by rfl) ?_ (by kernel_rfl) (fun _ _ _ h => h) hs29r ?_ ?_; rotate_left; (focus (intro wq hSw; have hrd := hSw; have hrd2 := zR hSw; go_simp; try with_reducible rfl; done)); try simp only [Act.put, zA, zB, zC])
          (refine e_takeA 14 (by rfl) ?_ (by kernel_rfl) (fun _ _ _ h => h) hs29r ?_ ?_; rotate_left; (focus (intro wq hSw; have hrd := hSw; have hrd2 := zR hSw; go_simp; try with_reducible rfl; done)); try simp only [Act.put, zA, zB, zC])
          refine e_last (by rfl) (by kernel_rfl) (by rfl) (fun KQ hKQ => ?_)
          go_simp
          obtain ⟨hq6, hg6⟩ := blk_store hq9 3 (.slice A9 (putE ro E f b now).length c9)
          replace hq6 : Blk (w8.setCell ⟨d, 3, none⟩ (.slice A9 (putE ro E f b now).length c9)) d 191 (rfC ro idl now A9 (putE ro E f b now).length c9 ca we) := hq6
          have hS6 := hS9.grown hg6 fun b q => ⟨q.2, fun e => by injection e with e; omega⟩
          have hC6 := hCw.trans ((Chg.of_below (X := fun b => b = d) hb8).trans (Chg.of_grown (X := fun b => b = d) hg6 rfl) fun _ _ q => q) fun _ _ q => q
          have h86 := (h8.below hb8 h8.lt).grown hg6 (fun e => by injection e with e; omega)
          have h106 := (h10.below hb8 h10.lt).grown hg6 (fun e => by injection e with e; omega)
          generalize w8.setCell ⟨d, 3, none⟩ (.slice A9 (putE ro E f b now).length c9) = w6 at *
          refine hKQ.out _ _ ?_
          clear hKQ KQ
          try simp only [Act.put]
          refine e_done (by kernel_rfl) ?_ _
          try refine NoPanic.normal ?_
          have hl8 := h8.lt
          have hd8 : d ≠ (w.heap.size + 1) := by have := hlt0; omega
          have hS6z : w5.heap.size ≤ w6.heap.size := Nat.le_trans hz9 hg6.size
          replace hq6 := Lib.hid hq6
          replace hS6 := Lib.hid (hS6.more (S' := fun b => w5.heap.size ≤ b ∧ b < w6.heap.size) fun b q => ⟨q.1, Nat.lt_of_lt_of_le q.2 hg6.size⟩)
          clear hq9 hS9 c9' g9 hv8
          have z0 : w6.cell? ⟨(w.heap.size + 1 + 1), 0, none⟩ = some (.int .i64 0) := h106.cellv 0 rfl
          have z1 : w6.cell? ⟨(w.heap.size + 1 + 1), 1, none⟩ = some (.int .u32 0) := h106.cellv 1 rfl
          have z2 : w6.cell? ⟨(w.heap.size + 1 + 1), 2, none⟩ = some (.int .u32 0) := h106.cellv 2 rfl
          have z3 : w6.cell? ⟨(w.heap.size + 1 + 1), 3, none⟩ = some (.int .i64 0) := h106.cellv 3 rfl
          have z4 : w6.cell? ⟨(w.heap.size + 1 + 1), 4, none⟩ = some (.int .i64 0) := h106.cellv 4 rfl
          have z5 : w6.cell? ⟨(w.heap.size + 1 + 1), 5, none⟩ = some (.int .i64 0) := h106.cellv 5 rfl
          have z6 : w6.cell? ⟨(w.heap.size + 1 + 1), 6, none⟩ = some (.int .i64 0) := h106.cellv 6 rfl
          have lt10 := h106.lt
          go_wp2_with (refine wpList_store_blk rfl h86 89 (.tmp 8) (.tmp 71) rfl rfl rfl rfl got_entry29 (by simp [Value.oneCell']) ?_; intro w7 hq7 hg7)
          try rw [Exit.noGoto_ret]
          refine bodyPost_ret (results_ct rfl _ rfl (load_blk hq7 Tryz.underlying89 rfl got_entry29)) rfl ?_
          have hb7 : Chg w6 w7 (fun b => b = (w.heap.size + 1)) := Chg.of_grown hg7 rfl
          refine ⟨⟨_, _, rfl⟩, ⟨A9, _, c9, ca, we, hc9, hcm9, ⟨hca.1, by omega⟩, ⟨hwe.1, by omega⟩, hb7.blk hq6.out hd8, (hb7.seen hS6.out fun b q => ⟨q.2, fun e => by omega⟩).more fun b q => ⟨hX b (Nat.le_trans hCw.size q.1), Nat.lt_of_lt_of_le q.2 hb7.size⟩⟩, ?_⟩
          exact hC6.trans hb7 (fun b q e => by omega)
        · skip
          go_simp
          have hbs'' := hbs'.alloc hbs'.size (.cells #[.int .i64 f.pr, .int .u32 f.src, .int .u32 f.dst, .int .i64 f.sp, .int .i64 f.dp, .int .i64 b, .int .i64 now] 89)
          obtain ⟨LB, hLB⟩ : ∃ LB, LB = wa.heap.size := ⟨_, rfl⟩
          have hseen : Seen enK (wa.alloc (.cells #[.int .i64 f.pr, .int .u32 f.src, .int .u32 f.dst, .int .i64 f.sp, .int .i64 f.dp, .int .i64 b, .int .i64 now] 89)) (fun b => b = LB) (some ⟨LB, 0, none⟩) 1 [(⟨f, b, now⟩ : EnV)] := by
            rw [hLB]
            exact seen_one (R := enK) (S := fun _ => False) (S' := fun b => b = wa.heap.size) wa 89 (⟨f, b, now⟩ : EnV) #[.int .i64 f.pr, .int .u32 f.src, .int .u32 f.dst, .int .i64 f.sp, .int .i64 f.dp, .int .i64 b, .int .i64 now] rfl trivial (fun _ h => h.elim) rfl (fun _ h => h.elim)
          have hlitlt : LB < (wa.alloc (.cells #[.int .i64 f.pr, .int .u32 f.src, .int .u32 f.dst, .int .i64 f.sp, .int .i64 f.dp, .int .i64 b, .int .i64 now] 89)).heap.size := by
            rw [hLB]
            show wa.heap.size < _
            simp
          have hapart := fun (e : _ = some LB) => (absurd (hv.own LB e).2 (by rw [hLB]; exact Nat.lt_irrefl _) : False)
          have hv := hv.alloc (.cells #[.int .i64 f.pr, .int .u32 f.src, .int .u32 f.dst, .int .i64 f.sp, .int .i64 f.dp, .int .i64 b, .int .i64 now] 89)
          generalize wa.alloc (.cells #[.int .i64 f.pr, .int .u32 f.src, .int .u32 f.dst, .int .i64 f.sp, .int .i64 f.dp, .int .i64 b, .int .i64 now] 89) = wb at *
          try rw [← hLB]
          clear hLB
          have hs30r := hbs''
          refine hKQ.out _ _ hs30r ?_
          clear hKQ KQ
          try simp only [Act.put, zA, zB, zC]
          have hSa := hS.below hbs'' fun b q => q.2
          refine e_callA 6 (by rfl) (by kernel_rfl) (by rfl) (fun KQ hKQ => ?_)
          refine wp_rows en_ok29 (.tmp 57) (.tmp 61) (by rfl) hv (by rfl) (by rfl) hSa (fun _ _ => trivial) (by unfold maxLen; simp; omega) (by simp; omega) hbs''.size ?_
          intro vwc wc hvwc hgwc
          rw [List.nil_append] at hvwc
          have hbb := hv.below_app hgwc hbs''.size
          have hseen := hseen.grown hgwc (fun b q => ⟨by rw [q]; exact hlitlt, by rw [q]; intro e; exact hapart e⟩)
          have hlitlt := Nat.lt_of_lt_of_le hlitlt hbb.size
          have hbs''' := hbs''.trans hbb
          have hv := hvwc
          have hs31r := hbs'''
          refine hKQ.out _ _ hs31r ?_
          clear hKQ KQ
          try simp only [Act.put, zA, zB, zC]
          refine e_callA 12 (by rfl) (by kernel_rfl) (by rfl) (fun KQ hKQ => ?_)
          refine wp_rows en_ok29 (.tmp 62) (.tmp 67) (by rfl) hv (by rfl) (by rfl) hseen (fun _ _ => trivial) (by unfold maxLen; rw [hln.out]; omega) (by rw [hln.out]; omega) hbs'''.size ?_
          intro v8 w8 hv8 hg8
          have hb8 := hbs'''.trans (hv.below_app hg8 hbs'''.size)
          rw [← hcut.out] at hv8
          obtain ⟨A9, c9, e9, hc9, hcm9, hS9⟩ := hv8.seen (Nat.le_refl _)
          have e99 : cutE ro E f ++ [⟨f, b, now⟩] = putE ro E f b now := rfl
          rw [e99] at e9 hc9 hS9
          subst e9
          have hq9 := hq.below hb8 ltd
          have g9 := hq9.frozen 3
          have hz9 := hb8.size
          have ltg9 : d < w8.heap.size := hq9.lt
          have c9' : w8.cell? ⟨d, 3, none⟩ = some (.slice A n c) := hq9.cellv 3 rfl
          have hs32r := hb8
          refine hKQ.out _ _ hs32r ?_
          clear hKQ KQ
          try simp only [Act.put, zA, zB, zC]
          (refine e_takeA 13 (by rfl) ?_ (by kernel_rfl) (fun _ _ _ h => h) hs32r ?_ ?_; rotate_left; (focus (intro wq hSw; have hrd := hSw; have hrd2 := zR hSw; go_simp; try with_reducible rfl; done)); try simp only [Act.put, zA, zB, zC])
          (refine e_takeA 14 (by rfl) ?_ (by kernel_rfl) (fun _ _ _ h => h) hs32r ?_ ?_; rotate_left; (focus (intro wq hSw; have hrd := hSw; have hrd2 := zR hSw; go_simp; try with_reducible rfl; done)); try simp only [Act.put, zA, zB, zC])
          refine e_last (by rfl) (by kernel_rfl) (by rfl) (fun KQ hKQ => ?_)
          go_simp
          obtain ⟨hq6, hg6⟩ := blk_store hq9 3 (.slice A9 (putE ro E f b now).length c9)
          replace hq6 : Blk (w8.setCell ⟨d, 3, none⟩ (.slice A9 (putE ro E f b now).length c9)) d 191 (rfC ro idl now A9 (putE ro E f b now).length c9 ca we) := hq6
          have hS6 := hS9.grown hg6 fun b q => ⟨q.2, fun e => by injection e with e; omega⟩
          have hC6 := hCw.trans ((Chg.of_below (X := fun b => b = d) hb8).trans (Chg.of_grown (X := fun b => b = d) hg6 rfl) fun _ _ q => q) fun _ _ q => q
          have h86 := (h8.below hb8 h8.lt).grown hg6 (fun e => by injection e with e; omega)
          have h106 := (h10.below hb8 h10.lt).grown hg6 (fun e => by injection e with e; omega)
          generalize w8.setCell ⟨d, 3, none⟩ (.slice A9 (putE ro E f b now).length c9) = w6 at *
          refine hKQ.out _ _ ?_
          clear hKQ KQ
          try simp only [Act.put]
          refine e_done (by kernel_rfl) ?_ _
          try refine NoPanic.normal ?_
          have hl8 := h8.lt
          have hd8 : d ≠ (w.heap.size + 1) := by have := hlt0; omega
          have hS6z : w5.heap.size ≤ w6.heap.size := Nat.le_trans hz9 hg6.size
          replace hq6 := Lib.hid hq6
          replace hS6 := Lib.hid (hS6.more (S' := fun b => w5.heap.size ≤ b ∧ b < w6.heap.size) fun b q => ⟨q.1, Nat.lt_of_lt_of_le q.2 hg6.size⟩)
          clear hq9 hS9 c9' g9 hv8
          have z0 : w6.cell? ⟨(w.heap.size + 1 + 1), 0, none⟩ = some (.int .i64 0) := h106.cellv 0 rfl
          have z1 : w6.cell? ⟨(w.heap.size + 1 + 1), 1, none⟩ = some (.int .u32 0) := h106.cellv 1 rfl
          have z2 : w6.cell? ⟨(w.heap.size + 1 + 1), 2, none⟩ = some (.int .u32 0) := h106.cellv 2 rfl
          have z3 : w6.cell? ⟨(w.heap.size + 1 + 1), 3, none⟩ = some (.int .i64 0) := h106.cellv 3 rfl
          have z4 : w6.cell? ⟨(w.heap.size + 1 + 1), 4, none⟩ = some (.int .i64 0) := h106.cellv 4 rfl
          have z5 : w6.cell? ⟨(w.heap.size + 1 + 1), 5, none⟩ = some (.int .i64 0) := h106.cellv 5 rfl
          have z6 : w6.cell? ⟨(w.heap.size + 1 + 1), 6, none⟩ = some (.int .i64 0) := h106.cellv 6 rfl
          have lt10 := h106.lt
          go_wp2_with (refine wpList_store_blk rfl h86 89 (.tmp 8) (.tmp 71) rfl rfl rfl rfl got_entry29 (by simp [Value.oneCell']) ?_; intro w7 hq7 hg7)
          try rw [Exit.noGoto_ret]
          refine bodyPost_ret (results_ct rfl _ rfl (load_blk hq7 Tryz.underlying89 rfl got_entry29)) rfl ?_
          have hb7 : Chg w6 w7 (fun b => b = (w.heap.size + 1)) := Chg.of_grown hg7 rfl
          refine ⟨⟨_, _, rfl⟩, ⟨A9, _, c9, ca, we, hc9, hcm9, ⟨hca.1, by omega⟩, ⟨hwe.1, by omega⟩, hb7.blk hq6.out hd8, (hb7.seen hS6.out fun b q => ⟨q.2, fun e => by omega⟩).more fun b q => ⟨hX b (Nat.le_trans hCw.size q.1), Nat.lt_of_lt_of_le q.2 hb7.size⟩⟩, ?_⟩
          exact hC6.trans hb7 (fun b q e => by omega)
      · skip
        have hbs : Below w5.heap.size w5 w5.drew := (Below.refl _ _).drew
        skip
        go_simp
        have hd : (w5.alloc (.cells #[.int .i64 f.pr, .int .u32 f.src, .int .u32 f.dst, .int .i64 f.sp, .int .i64 f.dp, .int .i64 b, .int .i64 now] 89)).drew = w5.drew.alloc (.cells #[.int .i64 f.pr, .int .u32 f.src, .int .u32 f.dst, .int .i64 f.sp, .int .i64 f.dp, .int .i64 b, .int .i64 now] 89) := rfl
        try rw [hd]
        have hbs' := hbs.alloc hbs.size (.cells #[.int .i64 f.pr, .int .u32 f.src, .int .u32 f.dst, .int .i64 f.sp, .int .i64 f.dp, .int .i64 b, .int .i64 now] 89)
        obtain ⟨LB, hLB⟩ : ∃ LB, LB = w5.heap.size := ⟨_, rfl⟩
        have hseen : Seen enK (w5.drew.alloc (.cells #[.int .i64 f.pr, .int .u32 f.src, .int .u32 f.dst, .int .i64 f.sp, .int .i64 f.dp, .int .i64 b, .int .i64 now] 89)) (fun b => b = LB) (some ⟨LB, 0, none⟩) 1 [(⟨f, b, now⟩ : EnV)] := by
          rw [hLB]
          exact seen_one (R := enK) (S := fun _ => False) (S' := fun b => b = w5.heap.size) w5.drew 89 (⟨f, b, now⟩ : EnV) #[.int .i64 f.pr, .int .u32 f.src, .int .u32 f.dst, .int .i64 f.sp, .int .i64 f.dp, .int .i64 b, .int .i64 now] rfl trivial (fun _ h => h.elim) rfl (fun _ h => h.elim)
        have hlitlt : LB < (w5.drew.alloc (.cells #[.int .i64 f.pr, .int .u32 f.src, .int .u32 f.dst, .int .i64 f.sp, .int .i64 f.dp, .int .i64 b, .int .i64 now] 89)).heap.size := by
          rw [hLB]
          show w5.drew.heap.size < _
          simp
        generalize w5.drew.alloc (.cells #[.int .i64 f.pr, .int .u32 f.src, .int .u32 f.dst, .int .i64 f.sp, .int .i64 f.dp, .int .i64 b, .int .i64 now] 89) = wa at *
        try rw [← hLB]
        clear hLB hd
        have hs33r := hbs'
        refine hKQ.out _ _ hs33r ?_
        clear hKQ KQ
        try simp only [Act.put, zA, zB, zC]
        refine e_callA 1 (by rfl) (by kernel_rfl) (by rfl) (fun KQ hKQ => ?_)
        go_simp
        have hbs'' := hbs'.alloc hbs'.size (.cells #[] 89)
        have hv : Rows enK (wa.alloc (.cells #[] 89)) w5.heap.size w5.heap.size 89 (.slice (some ⟨wa.heap.size, 0, none⟩) 0 0) [] := (en_lit wa).less hbs'.size hbs'.size
        have hseen := hseen.below (w' := wa.alloc (.cells #[] 89)) ((Below.refl _ _).alloc (Nat.le_refl _) _) (fun b q => by rw [q]; exact hlitlt)
        have hlitlt2 : LB < (wa.alloc (.cells #[] 89)).heap.size := Nat.lt_of_lt_of_le hlitlt (by simp)
        have hapart : (Value.slice (some ⟨wa.heap.size, 0, none⟩) 0 0).ownBlock = some LB → False := fun e => by (have e2 : some wa.heap.size = some LB := e); injection e2 with e2; omega
        generalize wa.alloc (.cells #[] 89) = wb at *
        replace hlitlt := hlitlt2
        have hs34r := hbs''
        refine hKQ.out _ _ hs34r ?_
        clear hKQ KQ
        try simp only [Act.put, zA, zB, zC]
        have hSa := hS.below hbs'' fun b q => q.2
        refine e_callA 6 (by rfl) (by kernel_rfl) (by rfl) (fun KQ hKQ => ?_)
        refine wp_rows en_ok29 (.tmp 57) (.tmp 61) (by rfl) hv (by rfl) (by rfl) hSa (fun _ _ => trivial) (by unfold maxLen; simp; omega) (by simp; omega) hbs''.size ?_
        intro vwc wc hvwc hgwc
        rw [List.nil_append] at hvwc
        have hbb := hv.below_app hgwc hbs''.size
        have hseen := hseen.grown hgwc (fun b q => ⟨by rw [q]; exact hlitlt, by rw [q]; intro e; exact hapart e⟩)
        have hlitlt := Nat.lt_of_lt_of_le hlitlt hbb.size
        have hbs''' := hbs''.trans hbb
        have hv := hvwc
        have hs35r := hbs'''
        refine hKQ.out _ _ hs35r ?_
        clear hKQ KQ
        try simp only [Act.put, zA, zB, zC]
        refine e_callA 12 (by rfl) (by kernel_rfl) (by rfl) (fun KQ hKQ => ?_)
        refine wp_rows en_ok29 (.tmp 62) (.tmp 67) (by rfl) hv (by rfl) (by rfl) hseen (fun _ _ => trivial) (by unfold maxLen; rw [hln.out]; omega) (by rw [hln.out]; omega) hbs'''.size ?_
        intro v8 w8 hv8 hg8
        have hb8 := hbs'''.trans (hv.below_app hg8 hbs'''.size)
        rw [← hcut.out] at hv8
        obtain ⟨A9, c9, e9, hc9, hcm9, hS9⟩ := hv8.seen (Nat.le_refl _)
        have e99 : cutE ro E f ++ [⟨f, b, now⟩] = putE ro E f b now := rfl
        rw [e99] at e9 hc9 hS9
        subst e9
        have hq9 := hq.below hb8 ltd
        have g9 := hq9.frozen 3
        have hz9 := hb8.size
        have ltg9 : d < w8.heap.size := hq9.lt
        have c9' : w8.cell? ⟨d, 3, none⟩ = some (.slice A n c) := hq9.cellv 3 rfl
        have hs36r := hb8
        refine hKQ.out _ _ hs36r ?_
        clear hKQ KQ
        try simp only [Act.put, zA, zB, zC]
        (refine e_takeA 13 (by rfl) ?_ (by kernel_rfl) (fun _ _ _ h => h) hs36r ?_ ?_; rotate_left; (focus (intro wq hSw; have hrd := hSw; have hrd2 := zR hSw; go_simp; try with_reducible rfl; done)); try simp only [Act.put, zA, zB, zC])
        (refine e_takeA 14 (by rfl) ?_ (by kernel_rfl) (fun _ _ _ h => h) hs36r ?_ ?_; rotate_left; (focus (intro wq hSw; have hrd := hSw; have hrd2 := zR hSw; go_simp; try with_reducible rfl; done)); try simp only [Act.put, zA, zB, zC])
        refine e_last (by rfl) (by kernel_rfl) (by rfl) (fun KQ hKQ => ?_)
        go_simp
        obtain ⟨hq6, hg6⟩ := blk_store hq9 3 (.slice A9 (putE ro E f b now).length c9)
        replace hq6 : Blk (w8.setCell ⟨d, 3, none⟩ (.slice A9 (putE ro E f b now).length c9)) d 191 (rfC ro idl now A9 (putE ro E f b now).length c9 ca we) := hq6
        have hS6 := hS9.grown hg6 fun b q => ⟨q.2, fun e => by injection e with e; omega⟩
        have hC6 := hCw.trans ((Chg.of_below (X := fun b => b = d) hb8).trans (Chg.of_grown (X := fun b => b = d) hg6 rfl) fun _ _ q => q) fun _ _ q => q
        have h86 := (h8.below hb8 h8.lt).grown hg6 (fun e => by injection e with e; omega)
        have h106 := (h10.below hb8 h10.lt).grown hg6 (fun e => by injection e with e; omega)
        generalize w8.setCell ⟨d, 3, none⟩ (.slice A9 (putE ro E f b now).length c9) = w6 at *
        refine hKQ.out _ _ ?_
        clear hKQ KQ
        try simp only [Act.put]
        refine e_done (by kernel_rfl) ?_ _
        try refine NoPanic.normal ?_
        have hl8 := h8.lt
        have hd8 : d ≠ (w.heap.size + 1) := by have := hlt0; omega
        have hS6z : w5.heap.size ≤ w6.heap.size := Nat.le_trans hz9 hg6.size
        replace hq6 := Lib.hid hq6
        replace hS6 := Lib.hid (hS6.more (S' := fun b => w5.heap.size ≤ b ∧ b < w6.heap.size) fun b q => ⟨q.1, Nat.lt_of_lt_of_le q.2 hg6.size⟩)
        clear hq9 hS9 c9' g9 hv8
        have z0 : w6.cell? ⟨(w.heap.size + 1 + 1), 0, none⟩ = some (.int .i64 0) := h106.cellv 0 rfl
        have z1 : w6.cell? ⟨(w.heap.size + 1 + 1), 1, none⟩ = some (.int .u32 0) := h106.cellv 1 rfl
        have z2 : w6.cell? ⟨(w.heap.size + 1 + 1), 2, none⟩ = some (.int .u32 0) := h106.cellv 2 rfl
        have z3 : w6.cell? ⟨(w.heap.size + 1 + 1), 3, none⟩ = some (.int .i64 0) := h106.cellv 3 rfl
        have z4 : w6.cell? ⟨(w.heap.size + 1 + 1), 4, none⟩ = some (.int .i64 0) := h106.cellv 4 rfl
        have z5 : w6.cell? ⟨(w.heap.size + 1 + 1), 5, none⟩ = some (.int .i64 0) := h106.cellv 5 rfl
        have z6 : w6.cell? ⟨(w.heap.size + 1 + 1), 6, none⟩ = some (.int .i64 0) := h106.cellv 6 rfl
        have lt10 := h106.lt
        go_wp2_with (refine wpList_store_blk rfl h86 89 (.tmp 8) (.tmp 71) rfl rfl rfl rfl got_entry29 (by simp [Value.oneCell']) ?_; intro w7 hq7 hg7)
        try rw [Exit.noGoto_ret]
        refine bodyPost_ret (results_ct rfl _ rfl (load_blk hq7 Tryz.underlying89 rfl got_entry29)) rfl ?_
        have hb7 : Chg w6 w7 (fun b => b = (w.heap.size + 1)) := Chg.of_grown hg7 rfl
        refine ⟨⟨_, _, rfl⟩, ⟨A9, _, c9, ca, we, hc9, hcm9, ⟨hca.1, by omega⟩, ⟨hwe.1, by omega⟩, hb7.blk hq6.out hd8, (hb7.seen hS6.out fun b q => ⟨q.2, fun e => by omega⟩).more fun b q => ⟨hX b (Nat.le_trans hCw.size q.1), Nat.lt_of_lt_of_le q.2 hb7.size⟩⟩, ?_⟩
        exact hC6.trans hb7 (fun b q e => by omega)
end Go.Proofs.YtgdeecmhhbdjgaaGreat
