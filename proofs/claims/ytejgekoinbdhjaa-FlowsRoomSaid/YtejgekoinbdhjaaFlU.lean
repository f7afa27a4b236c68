/- flows: an act that is no Put, on a table and on the document's that has nothing. -/
import Derived.Test.YtejgekoinbdhjaaFlT
import Derived.Test.YtejgekoinbdhjaaFlE3
namespace Go.Proofs.Ytejgekoinbdhjaa
set_option linter.unusedVariables false
open Go Go.RowKit Go.Maps

/-- some answer; the table is one still. -/
def ActR (w : World) (X : Nat → Prop) (g : Nat) (ro idl : Int) (n d : Nat) (e : Ending) (w' : World) : Prop :=
  ∃ b now' E', e = .returned (.bool b) ∧ TabF w' X g ro idl now' n E' ∧ Chg w w' (fun k => X k ∨ k = d)
set_option maxRecDepth 100000 in
set_option maxHeartbeats 4000000 in
theorem act29_1 (w : World) (X : Nat → Prop) (g : Nat) (ro idl now : Int) (n : Nat) (E : List EnV) (hT : TabF w X g ro idl now n E) (d : Nat) (nd : Int) (hd : Blk w d 193 (docC nd)) (hdX : ¬ X d) (a : ActF) (hf : FloOk a.f) (ht : (Lit.int .i64 a.t).wf = true) (hk : a.k = 1) :
    Calls Try.prog 50 #[.pointer (some ⟨g, 0, none⟩), .pointer (some ⟨d, 0, none⟩), .agg #[.int .i64 a.k, .int .i64 a.f.pr, .int .u32 a.f.src, .int .u32 a.f.dst, .int .i64 a.f.sp, .int .i64 a.f.dp, .int .i64 a.b, .int .i64 a.t]] w (ActR w X g ro idl n d) := by
  replace hk := Lib.hid hk
  have ht1 : a.t ≤ 9223372036854775807 := by
    simp only [Lit.wf, Bool.and_eq_true, decide_eq_true_eq] at ht
    exact ht.2
  have hB1 := (Below.refl w.heap.size w).alloc (Nat.le_refl _) (.cells #[.int .i64 a.k, .int .i64 a.f.pr, .int .u32 a.f.src, .int .u32 a.f.dst, .int .i64 a.f.sp, .int .i64 a.f.dp, .int .i64 a.b, .int .i64 a.t] 72)
  have ha1 := Blk.new w 72 #[.int .i64 a.k, .int .i64 a.f.pr, .int .u32 a.f.src, .int .u32 a.f.dst, .int .i64 a.f.sp, .int .i64 a.f.dp, .int .i64 a.b, .int .i64 a.t]
  have hT1 := hT.fwd hB1
  have hd1 := hd.alloc (.cells #[.int .i64 a.k, .int .i64 a.f.pr, .int .u32 a.f.src, .int .u32 a.f.dst, .int .i64 a.f.sp, .int .i64 a.f.dp, .int .i64 a.b, .int .i64 a.t] 72)
  have hXl := hT.good.2.2.2.2
  have hdl := hd.lt
  go_enter Try.func50, Try.ntmps50
  go_upto_region 1 with (fail)
  generalize w.alloc (.cells #[.int .i64 a.k, .int .i64 a.f.pr, .int .u32 a.f.src, .int .u32 a.f.dst, .int .i64 a.f.sp, .int .i64 a.f.dp, .int .i64 a.b, .int .i64 a.t] 72) = w1 at *
  have hXa : ¬ X w.heap.size := fun q => by have := hXl _ q; omega
  have hda : w.heap.size ≠ d := by omega
  have hCw : Chg w w1 (fun k => X k ∨ k = d) := Chg.of_below hB1
  generalize w.heap.size = ab at *
  have a0 := ha1.cellv 0 (v := .int .i64 a.k) rfl
  have a1 := ha1.cellv 1 (v := .int .i64 a.f.pr) rfl
  have a2 := ha1.cellv 2 (v := .int .u32 a.f.src) rfl
  have a3 := ha1.cellv 3 (v := .int .u32 a.f.dst) rfl
  have a4 := ha1.cellv 4 (v := .int .i64 a.f.sp) rfl
  have a5 := ha1.cellv 5 (v := .int .i64 a.f.dp) rfl
  have a6 := ha1.cellv 6 (v := .int .i64 a.b) rfl
  have a7 := ha1.cellv 7 (v := .int .i64 a.t) rfl
  have lta := ha1.lt
  have n0 : (a.k == 0) = false := by rw [beq_eq_false_iff_ne]; have := hk.out; omega
  have y1 : (a.k == 1) = true := by rw [beq_iff_eq]; exact hk.out
  go_upto_region 8 with (go_at_call 42; refine (getFX hT1 a.f hf a.t ht1).mono ?_; rintro e w2 ⟨rfl, hT2, hC2⟩)
  have ha2 := hC2.blk ha1 hXa
  have hd2 := hC2.blk hd1 hdX
  clear a0 a1 a2 a3 a4 a5 a6 a7 lta
  have a0 := ha2.cellv 0 (v := .int .i64 a.k) rfl
  have a1 := ha2.cellv 1 (v := .int .i64 a.f.pr) rfl
  have a2 := ha2.cellv 2 (v := .int .u32 a.f.src) rfl
  have a3 := ha2.cellv 3 (v := .int .u32 a.f.dst) rfl
  have a4 := ha2.cellv 4 (v := .int .i64 a.f.sp) rfl
  have a5 := ha2.cellv 5 (v := .int .i64 a.f.dp) rfl
  have a6 := ha2.cellv 6 (v := .int .i64 a.b) rfl
  have a7 := ha2.cellv 7 (v := .int .i64 a.t) rfl
  have lta := ha2.lt
  generalize getN E a.f (max now a.t) = gv at *
  go_upto_region 9 with (go_at_call 126; refine (ref29_get w2 d nd a.t a.f hd2).mono ?_; rintro e w3 ⟨rfl, hC3⟩)
  have hT3 := hT2.chg hC3 (fun k hk2 q => hdX (q ▸ hk2))
  go_wp2_with fail
  all_goals (go_ret; exact ⟨_, _, _, rfl, hT3, (hCw.trans hC2 (fun _ _ q => .inl q)).trans hC3 (fun _ _ q => .inr q)⟩)
set_option maxRecDepth 100000 in
set_option maxHeartbeats 4000000 in
theorem act29_2 (w : World) (X : Nat → Prop) (g : Nat) (ro idl now : Int) (n : Nat) (E : List EnV) (hT : TabF w X g ro idl now n E) (d : Nat) (nd : Int) (hd : Blk w d 193 (docC nd)) (hdX : ¬ X d) (a : ActF) (hf : FloOk a.f) (ht : (Lit.int .i64 a.t).wf = true) (hk : a.k = 2) :
    Calls Try.prog 50 #[.pointer (some ⟨g, 0, none⟩), .pointer (some ⟨d, 0, none⟩), .agg #[.int .i64 a.k, .int .i64 a.f.pr, .int .u32 a.f.src, .int .u32 a.f.dst, .int .i64 a.f.sp, .int .i64 a.f.dp, .int .i64 a.b, .int .i64 a.t]] w (ActR w X g ro idl n d) := by
  replace hk := Lib.hid hk
  have ht1 : a.t ≤ 9223372036854775807 := by
    simp only [Lit.wf, Bool.and_eq_true, decide_eq_true_eq] at ht
    exact ht.2
  have hB1 := (Below.refl w.heap.size w).alloc (Nat.le_refl _) (.cells #[.int .i64 a.k, .int .i64 a.f.pr, .int .u32 a.f.src, .int .u32 a.f.dst, .int .i64 a.f.sp, .int .i64 a.f.dp, .int .i64 a.b, .int .i64 a.t] 72)
  have ha1 := Blk.new w 72 #[.int .i64 a.k, .int .i64 a.f.pr, .int .u32 a.f.src, .int .u32 a.f.dst, .int .i64 a.f.sp, .int .i64 a.f.dp, .int .i64 a.b, .int .i64 a.t]
  have hT1 := hT.fwd hB1
  have hd1 := hd.alloc (.cells #[.int .i64 a.k, .int .i64 a.f.pr, .int .u32 a.f.src, .int .u32 a.f.dst, .int .i64 a.f.sp, .int .i64 a.f.dp, .int .i64 a.b, .int .i64 a.t] 72)
  have hXl := hT.good.2.2.2.2
  have hdl := hd.lt
  go_enter Try.func50, Try.ntmps50
  go_upto_region 1 with (fail)
  generalize w.alloc (.cells #[.int .i64 a.k, .int .i64 a.f.pr, .int .u32 a.f.src, .int .u32 a.f.dst, .int .i64 a.f.sp, .int .i64 a.f.dp, .int .i64 a.b, .int .i64 a.t] 72) = w1 at *
  have hXa : ¬ X w.heap.size := fun q => by have := hXl _ q; omega
  have hda : w.heap.size ≠ d := by omega
  have hCw : Chg w w1 (fun k => X k ∨ k = d) := Chg.of_below hB1
  generalize w.heap.size = ab at *
  have a0 := ha1.cellv 0 (v := .int .i64 a.k) rfl
  have a1 := ha1.cellv 1 (v := .int .i64 a.f.pr) rfl
  have a2 := ha1.cellv 2 (v := .int .u32 a.f.src) rfl
  have a3 := ha1.cellv 3 (v := .int .u32 a.f.dst) rfl
  have a4 := ha1.cellv 4 (v := .int .i64 a.f.sp) rfl
  have a5 := ha1.cellv 5 (v := .int .i64 a.f.dp) rfl
  have a6 := ha1.cellv 6 (v := .int .i64 a.b) rfl
  have a7 := ha1.cellv 7 (v := .int .i64 a.t) rfl
  have lta := ha1.lt
  have n0 : (a.k == 0) = false := by rw [beq_eq_false_iff_ne]; have := hk.out; omega
  have n1 : (a.k == 1) = false := by rw [beq_eq_false_iff_ne]; have := hk.out; omega
  have y2 : (a.k == 2) = true := by rw [beq_iff_eq]; exact hk.out
  obtain ⟨pv, hpv⟩ : ∃ pv, pv = peekN E a.f := ⟨_, rfl⟩
  have hpk := peekFX hT1 a.f hf
  rw [← hpv] at hpk
  unfold enA at hpk
  replace hpv := Lib.hid hpv
  go_upto_region 12 with (go_at_call 43; refine hpk.mono ?_; rintro e w2 ⟨rfl, hb2⟩)
  have hb3 := hb2.trans ((Below.refl w2.heap.size w2).alloc (Nat.le_refl _) (.cells #[.int .i64 (pv.1).fl.pr, .int .u32 (pv.1).fl.src, .int .u32 (pv.1).fl.dst, .int .i64 (pv.1).fl.sp, .int .i64 (pv.1).fl.dp, .int .i64 (pv.1).be, .int .i64 (pv.1).la] 62) |>.mono hb2.size)
  have hE3 := Blk.new w2 62 #[.int .i64 (pv.1).fl.pr, .int .u32 (pv.1).fl.src, .int .u32 (pv.1).fl.dst, .int .i64 (pv.1).fl.sp, .int .i64 (pv.1).fl.dp, .int .i64 (pv.1).be, .int .i64 (pv.1).la]
  have hz2 := hb2.size
  generalize w2.alloc (.cells #[.int .i64 (pv.1).fl.pr, .int .u32 (pv.1).fl.src, .int .u32 (pv.1).fl.dst, .int .i64 (pv.1).fl.sp, .int .i64 (pv.1).fl.dp, .int .i64 (pv.1).be, .int .i64 (pv.1).la] 62) = w3 at *
  have ha3 := ha1.below hb3 ha1.lt
  have hd3 := hd1.below hb3 hd1.lt
  have hT3 := hT1.fwd hb3
  clear a0 a1 a2 a3 a4 a5 a6 a7 lta
  have a0 := ha3.cellv 0 (v := .int .i64 a.k) rfl
  have a1 := ha3.cellv 1 (v := .int .i64 a.f.pr) rfl
  have a2 := ha3.cellv 2 (v := .int .u32 a.f.src) rfl
  have a3 := ha3.cellv 3 (v := .int .u32 a.f.dst) rfl
  have a4 := ha3.cellv 4 (v := .int .i64 a.f.sp) rfl
  have a5 := ha3.cellv 5 (v := .int .i64 a.f.dp) rfl
  have a6 := ha3.cellv 6 (v := .int .i64 a.b) rfl
  have a7 := ha3.cellv 7 (v := .int .i64 a.t) rfl
  have lta := ha3.lt
  go_upto_region 13 with (go_at_call 127; refine (ref29_peek w3 d nd a.f hd3).mono ?_; rintro e w4 ⟨rfl, hb4⟩; simp only [enA, ze])
  have hb5 := hb4.trans ((Below.refl w4.heap.size w4).alloc (Nat.le_refl _) (.cells #[.int .i64 (ze).fl.pr, .int .u32 (ze).fl.src, .int .u32 (ze).fl.dst, .int .i64 (ze).fl.sp, .int .i64 (ze).fl.dp, .int .i64 (ze).be, .int .i64 (ze).la] 184) |>.mono hb4.size)
  have hE5 := hE3.below hb5 hE3.lt
  have hF5 := Blk.new w4 184 #[.int .i64 (ze).fl.pr, .int .u32 (ze).fl.src, .int .u32 (ze).fl.dst, .int .i64 (ze).fl.sp, .int .i64 (ze).fl.dp, .int .i64 (ze).be, .int .i64 (ze).la]
  have hT5 := hT3.fwd hb5
  simp only [ze] at hb5 hE5 hF5 hT5
  generalize w4.alloc (.cells #[.int .i64 0, .int .u32 0, .int .u32 0, .int .i64 0, .int .i64 0, .int .i64 0, .int .i64 0] 184) = w5 at *
  clear a0 a1 a2 a3 a4 a5 a6 a7 lta
  have e0 : w5.cell? ⟨w2.heap.size, 0, none⟩ = some (.int .i64 pv.1.fl.pr) := hE5.cellv 0 rfl
  have f0 : w5.cell? ⟨w4.heap.size, 0, none⟩ = some (.int .i64 0) := hF5.cellv 0 rfl
  have e1 : w5.cell? ⟨w2.heap.size, 1, none⟩ = some (.int .u32 pv.1.fl.src) := hE5.cellv 1 rfl
  have f1 : w5.cell? ⟨w4.heap.size, 1, none⟩ = some (.int .u32 0) := hF5.cellv 1 rfl
  have e2 : w5.cell? ⟨w2.heap.size, 2, none⟩ = some (.int .u32 pv.1.fl.dst) := hE5.cellv 2 rfl
  have f2 : w5.cell? ⟨w4.heap.size, 2, none⟩ = some (.int .u32 0) := hF5.cellv 2 rfl
  have e3 : w5.cell? ⟨w2.heap.size, 3, none⟩ = some (.int .i64 pv.1.fl.sp) := hE5.cellv 3 rfl
  have f3 : w5.cell? ⟨w4.heap.size, 3, none⟩ = some (.int .i64 0) := hF5.cellv 3 rfl
  have e4 : w5.cell? ⟨w2.heap.size, 4, none⟩ = some (.int .i64 pv.1.fl.dp) := hE5.cellv 4 rfl
  have f4 : w5.cell? ⟨w4.heap.size, 4, none⟩ = some (.int .i64 0) := hF5.cellv 4 rfl
  have e5 : w5.cell? ⟨w2.heap.size, 5, none⟩ = some (.int .i64 pv.1.be) := hE5.cellv 5 rfl
  have f5 : w5.cell? ⟨w4.heap.size, 5, none⟩ = some (.int .i64 0) := hF5.cellv 5 rfl
  have e6 : w5.cell? ⟨w2.heap.size, 6, none⟩ = some (.int .i64 pv.1.la) := hE5.cellv 6 rfl
  have f6 : w5.cell? ⟨w4.heap.size, 6, none⟩ = some (.int .i64 0) := hF5.cellv 6 rfl
  have le := hE5.lt
  have lf := hF5.lt
  go_wp2_with fail
  all_goals (go_ret; exact ⟨_, _, _, rfl, hT5, (hCw.trans (Chg.of_below (X := fun _ => False) hb3) (fun _ _ q => q.elim)).trans (Chg.of_below (X := fun _ => False) hb5) (fun _ _ q => q.elim)⟩)
set_option maxRecDepth 100000 in
set_option maxHeartbeats 4000000 in
theorem act29_3 (w : World) (X : Nat → Prop) (g : Nat) (ro idl now : Int) (n : Nat) (E : List EnV) (hT : TabF w X g ro idl now n E) (d : Nat) (nd : Int) (hd : Blk w d 193 (docC nd)) (hdX : ¬ X d) (a : ActF) (hf : FloOk a.f) (ht : (Lit.int .i64 a.t).wf = true) (hk : a.k = 3) :
    Calls Try.prog 50 #[.pointer (some ⟨g, 0, none⟩), .pointer (some ⟨d, 0, none⟩), .agg #[.int .i64 a.k, .int .i64 a.f.pr, .int .u32 a.f.src, .int .u32 a.f.dst, .int .i64 a.f.sp, .int .i64 a.f.dp, .int .i64 a.b, .int .i64 a.t]] w (ActR w X g ro idl n d) := by
  replace hk := Lib.hid hk
  have ht1 : a.t ≤ 9223372036854775807 := by
    simp only [Lit.wf, Bool.and_eq_true, decide_eq_true_eq] at ht
    exact ht.2
  have hB1 := (Below.refl w.heap.size w).alloc (Nat.le_refl _) (.cells #[.int .i64 a.k, .int .i64 a.f.pr, .int .u32 a.f.src, .int .u32 a.f.dst, .int .i64 a.f.sp, .int .i64 a.f.dp, .int .i64 a.b, .int .i64 a.t] 72)
  have ha1 := Blk.new w 72 #[.int .i64 a.k, .int .i64 a.f.pr, .int .u32 a.f.src, .int .u32 a.f.dst, .int .i64 a.f.sp, .int .i64 a.f.dp, .int .i64 a.b, .int .i64 a.t]
  have hT1 := hT.fwd hB1
  have hd1 := hd.alloc (.cells #[.int .i64 a.k, .int .i64 a.f.pr, .int .u32 a.f.src, .int .u32 a.f.dst, .int .i64 a.f.sp, .int .i64 a.f.dp, .int .i64 a.b, .int .i64 a.t] 72)
  have hXl := hT.good.2.2.2.2
  have hdl := hd.lt
  go_enter Try.func50, Try.ntmps50
  go_upto_region 1 with (fail)
  generalize w.alloc (.cells #[.int .i64 a.k, .int .i64 a.f.pr, .int .u32 a.f.src, .int .u32 a.f.dst, .int .i64 a.f.sp, .int .i64 a.f.dp, .int .i64 a.b, .int .i64 a.t] 72) = w1 at *
  have hXa : ¬ X w.heap.size := fun q => by have := hXl _ q; omega
  have hda : w.heap.size ≠ d := by omega
  have hCw : Chg w w1 (fun k => X k ∨ k = d) := Chg.of_below hB1
  generalize w.heap.size = ab at *
  have a0 := ha1.cellv 0 (v := .int .i64 a.k) rfl
  have a1 := ha1.cellv 1 (v := .int .i64 a.f.pr) rfl
  have a2 := ha1.cellv 2 (v := .int .u32 a.f.src) rfl
  have a3 := ha1.cellv 3 (v := .int .u32 a.f.dst) rfl
  have a4 := ha1.cellv 4 (v := .int .i64 a.f.sp) rfl
  have a5 := ha1.cellv 5 (v := .int .i64 a.f.dp) rfl
  have a6 := ha1.cellv 6 (v := .int .i64 a.b) rfl
  have a7 := ha1.cellv 7 (v := .int .i64 a.t) rfl
  have lta := ha1.lt
  have n0 : (a.k == 0) = false := by rw [beq_eq_false_iff_ne]; have := hk.out; omega
  have n1 : (a.k == 1) = false := by rw [beq_eq_false_iff_ne]; have := hk.out; omega
  have n2 : (a.k == 2) = false := by rw [beq_eq_false_iff_ne]; have := hk.out; omega
  have y3 : (a.k == 3) = true := by rw [beq_iff_eq]; exact hk.out
  go_upto_region 15 with (fail)
  clear a0 a1 a2 a3 a4 a5 a6 a7 lta
  -- region 15: 0 1 2 3C 4 5 6 7C 8 9
  try refine wp_region_noPanic ?_
  have hs1r : (fun w' => Blk w' ab 72 #[.int .i64 a.k, .int .i64 a.f.pr, .int .u32 a.f.src, .int .u32 a.f.dst, .int .i64 a.f.sp, .int .i64 a.f.dp, .int .i64 a.b, .int .i64 a.t]) w1.drew := ha1.below (Below.refl _ _).drew ha1.lt
  refine wp_region_held_drew (S := fun w' => Blk w' ab 72 #[.int .i64 a.k, .int .i64 a.f.pr, .int .u32 a.f.src, .int .u32 a.f.dst, .int .i64 a.f.sp, .int .i64 a.f.dp, .int .i64 a.b, .int .i64 a.t]) (by kernel_rfl) hs1r (fun _ => ?_)
  (refine held_takeA 0 (by rfl) ?_ (by kernel_rfl) (fun _ _ _ h => h) hs1r ?_ ?_; rotate_left; (focus (intro wq hSw; have hrd := hSw; have a1 := hSw.cellv 1 (v := .int .i64 a.f.pr) rfl; have a2 := hSw.cellv 2 (v := .int .u32 a.f.src) rfl; have a3 := hSw.cellv 3 (v := .int .u32 a.f.dst) rfl; have a4 := hSw.cellv 4 (v := .int .i64 a.f.sp) rfl; have a5 := hSw.cellv 5 (v := .int .i64 a.f.dp) rfl; have a6 := hSw.cellv 6 (v := .int .i64 a.b) rfl; have a7 := hSw.cellv 7 (v := .int .i64 a.t) rfl; have lta2 := hSw.lt; go_simp; try with_reducible rfl; done)); try simp only [Act.put, List.setIfInBounds_toArray, List.set_cons_zero, List.set_cons_succ])
  (refine held_takeA 1 (by rfl) ?_ (by kernel_rfl) (fun _ _ _ h => h) hs1r ?_ ?_; rotate_left; (focus (intro wq hSw; have hrd := hSw; have a1 := hSw.cellv 1 (v := .int .i64 a.f.pr) rfl; have a2 := hSw.cellv 2 (v := .int .u32 a.f.src) rfl; have a3 := hSw.cellv 3 (v := .int .u32 a.f.dst) rfl; have a4 := hSw.cellv 4 (v := .int .i64 a.f.sp) rfl; have a5 := hSw.cellv 5 (v := .int .i64 a.f.dp) rfl; have a6 := hSw.cellv 6 (v := .int .i64 a.b) rfl; have a7 := hSw.cellv 7 (v := .int .i64 a.t) rfl; have lta2 := hSw.lt; go_simp; try with_reducible rfl; done)); try simp only [Act.put, List.setIfInBounds_toArray, List.set_cons_zero, List.set_cons_succ])
  (refine held_takeA 2 (by rfl) ?_ (by kernel_rfl) (fun _ _ _ h => h) hs1r ?_ ?_; rotate_left; (focus (intro wq hSw; have hrd := hSw; have a1 := hSw.cellv 1 (v := .int .i64 a.f.pr) rfl; have a2 := hSw.cellv 2 (v := .int .u32 a.f.src) rfl; have a3 := hSw.cellv 3 (v := .int .u32 a.f.dst) rfl; have a4 := hSw.cellv 4 (v := .int .i64 a.f.sp) rfl; have a5 := hSw.cellv 5 (v := .int .i64 a.f.dp) rfl; have a6 := hSw.cellv 6 (v := .int .i64 a.b) rfl; have a7 := hSw.cellv 7 (v := .int .i64 a.t) rfl; have lta2 := hSw.lt; go_simp; try with_reducible rfl; done)); try simp only [Act.put, List.setIfInBounds_toArray, List.set_cons_zero, List.set_cons_succ])
  (refine held_takeA 4 (by rfl) ?_ (by kernel_rfl) (fun _ _ _ h => h) hs1r ?_ ?_; rotate_left; (focus (intro wq hSw; have hrd := hSw; have a1 := hSw.cellv 1 (v := .int .i64 a.f.pr) rfl; have a2 := hSw.cellv 2 (v := .int .u32 a.f.src) rfl; have a3 := hSw.cellv 3 (v := .int .u32 a.f.dst) rfl; have a4 := hSw.cellv 4 (v := .int .i64 a.f.sp) rfl; have a5 := hSw.cellv 5 (v := .int .i64 a.f.dp) rfl; have a6 := hSw.cellv 6 (v := .int .i64 a.b) rfl; have a7 := hSw.cellv 7 (v := .int .i64 a.t) rfl; have lta2 := hSw.lt; go_simp; try with_reducible rfl; done)); try simp only [Act.put, List.setIfInBounds_toArray, List.set_cons_zero, List.set_cons_succ])
  (refine held_takeA 5 (by rfl) ?_ (by kernel_rfl) (fun _ _ _ h => h) hs1r ?_ ?_; rotate_left; (focus (intro wq hSw; have hrd := hSw; have a1 := hSw.cellv 1 (v := .int .i64 a.f.pr) rfl; have a2 := hSw.cellv 2 (v := .int .u32 a.f.src) rfl; have a3 := hSw.cellv 3 (v := .int .u32 a.f.dst) rfl; have a4 := hSw.cellv 4 (v := .int .i64 a.f.sp) rfl; have a5 := hSw.cellv 5 (v := .int .i64 a.f.dp) rfl; have a6 := hSw.cellv 6 (v := .int .i64 a.b) rfl; have a7 := hSw.cellv 7 (v := .int .i64 a.t) rfl; have lta2 := hSw.lt; go_simp; try with_reducible rfl; done)); try simp only [Act.put, List.setIfInBounds_toArray, List.set_cons_zero, List.set_cons_succ])
  (refine held_takeA 6 (by rfl) ?_ (by kernel_rfl) (fun _ _ _ h => h) hs1r ?_ ?_; rotate_left; (focus (intro wq hSw; have hrd := hSw; have a1 := hSw.cellv 1 (v := .int .i64 a.f.pr) rfl; have a2 := hSw.cellv 2 (v := .int .u32 a.f.src) rfl; have a3 := hSw.cellv 3 (v := .int .u32 a.f.dst) rfl; have a4 := hSw.cellv 4 (v := .int .i64 a.f.sp) rfl; have a5 := hSw.cellv 5 (v := .int .i64 a.f.dp) rfl; have a6 := hSw.cellv 6 (v := .int .i64 a.b) rfl; have a7 := hSw.cellv 7 (v := .int .i64 a.t) rfl; have lta2 := hSw.lt; go_simp; try with_reducible rfl; done)); try simp only [Act.put, List.setIfInBounds_toArray, List.set_cons_zero, List.set_cons_succ])
  refine held_callA 3 (by rfl) (by kernel_rfl) (by rfl) (fun KQ hKQ => ?_)
  go_simp
  refine (dropFX (hT1.fwd (Below.refl w1.heap.size w1).drew) a.f hf).mono ?_
  rintro e w2 ⟨rfl, hT2, hC2⟩
  have ha2 := hC2.blk (ha1.below (Below.refl _ _).drew ha1.lt) hXa
  have hd2 := hC2.blk (hd1.below (Below.refl _ _).drew hd1.lt) hdX
  have hs2r := ha2
  refine hKQ.out _ _ hs2r ?_
  clear hKQ KQ
  try simp only [Act.put, List.setIfInBounds_toArray, List.set_cons_zero, List.set_cons_succ]
  refine held_callA 7 (by rfl) (by kernel_rfl) (by rfl) (fun KQ hKQ => ?_)
  go_simp
  refine (ref29_drop w2 d nd a.f hd2).mono ?_
  rintro e w3 ⟨rfl, hb3⟩
  have ha3 := ha2.below hb3 ha2.lt
  have hs3r := ha3
  refine hKQ.out _ _ hs3r ?_
  clear hKQ KQ
  try simp only [Act.put, List.setIfInBounds_toArray, List.set_cons_zero, List.set_cons_succ]
  (refine held_takeA 8 (by rfl) ?_ (by kernel_rfl) (fun _ _ _ h => h) hs3r ?_ ?_; rotate_left; (focus (intro wq hSw; have hrd := hSw; have a1 := hSw.cellv 1 (v := .int .i64 a.f.pr) rfl; have a2 := hSw.cellv 2 (v := .int .u32 a.f.src) rfl; have a3 := hSw.cellv 3 (v := .int .u32 a.f.dst) rfl; have a4 := hSw.cellv 4 (v := .int .i64 a.f.sp) rfl; have a5 := hSw.cellv 5 (v := .int .i64 a.f.dp) rfl; have a6 := hSw.cellv 6 (v := .int .i64 a.b) rfl; have a7 := hSw.cellv 7 (v := .int .i64 a.t) rfl; have lta2 := hSw.lt; go_simp; try with_reducible rfl; done)); try simp only [Act.put, List.setIfInBounds_toArray, List.set_cons_zero, List.set_cons_succ])
  (refine held_takeA 9 (by rfl) ?_ (by kernel_rfl) (fun _ _ _ h => h) hs3r ?_ ?_; rotate_left; (focus (intro wq hSw; have hrd := hSw; have a1 := hSw.cellv 1 (v := .int .i64 a.f.pr) rfl; have a2 := hSw.cellv 2 (v := .int .u32 a.f.src) rfl; have a3 := hSw.cellv 3 (v := .int .u32 a.f.dst) rfl; have a4 := hSw.cellv 4 (v := .int .i64 a.f.sp) rfl; have a5 := hSw.cellv 5 (v := .int .i64 a.f.dp) rfl; have a6 := hSw.cellv 6 (v := .int .i64 a.b) rfl; have a7 := hSw.cellv 7 (v := .int .i64 a.t) rfl; have lta2 := hSw.lt; go_simp; try with_reducible rfl; done)); try simp only [Act.put, List.setIfInBounds_toArray, List.set_cons_zero, List.set_cons_succ])
  refine wpAnyH_done (by kernel_rfl) ?_ _
  try refine NoPanic.normal ?_
  have hT3 := hT2.fwd hb3
  go_wp2_with fail
  all_goals (go_ret; exact ⟨_, _, _, rfl, hT3, (hCw.trans ((Chg.of_below (Below.refl w1.heap.size w1).drew).trans hC2 (fun _ _ q => q)) (fun _ _ q => .inl q)).trans (Chg.of_below (X := fun _ => False) hb3) (fun _ _ q => q.elim)⟩)
set_option maxRecDepth 100000 in
set_option maxHeartbeats 4000000 in
theorem act29_4 (w : World) (X : Nat → Prop) (g : Nat) (ro idl now : Int) (n : Nat) (E : List EnV) (hT : TabF w X g ro idl now n E) (d : Nat) (nd : Int) (hd : Blk w d 193 (docC nd)) (hdX : ¬ X d) (a : ActF) (hf : FloOk a.f) (ht : (Lit.int .i64 a.t).wf = true) (hk : a.k = 4) :
    Calls Try.prog 50 #[.pointer (some ⟨g, 0, none⟩), .pointer (some ⟨d, 0, none⟩), .agg #[.int .i64 a.k, .int .i64 a.f.pr, .int .u32 a.f.src, .int .u32 a.f.dst, .int .i64 a.f.sp, .int .i64 a.f.dp, .int .i64 a.b, .int .i64 a.t]] w (ActR w X g ro idl n d) := by
  replace hk := Lib.hid hk
  have ht1 : a.t ≤ 9223372036854775807 := by
    simp only [Lit.wf, Bool.and_eq_true, decide_eq_true_eq] at ht
    exact ht.2
  have hB1 := (Below.refl w.heap.size w).alloc (Nat.le_refl _) (.cells #[.int .i64 a.k, .int .i64 a.f.pr, .int .u32 a.f.src, .int .u32 a.f.dst, .int .i64 a.f.sp, .int .i64 a.f.dp, .int .i64 a.b, .int .i64 a.t] 72)
  have ha1 := Blk.new w 72 #[.int .i64 a.k, .int .i64 a.f.pr, .int .u32 a.f.src, .int .u32 a.f.dst, .int .i64 a.f.sp, .int .i64 a.f.dp, .int .i64 a.b, .int .i64 a.t]
  have hT1 := hT.fwd hB1
  have hd1 := hd.alloc (.cells #[.int .i64 a.k, .int .i64 a.f.pr, .int .u32 a.f.src, .int .u32 a.f.dst, .int .i64 a.f.sp, .int .i64 a.f.dp, .int .i64 a.b, .int .i64 a.t] 72)
  have hXl := hT.good.2.2.2.2
  have hdl := hd.lt
  go_enter Try.func50, Try.ntmps50
  go_upto_region 1 with (fail)
  generalize w.alloc (.cells #[.int .i64 a.k, .int .i64 a.f.pr, .int .u32 a.f.src, .int .u32 a.f.dst, .int .i64 a.f.sp, .int .i64 a.f.dp, .int .i64 a.b, .int .i64 a.t] 72) = w1 at *
  have hXa : ¬ X w.heap.size := fun q => by have := hXl _ q; omega
  have hda : w.heap.size ≠ d := by omega
  have hCw : Chg w w1 (fun k => X k ∨ k = d) := Chg.of_below hB1
  generalize w.heap.size = ab at *
  have a0 := ha1.cellv 0 (v := .int .i64 a.k) rfl
  have a1 := ha1.cellv 1 (v := .int .i64 a.f.pr) rfl
  have a2 := ha1.cellv 2 (v := .int .u32 a.f.src) rfl
  have a3 := ha1.cellv 3 (v := .int .u32 a.f.dst) rfl
  have a4 := ha1.cellv 4 (v := .int .i64 a.f.sp) rfl
  have a5 := ha1.cellv 5 (v := .int .i64 a.f.dp) rfl
  have a6 := ha1.cellv 6 (v := .int .i64 a.b) rfl
  have a7 := ha1.cellv 7 (v := .int .i64 a.t) rfl
  have lta := ha1.lt
  have n0 : (a.k == 0) = false := by rw [beq_eq_false_iff_ne]; have := hk.out; omega
  have n1 : (a.k == 1) = false := by rw [beq_eq_false_iff_ne]; have := hk.out; omega
  have n2 : (a.k == 2) = false := by rw [beq_eq_false_iff_ne]; have := hk.out; omega
  have n3 : (a.k == 3) = false := by rw [beq_eq_false_iff_ne]; have := hk.out; omega
  have y4 : (a.k == 4) = true := by rw [beq_iff_eq]; exact hk.out
  go_upto_region 17 with (fail)
  clear a0 a1 a2 a3 a4 a5 a6 a7 lta
  -- region 17: 0 1 2 3C 4 5 6 7C 8 9
  try refine wp_region_noPanic ?_
  have hs4r : (fun w' => Blk w' ab 72 #[.int .i64 a.k, .int .i64 a.f.pr, .int .u32 a.f.src, .int .u32 a.f.dst, .int .i64 a.f.sp, .int .i64 a.f.dp, .int .i64 a.b, .int .i64 a.t]) w1.drew := ha1.below (Below.refl _ _).drew ha1.lt
  refine wp_region_held_drew (S := fun w' => Blk w' ab 72 #[.int .i64 a.k, .int .i64 a.f.pr, .int .u32 a.f.src, .int .u32 a.f.dst, .int .i64 a.f.sp, .int .i64 a.f.dp, .int .i64 a.b, .int .i64 a.t]) (by kernel_rfl) hs4r (fun _ => ?_)
  (refine held_takeA 0 (by rfl) ?_ (by kernel_rfl) (fun _ _ _ h => h) hs4r ?_ ?_; rotate_left; (focus (intro wq hSw; have hrd := hSw; have a1 := hSw.cellv 1 (v := .int .i64 a.f.pr) rfl; have a2 := hSw.cellv 2 (v := .int .u32 a.f.src) rfl; have a3 := hSw.cellv 3 (v := .int .u32 a.f.dst) rfl; have a4 := hSw.cellv 4 (v := .int .i64 a.f.sp) rfl; have a5 := hSw.cellv 5 (v := .int .i64 a.f.dp) rfl; have a6 := hSw.cellv 6 (v := .int .i64 a.b) rfl; have a7 := hSw.cellv 7 (v := .int .i64 a.t) rfl; have lta2 := hSw.lt; go_simp; try with_reducible rfl; done)); try simp only [Act.put, List.setIfInBounds_toArray, List.set_cons_zero, List.set_cons_succ])
  (refine held_takeA 1 (by rfl) ?_ (by kernel_rfl) (fun _ _ _ h => h) hs4r ?_ ?_; rotate_left; (focus (intro wq hSw; have hrd := hSw; have a1 := hSw.cellv 1 (v := .int .i64 a.f.pr) rfl; have a2 := hSw.cellv 2 (v := .int .u32 a.f.src) rfl; have a3 := hSw.cellv 3 (v := .int .u32 a.f.dst) rfl; have a4 := hSw.cellv 4 (v := .int .i64 a.f.sp) rfl; have a5 := hSw.cellv 5 (v := .int .i64 a.f.dp) rfl; have a6 := hSw.cellv 6 (v := .int .i64 a.b) rfl; have a7 := hSw.cellv 7 (v := .int .i64 a.t) rfl; have lta2 := hSw.lt; go_simp; try with_reducible rfl; done)); try simp only [Act.put, List.setIfInBounds_toArray, List.set_cons_zero, List.set_cons_succ])
  (refine held_takeA 2 (by rfl) ?_ (by kernel_rfl) (fun _ _ _ h => h) hs4r ?_ ?_; rotate_left; (focus (intro wq hSw; have hrd := hSw; have a1 := hSw.cellv 1 (v := .int .i64 a.f.pr) rfl; have a2 := hSw.cellv 2 (v := .int .u32 a.f.src) rfl; have a3 := hSw.cellv 3 (v := .int .u32 a.f.dst) rfl; have a4 := hSw.cellv 4 (v := .int .i64 a.f.sp) rfl; have a5 := hSw.cellv 5 (v := .int .i64 a.f.dp) rfl; have a6 := hSw.cellv 6 (v := .int .i64 a.b) rfl; have a7 := hSw.cellv 7 (v := .int .i64 a.t) rfl; have lta2 := hSw.lt; go_simp; try with_reducible rfl; done)); try simp only [Act.put, List.setIfInBounds_toArray, List.set_cons_zero, List.set_cons_succ])
  (refine held_takeA 4 (by rfl) ?_ (by kernel_rfl) (fun _ _ _ h => h) hs4r ?_ ?_; rotate_left; (focus (intro wq hSw; have hrd := hSw; have a1 := hSw.cellv 1 (v := .int .i64 a.f.pr) rfl; have a2 := hSw.cellv 2 (v := .int .u32 a.f.src) rfl; have a3 := hSw.cellv 3 (v := .int .u32 a.f.dst) rfl; have a4 := hSw.cellv 4 (v := .int .i64 a.f.sp) rfl; have a5 := hSw.cellv 5 (v := .int .i64 a.f.dp) rfl; have a6 := hSw.cellv 6 (v := .int .i64 a.b) rfl; have a7 := hSw.cellv 7 (v := .int .i64 a.t) rfl; have lta2 := hSw.lt; go_simp; try with_reducible rfl; done)); try simp only [Act.put, List.setIfInBounds_toArray, List.set_cons_zero, List.set_cons_succ])
  (refine held_takeA 5 (by rfl) ?_ (by kernel_rfl) (fun _ _ _ h => h) hs4r ?_ ?_; rotate_left; (focus (intro wq hSw; have hrd := hSw; have a1 := hSw.cellv 1 (v := .int .i64 a.f.pr) rfl; have a2 := hSw.cellv 2 (v := .int .u32 a.f.src) rfl; have a3 := hSw.cellv 3 (v := .int .u32 a.f.dst) rfl; have a4 := hSw.cellv 4 (v := .int .i64 a.f.sp) rfl; have a5 := hSw.cellv 5 (v := .int .i64 a.f.dp) rfl; have a6 := hSw.cellv 6 (v := .int .i64 a.b) rfl; have a7 := hSw.cellv 7 (v := .int .i64 a.t) rfl; have lta2 := hSw.lt; go_simp; try with_reducible rfl; done)); try simp only [Act.put, List.setIfInBounds_toArray, List.set_cons_zero, List.set_cons_succ])
  (refine held_takeA 6 (by rfl) ?_ (by kernel_rfl) (fun _ _ _ h => h) hs4r ?_ ?_; rotate_left; (focus (intro wq hSw; have hrd := hSw; have a1 := hSw.cellv 1 (v := .int .i64 a.f.pr) rfl; have a2 := hSw.cellv 2 (v := .int .u32 a.f.src) rfl; have a3 := hSw.cellv 3 (v := .int .u32 a.f.dst) rfl; have a4 := hSw.cellv 4 (v := .int .i64 a.f.sp) rfl; have a5 := hSw.cellv 5 (v := .int .i64 a.f.dp) rfl; have a6 := hSw.cellv 6 (v := .int .i64 a.b) rfl; have a7 := hSw.cellv 7 (v := .int .i64 a.t) rfl; have lta2 := hSw.lt; go_simp; try with_reducible rfl; done)); try simp only [Act.put, List.setIfInBounds_toArray, List.set_cons_zero, List.set_cons_succ])
  refine held_callA 3 (by rfl) (by kernel_rfl) (by rfl) (fun KQ hKQ => ?_)
  go_simp
  refine (purgeFX (hT1.fwd (Below.refl w1.heap.size w1).drew) a.b).mono ?_
  rintro e w2 ⟨rfl, hT2, hC2⟩
  have ha2 := hC2.blk (ha1.below (Below.refl _ _).drew ha1.lt) hXa
  have hd2 := hC2.blk (hd1.below (Below.refl _ _).drew hd1.lt) hdX
  have hs5r := ha2
  refine hKQ.out _ _ hs5r ?_
  clear hKQ KQ
  try simp only [Act.put, List.setIfInBounds_toArray, List.set_cons_zero, List.set_cons_succ]
  refine held_callA 7 (by rfl) (by kernel_rfl) (by rfl) (fun KQ hKQ => ?_)
  go_simp
  refine (ref29_purge w2 d nd a.b hd2).mono ?_
  rintro e w3 ⟨rfl, hC3⟩
  have ha3 := hC3.blk ha2 hda
  have hs6r := ha3
  refine hKQ.out _ _ hs6r ?_
  clear hKQ KQ
  try simp only [Act.put, List.setIfInBounds_toArray, List.set_cons_zero, List.set_cons_succ]
  (refine held_takeA 8 (by rfl) ?_ (by kernel_rfl) (fun _ _ _ h => h) hs6r ?_ ?_; rotate_left; (focus (intro wq hSw; have hrd := hSw; have a1 := hSw.cellv 1 (v := .int .i64 a.f.pr) rfl; have a2 := hSw.cellv 2 (v := .int .u32 a.f.src) rfl; have a3 := hSw.cellv 3 (v := .int .u32 a.f.dst) rfl; have a4 := hSw.cellv 4 (v := .int .i64 a.f.sp) rfl; have a5 := hSw.cellv 5 (v := .int .i64 a.f.dp) rfl; have a6 := hSw.cellv 6 (v := .int .i64 a.b) rfl; have a7 := hSw.cellv 7 (v := .int .i64 a.t) rfl; have lta2 := hSw.lt; go_simp; try with_reducible rfl; done)); try simp only [Act.put, List.setIfInBounds_toArray, List.set_cons_zero, List.set_cons_succ])
  (refine held_takeA 9 (by rfl) ?_ (by kernel_rfl) (fun _ _ _ h => h) hs6r ?_ ?_; rotate_left; (focus (intro wq hSw; have hrd := hSw; have a1 := hSw.cellv 1 (v := .int .i64 a.f.pr) rfl; have a2 := hSw.cellv 2 (v := .int .u32 a.f.src) rfl; have a3 := hSw.cellv 3 (v := .int .u32 a.f.dst) rfl; have a4 := hSw.cellv 4 (v := .int .i64 a.f.sp) rfl; have a5 := hSw.cellv 5 (v := .int .i64 a.f.dp) rfl; have a6 := hSw.cellv 6 (v := .int .i64 a.b) rfl; have a7 := hSw.cellv 7 (v := .int .i64 a.t) rfl; have lta2 := hSw.lt; go_simp; try with_reducible rfl; done)); try simp only [Act.put, List.setIfInBounds_toArray, List.set_cons_zero, List.set_cons_succ])
  refine wpAnyH_done (by kernel_rfl) ?_ _
  try refine NoPanic.normal ?_
  have hT3 := hT2.chg hC3 (fun k hk2 q => hdX (q ▸ hk2))
  go_wp2_with fail
  all_goals (go_ret; exact ⟨_, _, _, rfl, hT3, (hCw.trans ((Chg.of_below (Below.refl w1.heap.size w1).drew).trans hC2 (fun _ _ q => q)) (fun _ _ q => .inl q)).trans hC3 (fun _ _ q => .inr q)⟩)
set_option maxRecDepth 100000 in
set_option maxHeartbeats 4000000 in
theorem act29_5 (w : World) (X : Nat → Prop) (g : Nat) (ro idl now : Int) (n : Nat) (E : List EnV) (hT : TabF w X g ro idl now n E) (d : Nat) (nd : Int) (hd : Blk w d 193 (docC nd)) (hdX : ¬ X d) (a : ActF) (hf : FloOk a.f) (ht : (Lit.int .i64 a.t).wf = true) (hk : a.k < 0 ∨ 4 < a.k) :
    Calls Try.prog 50 #[.pointer (some ⟨g, 0, none⟩), .pointer (some ⟨d, 0, none⟩), .agg #[.int .i64 a.k, .int .i64 a.f.pr, .int .u32 a.f.src, .int .u32 a.f.dst, .int .i64 a.f.sp, .int .i64 a.f.dp, .int .i64 a.b, .int .i64 a.t]] w (ActR w X g ro idl n d) := by
  replace hk := Lib.hid hk
  have ht1 : a.t ≤ 9223372036854775807 := by
    simp only [Lit.wf, Bool.and_eq_true, decide_eq_true_eq] at ht
    exact ht.2
  have hB1 := (Below.refl w.heap.size w).alloc (Nat.le_refl _) (.cells #[.int .i64 a.k, .int .i64 a.f.pr, .int .u32 a.f.src, .int .u32 a.f.dst, .int .i64 a.f.sp, .int .i64 a.f.dp, .int .i64 a.b, .int .i64 a.t] 72)
  have ha1 := Blk.new w 72 #[.int .i64 a.k, .int .i64 a.f.pr, .int .u32 a.f.src, .int .u32 a.f.dst, .int .i64 a.f.sp, .int .i64 a.f.dp, .int .i64 a.b, .int .i64 a.t]
  have hT1 := hT.fwd hB1
  have hd1 := hd.alloc (.cells #[.int .i64 a.k, .int .i64 a.f.pr, .int .u32 a.f.src, .int .u32 a.f.dst, .int .i64 a.f.sp, .int .i64 a.f.dp, .int .i64 a.b, .int .i64 a.t] 72)
  have hXl := hT.good.2.2.2.2
  have hdl := hd.lt
  go_enter Try.func50, Try.ntmps50
  go_upto_region 1 with (fail)
  generalize w.alloc (.cells #[.int .i64 a.k, .int .i64 a.f.pr, .int .u32 a.f.src, .int .u32 a.f.dst, .int .i64 a.f.sp, .int .i64 a.f.dp, .int .i64 a.b, .int .i64 a.t] 72) = w1 at *
  have hXa : ¬ X w.heap.size := fun q => by have := hXl _ q; omega
  have hda : w.heap.size ≠ d := by omega
  have hCw : Chg w w1 (fun k => X k ∨ k = d) := Chg.of_below hB1
  generalize w.heap.size = ab at *
  have a0 := ha1.cellv 0 (v := .int .i64 a.k) rfl
  have a1 := ha1.cellv 1 (v := .int .i64 a.f.pr) rfl
  have a2 := ha1.cellv 2 (v := .int .u32 a.f.src) rfl
  have a3 := ha1.cellv 3 (v := .int .u32 a.f.dst) rfl
  have a4 := ha1.cellv 4 (v := .int .i64 a.f.sp) rfl
  have a5 := ha1.cellv 5 (v := .int .i64 a.f.dp) rfl
  have a6 := ha1.cellv 6 (v := .int .i64 a.b) rfl
  have a7 := ha1.cellv 7 (v := .int .i64 a.t) rfl
  have lta := ha1.lt
  have n0 : (a.k == 0) = false := by rw [beq_eq_false_iff_ne]; have := hk.out; omega
  have n1 : (a.k == 1) = false := by rw [beq_eq_false_iff_ne]; have := hk.out; omega
  have n2 : (a.k == 2) = false := by rw [beq_eq_false_iff_ne]; have := hk.out; omega
  have n3 : (a.k == 3) = false := by rw [beq_eq_false_iff_ne]; have := hk.out; omega
  have n4 : (a.k == 4) = false := by rw [beq_eq_false_iff_ne]; have := hk.out; omega
  go_upto_region 18 with (fail)
  clear a0 a1 a2 a3 a4 a5 a6 a7 lta
  -- region 18: 0 1 2 3C 4C 5 6 7 8C 9C 10
  try refine wp_region_noPanic ?_
  have hs7r : (fun w' => Blk w' ab 72 #[.int .i64 a.k, .int .i64 a.f.pr, .int .u32 a.f.src, .int .u32 a.f.dst, .int .i64 a.f.sp, .int .i64 a.f.dp, .int .i64 a.b, .int .i64 a.t]) w1.drew := ha1.below (Below.refl _ _).drew ha1.lt
  refine wp_region_held_drew (S := fun w' => Blk w' ab 72 #[.int .i64 a.k, .int .i64 a.f.pr, .int .u32 a.f.src, .int .u32 a.f.dst, .int .i64 a.f.sp, .int .i64 a.f.dp, .int .i64 a.b, .int .i64 a.t]) (by kernel_rfl) hs7r (fun _ => ?_)
  (refine held_takeA 0 (by rfl) ?_ (by kernel_rfl) (fun _ _ _ h => h) hs7r ?_ ?_; rotate_left; (focus (intro wq hSw; have hrd := hSw; have a1 := hSw.cellv 1 (v := .int .i64 a.f.pr) rfl; have a2 := hSw.cellv 2 (v := .int .u32 a.f.src) rfl; have a3 := hSw.cellv 3 (v := .int .u32 a.f.dst) rfl; have a4 := hSw.cellv 4 (v := .int .i64 a.f.sp) rfl; have a5 := hSw.cellv 5 (v := .int .i64 a.f.dp) rfl; have a6 := hSw.cellv 6 (v := .int .i64 a.b) rfl; have a7 := hSw.cellv 7 (v := .int .i64 a.t) rfl; have lta2 := hSw.lt; go_simp; try with_reducible rfl; done)); try simp only [Act.put, List.setIfInBounds_toArray, List.set_cons_zero, List.set_cons_succ])
  (refine held_takeA 1 (by rfl) ?_ (by kernel_rfl) (fun _ _ _ h => h) hs7r ?_ ?_; rotate_left; (focus (intro wq hSw; have hrd := hSw; have a1 := hSw.cellv 1 (v := .int .i64 a.f.pr) rfl; have a2 := hSw.cellv 2 (v := .int .u32 a.f.src) rfl; have a3 := hSw.cellv 3 (v := .int .u32 a.f.dst) rfl; have a4 := hSw.cellv 4 (v := .int .i64 a.f.sp) rfl; have a5 := hSw.cellv 5 (v := .int .i64 a.f.dp) rfl; have a6 := hSw.cellv 6 (v := .int .i64 a.b) rfl; have a7 := hSw.cellv 7 (v := .int .i64 a.t) rfl; have lta2 := hSw.lt; go_simp; try with_reducible rfl; done)); try simp only [Act.put, List.setIfInBounds_toArray, List.set_cons_zero, List.set_cons_succ])
  (refine held_takeA 2 (by rfl) ?_ (by kernel_rfl) (fun _ _ _ h => h) hs7r ?_ ?_; rotate_left; (focus (intro wq hSw; have hrd := hSw; have a1 := hSw.cellv 1 (v := .int .i64 a.f.pr) rfl; have a2 := hSw.cellv 2 (v := .int .u32 a.f.src) rfl; have a3 := hSw.cellv 3 (v := .int .u32 a.f.dst) rfl; have a4 := hSw.cellv 4 (v := .int .i64 a.f.sp) rfl; have a5 := hSw.cellv 5 (v := .int .i64 a.f.dp) rfl; have a6 := hSw.cellv 6 (v := .int .i64 a.b) rfl; have a7 := hSw.cellv 7 (v := .int .i64 a.t) rfl; have lta2 := hSw.lt; go_simp; try with_reducible rfl; done)); try simp only [Act.put, List.setIfInBounds_toArray, List.set_cons_zero, List.set_cons_succ])
  (refine held_takeA 5 (by rfl) ?_ (by kernel_rfl) (fun _ _ _ h => h) hs7r ?_ ?_; rotate_left; (focus (intro wq hSw; have hrd := hSw; have a1 := hSw.cellv 1 (v := .int .i64 a.f.pr) rfl; have a2 := hSw.cellv 2 (v := .int .u32 a.f.src) rfl; have a3 := hSw.cellv 3 (v := .int .u32 a.f.dst) rfl; have a4 := hSw.cellv 4 (v := .int .i64 a.f.sp) rfl; have a5 := hSw.cellv 5 (v := .int .i64 a.f.dp) rfl; have a6 := hSw.cellv 6 (v := .int .i64 a.b) rfl; have a7 := hSw.cellv 7 (v := .int .i64 a.t) rfl; have lta2 := hSw.lt; go_simp; try with_reducible rfl; done)); try simp only [Act.put, List.setIfInBounds_toArray, List.set_cons_zero, List.set_cons_succ])
  (refine held_takeA 6 (by rfl) ?_ (by kernel_rfl) (fun _ _ _ h => h) hs7r ?_ ?_; rotate_left; (focus (intro wq hSw; have hrd := hSw; have a1 := hSw.cellv 1 (v := .int .i64 a.f.pr) rfl; have a2 := hSw.cellv 2 (v := .int .u32 a.f.src) rfl; have a3 := hSw.cellv 3 (v := .int .u32 a.f.dst) rfl; have a4 := hSw.cellv 4 (v := .int .i64 a.f.sp) rfl; have a5 := hSw.cellv 5 (v := .int .i64 a.f.dp) rfl; have a6 := hSw.cellv 6 (v := .int .i64 a.b) rfl; have a7 := hSw.cellv 7 (v := .int .i64 a.t) rfl; have lta2 := hSw.lt; go_simp; try with_reducible rfl; done)); try simp only [Act.put, List.setIfInBounds_toArray, List.set_cons_zero, List.set_cons_succ])
  (refine held_takeA 7 (by rfl) ?_ (by kernel_rfl) (fun _ _ _ h => h) hs7r ?_ ?_; rotate_left; (focus (intro wq hSw; have hrd := hSw; have a1 := hSw.cellv 1 (v := .int .i64 a.f.pr) rfl; have a2 := hSw.cellv 2 (v := .int .u32 a.f.src) rfl; have a3 := hSw.cellv 3 (v := .int .u32 a.f.dst) rfl; have a4 := hSw.cellv 4 (v := .int .i64 a.f.sp) rfl; have a5 := hSw.cellv 5 (v := .int .i64 a.f.dp) rfl; have a6 := hSw.cellv 6 (v := .int .i64 a.b) rfl; have a7 := hSw.cellv 7 (v := .int .i64 a.t) rfl; have lta2 := hSw.lt; go_simp; try with_reducible rfl; done)); try simp only [Act.put, List.setIfInBounds_toArray, List.set_cons_zero, List.set_cons_succ])
  refine held_callA 3 (by rfl) (by kernel_rfl) (by rfl) (fun KQ hKQ => ?_)
  go_simp
  refine (expireFX (hT1.fwd (Below.refl w1.heap.size w1).drew) a.t ht1).mono ?_
  rintro e w2 ⟨v, rfl, hrow, hT2, hC2⟩
  have ha2 := hC2.blk (ha1.below (Below.refl _ _).drew ha1.lt) hXa
  have hd2 := hC2.blk (hd1.below (Below.refl _ _).drew hd1.lt) hdX
  obtain ⟨A9, c9, rfl, -, -, hS9⟩ := hrow.seen (Nat.le_refl _)
  have hll : (E.filter (soE (max now a.t) idl)).length ≤ 1000000 := by
    have h1 := List.length_filter_le (soE (max now a.t) idl) E
    have h2 := hT.good
    omega
  have hs8r := ha2
  refine hKQ.out _ _ hs8r ?_
  clear hKQ KQ
  try simp only [Act.put, List.setIfInBounds_toArray, List.set_cons_zero, List.set_cons_succ]
  refine held_callA 4 (by rfl) (by kernel_rfl) (by rfl) (fun KQ hKQ => ?_)
  go_simp
  refine (plain29_any w2 _ _ _ c9 _ hS9 (fun _ q => q.2) hll).mono ?_
  rintro e w3 ⟨A8, c8, rfl, hb3⟩
  have ha3 := ha2.below hb3 ha2.lt
  have hd3 := hd2.below hb3 hd2.lt
  have hT3 := hT2.fwd hb3
  have hs9r := ha3
  refine hKQ.out _ _ hs9r ?_
  clear hKQ KQ
  try simp only [Act.put, List.setIfInBounds_toArray, List.set_cons_zero, List.set_cons_succ]
  refine held_callA 8 (by rfl) (by kernel_rfl) (by rfl) (fun KQ hKQ => ?_)
  go_simp
  refine (ref29_expire w3 d nd a.t hd3).mono ?_
  rintro e w4 ⟨rfl, hC4⟩
  have ha4 := hC4.blk ha3 hda
  have hT4 := hT3.chg hC4 (fun k hk2 q => hdX (q ▸ hk2))
  have hs10r := ha4
  refine hKQ.out _ _ hs10r ?_
  clear hKQ KQ
  try simp only [Act.put, List.setIfInBounds_toArray, List.set_cons_zero, List.set_cons_succ]
  refine held_callA 9 (by rfl) (by kernel_rfl) (by rfl) (fun KQ hKQ => ?_)
  go_simp
  refine (same29_nil w4 A8 _ c8 hll).mono ?_
  rintro e w5 ⟨⟨bb, rfl⟩, rfl⟩
  have hs11r := ha4
  refine hKQ.out _ _ hs11r ?_
  clear hKQ KQ
  try simp only [Act.put, List.setIfInBounds_toArray, List.set_cons_zero, List.set_cons_succ]
  (refine held_takeA 10 (by rfl) ?_ (by kernel_rfl) (fun _ _ _ h => h) hs11r ?_ ?_; rotate_left; (focus (intro wq hSw; have hrd := hSw; have a1 := hSw.cellv 1 (v := .int .i64 a.f.pr) rfl; have a2 := hSw.cellv 2 (v := .int .u32 a.f.src) rfl; have a3 := hSw.cellv 3 (v := .int .u32 a.f.dst) rfl; have a4 := hSw.cellv 4 (v := .int .i64 a.f.sp) rfl; have a5 := hSw.cellv 5 (v := .int .i64 a.f.dp) rfl; have a6 := hSw.cellv 6 (v := .int .i64 a.b) rfl; have a7 := hSw.cellv 7 (v := .int .i64 a.t) rfl; have lta2 := hSw.lt; go_simp; try with_reducible rfl; done)); try simp only [Act.put, List.setIfInBounds_toArray, List.set_cons_zero, List.set_cons_succ])
  refine wpAnyH_done (by kernel_rfl) ?_ _
  try refine NoPanic.normal ?_
  go_wp2_with fail
  go_ret
  exact ⟨_, _, _, rfl, hT4, ((hCw.trans ((Chg.of_below (Below.refl w1.heap.size w1).drew).trans hC2 (fun _ _ q => q)) (fun _ _ q => .inl q)).trans (Chg.of_below (X := fun _ => False) hb3) (fun _ _ q => q.elim)).trans hC4 (fun _ _ q => .inr q)⟩
theorem act29_any (w : World) (X : Nat → Prop) (g : Nat) (ro idl now : Int) (n : Nat) (E : List EnV) (hT : TabF w X g ro idl now n E) (d : Nat) (nd : Int) (hd : Blk w d 193 (docC nd)) (hdX : ¬ X d) (a : ActF) (hf : FloOk a.f) (ht : (Lit.int .i64 a.t).wf = true) (hk : a.k ≠ 0) :
    Calls Try.prog 50 #[.pointer (some ⟨g, 0, none⟩), .pointer (some ⟨d, 0, none⟩), .agg #[.int .i64 a.k, .int .i64 a.f.pr, .int .u32 a.f.src, .int .u32 a.f.dst, .int .i64 a.f.sp, .int .i64 a.f.dp, .int .i64 a.b, .int .i64 a.t]] w (ActR w X g ro idl n d) := by
  by_cases h1 : a.k = 1
  · exact act29_1 w X g ro idl now n E hT d nd hd hdX a hf ht h1
  by_cases h2 : a.k = 2
  · exact act29_2 w X g ro idl now n E hT d nd hd hdX a hf ht h2
  by_cases h3 : a.k = 3
  · exact act29_3 w X g ro idl now n E hT d nd hd hdX a hf ht h3
  by_cases h4 : a.k = 4
  · exact act29_4 w X g ro idl now n E hT d nd hd hdX a hf ht h4
  · exact act29_5 w X g ro idl now n E hT d nd hd hdX a hf ht (by omega)
end Go.Proofs.Ytejgekoinbdhjaa
