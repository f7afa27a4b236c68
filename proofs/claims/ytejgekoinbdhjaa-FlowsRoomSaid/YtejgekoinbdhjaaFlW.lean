/- flows: FlowsRoom: the law is true of every input. -/
import Derived.Test.YtejgekoinbdhjaaFlV
namespace Go.Proofs.Ytejgekoinbdhjaa
set_option linter.unusedVariables false
open Go Go.RowKit Go.Maps

set_option maxRecDepth 100000 in
set_option maxHeartbeats 16000000 in
theorem room29_walk (rm : Int) (A : Option Addr) (n c : Nat) (L : List ActF) (w : World) (_wi : (Lit.int .u8 rm).wf = true) (hc : n ≤ c) (hm : c ≤ maxLen) (hS : Seen actFK w (fun b => b < w.heap.size) A n L) :
    Calls Try.prog 9 #[.int .u8 rm, .slice A n c] w fun e w' => e = .returned (.bool true) ∧ Below w.heap.size w w' := by
  have hl1 := Lib.hid hS.1
  have hi := _wi
  simp only [Lit.wf, Bool.and_eq_true, decide_eq_true_eq] at hi
  replace hi : 0 ≤ rm ∧ rm ≤ 255 := hi
  go_enter Try.func9, Try.ntmps9
  by_cases hbig : 150 < n
  · have d1 : decide ((150 : Int) < n) = true := by simp; omega
    go_wp2_with (go_at_call 38; refine (lives29_any w).mono ?_; rintro e w' ⟨rfl, hb⟩)
    go_ret
    exact ⟨rfl, hb⟩
  have hn1 : n ≤ 150 := by omega
  have d1 : decide ((150 : Int) < n) = false := by simp; omega
  clear hbig
  go_upto_region 4 with (fail)
  have hro : 1 ≤ 1 + rm % 12 ∧ 1 + rm % 12 ≤ 12 := by omega
  generalize 1 + rm % 12 = ro at *
  clear d1
  go_wp2_with fail
  refine (newFX w ro 1000 (by omega) (by omega) (by omega) (by omega)).mono ?_
  rintro e w1 ⟨g, X, rfl, hT, hX, hB⟩
  go_wp2_with fail
  go_loopw [32] (fun i wr => ∃ (k m : Nat) (now : Int) (E : List EnV) (Y : Nat → Prop), k ≤ n ∧ i = .int .i64 (k : Int) ∧ m ≤ k ∧ TabF wr Y g ro 1000 now m E ∧ (∀ j, Y j → w.heap.size ≤ j) ∧ Below w.heap.size w wr) (fun i _ => n - (intOf i).toNat)
  case atStart => exact ⟨0, 0, 0, [], X, Nat.zero_le _, rfl, Nat.le_refl _, hT, hX, hB⟩
  case round =>
  generalize wr = wo at *
  clear hT hX hB
  obtain ⟨k, m, now, E, Y, hk, rfl, hmk, hT, hY, hB⟩ := hrel
  have hz := hB.size
  by_cases hlt : k < n
  rotate_left
  · obtain rfl : k = n := by omega
    go_wp2_with (go_at_call 38; refine (lives29_any _).mono ?_; rintro e w9 ⟨rfl, hb⟩)
    go_ret
    exact ⟨rfl, hB.trans (hb.mono hz)⟩
  obtain ⟨bb, off, a, rfl, hbb, hak, haf, hat, q0, q1, q2, q3, q4, q5, q6, q7⟩ := actF_cells (hS.below hB (fun _ q => q)) hlt
  have ltb : bb < wo.heap.size := Nat.lt_of_lt_of_le hbb hz
  have hki : (k : Int) < n := by omega
  have hat1 : a.t ≤ 9223372036854775807 := by
    have := hat
    simp only [Lit.wf, Bool.and_eq_true, decide_eq_true_eq] at this
    exact this.2
  have hb2 := (Below.refl wo.heap.size wo).alloc (Nat.le_refl _) (.cells #[.int .i64 a.k, .int .i64 a.f.pr, .int .u32 a.f.src, .int .u32 a.f.dst, .int .i64 a.f.sp, .int .i64 a.f.dp, .int .i64 a.b, .int .i64 a.t] 72)
  have ha2 := Blk.new wo 72 #[.int .i64 a.k, .int .i64 a.f.pr, .int .u32 a.f.src, .int .u32 a.f.dst, .int .i64 a.f.sp, .int .i64 a.f.dp, .int .i64 a.b, .int .i64 a.t]
  have hT2 := hT.fwd hb2
  have hB2 := hB.alloc hz (.cells #[.int .i64 a.k, .int .i64 a.f.pr, .int .u32 a.f.src, .int .u32 a.f.dst, .int .i64 a.f.sp, .int .i64 a.f.dp, .int .i64 a.b, .int .i64 a.t] 72)
  have hYl := hT.good.2.2.2.2
  go_upto_region 8 with (fail)
  clear q0 q1 q2 q3 q4 q5 q6 q7
  generalize wo.alloc (.cells #[.int .i64 a.k, .int .i64 a.f.pr, .int .u32 a.f.src, .int .u32 a.f.dst, .int .i64 a.f.sp, .int .i64 a.f.dp, .int .i64 a.b, .int .i64 a.t] 72) = w2 at *
  obtain ⟨ab, hab⟩ : ∃ ab, ab = wo.heap.size := ⟨_, rfl⟩
  rw [← hab] at ha2
  have hYa : ¬ Y ab := fun q => by have := hYl _ q; omega
  have haw : w.heap.size ≤ ab := by omega
  rw [← hab]
  replace hab := Lib.hid hab
  clear hT hB hb2
  have a0 := ha2.cellv 0 (v := .int .i64 a.k) rfl
  have a1 := ha2.cellv 1 (v := .int .i64 a.f.pr) rfl
  have a2 := ha2.cellv 2 (v := .int .u32 a.f.src) rfl
  have a3 := ha2.cellv 3 (v := .int .u32 a.f.dst) rfl
  have a4 := ha2.cellv 4 (v := .int .i64 a.f.sp) rfl
  have a5 := ha2.cellv 5 (v := .int .i64 a.f.dp) rfl
  have a6 := ha2.cellv 6 (v := .int .i64 a.b) rfl
  have a7 := ha2.cellv 7 (v := .int .i64 a.t) rfl
  have lta := ha2.lt
  by_cases hk0 : a.k = 0
  rotate_left
  · have n0 : (a.k != 0) = true := by rw [bne_iff_ne]; exact hk0
    replace hk0 := Lib.hid hk0
    go_upto_region 9 with (fail)
    clear a0 a1 a2 a3 a4 a5 a6 a7 lta
    -- region 9: 0 1C 2 3C
    try refine wp_region_noPanic ?_
    have hs1r : (fun w' => Blk w' ab 72 #[.int .i64 a.k, .int .i64 a.f.pr, .int .u32 a.f.src, .int .u32 a.f.dst, .int .i64 a.f.sp, .int .i64 a.f.dp, .int .i64 a.b, .int .i64 a.t]) w2.drew := ha2.below (Below.refl _ _).drew ha2.lt
    refine wp_region_held_drew (S := fun w' => Blk w' ab 72 #[.int .i64 a.k, .int .i64 a.f.pr, .int .u32 a.f.src, .int .u32 a.f.dst, .int .i64 a.f.sp, .int .i64 a.f.dp, .int .i64 a.b, .int .i64 a.t]) (by kernel_rfl) hs1r (fun _ => ?_)
    (refine held_takeA 0 (by rfl) ?_ (by kernel_rfl) (fun _ _ _ h => h) hs1r ?_ ?_; rotate_left; (focus (intro wq hSw; have hrd := hSw; have a0 := hSw.cellv 0 (v := .int .i64 a.k) rfl; have a1 := hSw.cellv 1 (v := .int .i64 a.f.pr) rfl; have a2 := hSw.cellv 2 (v := .int .u32 a.f.src) rfl; have a3 := hSw.cellv 3 (v := .int .u32 a.f.dst) rfl; have a4 := hSw.cellv 4 (v := .int .i64 a.f.sp) rfl; have a5 := hSw.cellv 5 (v := .int .i64 a.f.dp) rfl; have a6 := hSw.cellv 6 (v := .int .i64 a.b) rfl; have a7 := hSw.cellv 7 (v := .int .i64 a.t) rfl; have lta2 := hSw.lt; go_simp; try with_reducible rfl; done)); try simp only [Act.put, List.setIfInBounds_toArray, List.set_cons_zero, List.set_cons_succ])
    (refine held_takeA 2 (by rfl) ?_ (by kernel_rfl) (fun _ _ _ h => h) hs1r ?_ ?_; rotate_left; (focus (intro wq hSw; have hrd := hSw; have a0 := hSw.cellv 0 (v := .int .i64 a.k) rfl; have a1 := hSw.cellv 1 (v := .int .i64 a.f.pr) rfl; have a2 := hSw.cellv 2 (v := .int .u32 a.f.src) rfl; have a3 := hSw.cellv 3 (v := .int .u32 a.f.dst) rfl; have a4 := hSw.cellv 4 (v := .int .i64 a.f.sp) rfl; have a5 := hSw.cellv 5 (v := .int .i64 a.f.dp) rfl; have a6 := hSw.cellv 6 (v := .int .i64 a.b) rfl; have a7 := hSw.cellv 7 (v := .int .i64 a.t) rfl; have lta2 := hSw.lt; go_simp; try with_reducible rfl; done)); try simp only [Act.put, List.setIfInBounds_toArray, List.set_cons_zero, List.set_cons_succ])
    refine held_callA 1 (by rfl) (by kernel_rfl) (by rfl) (fun KQ hKQ => ?_)
    go_simp
    refine (ref29_new w2.drew).mono ?_
    rintro e w3 ⟨rfl, hd3, hb3⟩
    have hb3' : Below w2.heap.size w2 w3 := (Below.refl _ _).drew.trans hb3
    have ha3 := ha2.below hb3' ha2.lt
    have hT3 := hT2.fwd hb3'
    have hB3 := hB2.trans (hb3'.mono hB2.size)
    have hdY : ¬ Y w2.drew.heap.size := fun q => by have h1 := hT2.good.2.2.2.2 _ q; have h2 : w2.drew.heap.size = w2.heap.size := rfl; omega
    have hdw : w.heap.size ≤ w2.drew.heap.size := hB2.size
    have hda : ab ≠ w2.drew.heap.size := by have h1 := ha2.lt; have h2 : w2.drew.heap.size = w2.heap.size := rfl; omega
    have hs2r := ha3
    refine hKQ.out _ _ hs2r ?_
    clear hKQ KQ
    try simp only [Act.put, List.setIfInBounds_toArray, List.set_cons_zero, List.set_cons_succ]
    refine held_callA 3 (by rfl) (by kernel_rfl) (by rfl) (fun KQ hKQ => ?_)
    go_simp
    refine (act29_any w3 Y g ro 1000 now m E hT3 _ 0 hd3 hdY a haf hat hk0.out).mono ?_
    rintro e w4 ⟨bv, now4, E4, rfl, hT4, hC4⟩
    have ha4 := hC4.blk ha3 (fun q => q.elim hYa hda)
    have hs3r := ha4
    refine hKQ.out _ _ hs3r ?_
    clear hKQ KQ
    try simp only [Act.put, List.setIfInBounds_toArray, List.set_cons_zero, List.set_cons_succ]
    refine wpAnyH_done (by kernel_rfl) ?_ _
    try refine NoPanic.normal ?_
    have hB4 := below_chgF hB3 hC4 (fun j q => q.elim (hY j) (fun q => by rw [q]; exact hdw)) (Nat.le_refl _)
    go_wp2_with fail
    exact ⟨⟨k + 1, m, now4, E4, Y, by omega, by go_num, by omega, hT4, hY, hB4⟩, by simp [intOf]; omega⟩
  have n0 : (a.k != 0) = false := by rw [hk0]; rfl
  replace hk0 := Lib.hid hk0
  go_upto_region 11 with (go_at_call 48; refine (allFX hT2).mono ?_; rintro e w3 ⟨v, rfl, hrow, hb3⟩; obtain ⟨RA, RC, rfl, -, -, hRS⟩ := hrow.seen (Nat.le_refl _))
  have hT3 := hT2.fwd hb3
  have ha3 := ha2.below hb3 ha2.lt
  have hB3 := hB2.trans (hb3.mono hB2.size)
  have hz23 := hb3.size
  have hYl2 : ∀ j, Y j → j < w2.heap.size := fun j q => Nat.lt_of_lt_of_le (hYl j q) (by have := ha2.lt; have := hab.out; omega)
  clear a0 a1 a2 a3 a4 a5 a6 a7 lta
  clear ha2 hrow hT2 hB2
  have a0 := ha3.cellv 0 (v := .int .i64 a.k) rfl
  have a1 := ha3.cellv 1 (v := .int .i64 a.f.pr) rfl
  have a2 := ha3.cellv 2 (v := .int .u32 a.f.src) rfl
  have a3 := ha3.cellv 3 (v := .int .u32 a.f.dst) rfl
  have a4 := ha3.cellv 4 (v := .int .i64 a.f.sp) rfl
  have a5 := ha3.cellv 5 (v := .int .i64 a.f.dp) rfl
  have a6 := ha3.cellv 6 (v := .int .i64 a.b) rfl
  have a7 := ha3.cellv 7 (v := .int .i64 a.t) rfl
  have lta := ha3.lt
  obtain ⟨p1, th, hpk⟩ : ∃ p1 th, peekN E a.f = (p1, th) := ⟨_, _, rfl⟩
  have hth : th = E.any (isF a.f) := by have := peek_any E a.f; rw [hpk] at this; exact this
  replace hth := Lib.hid hth
  have x1 := peekFX hT3 a.f haf
  rw [hpk] at x1
  replace hpk := Lib.hid hpk
  unfold enA at x1
  go_upto_region 12 with (go_at_call 43; refine x1.mono ?_; rintro e w4 ⟨rfl, hb4⟩)
  have hb5 := hb4.trans ((Below.refl w4.heap.size w4).alloc (Nat.le_refl _) (.cells #[.int .i64 (p1).fl.pr, .int .u32 (p1).fl.src, .int .u32 (p1).fl.dst, .int .i64 (p1).fl.sp, .int .i64 (p1).fl.dp, .int .i64 (p1).be, .int .i64 (p1).la] 62) |>.mono hb4.size)
  have hT5 := hT3.fwd hb5
  have ha5 := ha3.below hb5 ha3.lt
  have hB5 := hB3.trans (hb5.mono hB3.size)
  have hRS5 := hRS.below hb5 (fun b q => q.2)
  have hz35 := hb5.size
  clear a0 a1 a2 a3 a4 a5 a6 a7 lta
  clear x1 ha3 hT3 hB3 hRS hb4 hb5 hpk
  generalize w4.alloc (.cells #[.int .i64 (p1).fl.pr, .int .u32 (p1).fl.src, .int .u32 (p1).fl.dst, .int .i64 (p1).fl.sp, .int .i64 (p1).fl.dp, .int .i64 (p1).be, .int .i64 (p1).la] 62) = w5 at *
  have a0 := ha5.cellv 0 (v := .int .i64 a.k) rfl
  have a1 := ha5.cellv 1 (v := .int .i64 a.f.pr) rfl
  have a2 := ha5.cellv 2 (v := .int .u32 a.f.src) rfl
  have a3 := ha5.cellv 3 (v := .int .u32 a.f.dst) rfl
  have a4 := ha5.cellv 4 (v := .int .i64 a.f.sp) rfl
  have a5 := ha5.cellv 5 (v := .int .i64 a.f.dp) rfl
  have a6 := ha5.cellv 6 (v := .int .i64 a.b) rfl
  have a7 := ha5.cellv 7 (v := .int .i64 a.t) rfl
  have lta := ha5.lt
  obtain ⟨t2, ht2⟩ : ∃ t2, t2 = max now a.t := ⟨_, rfl⟩
  obtain ⟨gv, md, E2, hput⟩ : ∃ gv md E2, putN ro E a.f a.b t2 = (gv, md, E2) := ⟨_, _, _, rfl⟩
  have x2 := putFX hT5 a.f haf a.b a.t hat1 (by omega)
  rw [← ht2, hput] at x2
  have hEn := hT5.flows
  have hEl := hT5.good.2.2.2.1
  have hEo := hT5.oks
  have hYl5 : ∀ j, Y j → j < w5.heap.size := hT5.good.2.2.2.2
  unfold enA at x2
  replace ht2 := Lib.hid ht2
  replace hput := Lib.hid hput
  go_upto_region 13 with (go_at_call 40; refine x2.mono ?_; rintro e w6 ⟨rfl, hT6, hC6⟩)
  obtain ⟨Y2, hY2⟩ : ∃ Y2 : Nat → Prop, Y2 = fun j => Y j ∨ (w5.heap.size ≤ j ∧ j < w6.heap.size) := ⟨_, rfl⟩
  rw [← hY2] at hT6
  have hY2w : ∀ j, Y2 j → w.heap.size ≤ j := fun j q => by rw [hY2] at q; exact q.elim (hY j) (fun q => by have := hB5.size; omega)
  replace hY2 := Lib.hid hY2
  have hT6' : TabF w6 Y2 g ro 1000 t2 (m + 1) E2 := hT6
  have ha6 := hC6.blk ha5 hYa
  have hB6 := below_chgF hB5 hC6 hY (Nat.le_refl _)
  have hRS6 := hC6.seen hRS5 (fun b q => ⟨by omega, fun q2 => by have := hYl2 b q2; omega⟩)
  obtain ⟨lmd, lgv, lpk, lst⟩ := room_law hput.out hEn hEl hro.1 hT6'.flows
  have hb7 := (Below.refl w6.heap.size w6).alloc (Nat.le_refl _) (.cells #[.int .i64 (gv).fl.pr, .int .u32 (gv).fl.src, .int .u32 (gv).fl.dst, .int .i64 (gv).fl.sp, .int .i64 (gv).fl.dp, .int .i64 (gv).be, .int .i64 (gv).la] 62)
  have hg7 := Blk.new w6 62 #[.int .i64 (gv).fl.pr, .int .u32 (gv).fl.src, .int .u32 (gv).fl.dst, .int .i64 (gv).fl.sp, .int .i64 (gv).fl.dp, .int .i64 (gv).be, .int .i64 (gv).la]
  have hT7 := hT6'.fwd hb7
  have ha7 := ha6.below hb7 ha6.lt
  have hB7 := hB6.trans (hb7.mono hB6.size)
  have hRS7 := hRS6.below hb7 (fun b q => by have := hC6.size; omega)
  have hz56 := hC6.size
  clear a0 a1 a2 a3 a4 a5 a6 a7 lta
  clear x2 ha5 hT5 hB5 hRS5 hC6 hT6 hT6' ha6 hB6 hRS6 hb7
  obtain ⟨gb, hgb⟩ : ∃ gb, gb = w6.heap.size := ⟨_, rfl⟩
  rw [← hgb] at hg7
  rw [← hgb]
  generalize w6.alloc (.cells #[.int .i64 (gv).fl.pr, .int .u32 (gv).fl.src, .int .u32 (gv).fl.dst, .int .i64 (gv).fl.sp, .int .i64 (gv).fl.dp, .int .i64 (gv).be, .int .i64 (gv).la] 62) = w7 at *
  have a0 := ha7.cellv 0 (v := .int .i64 a.k) rfl
  have a1 := ha7.cellv 1 (v := .int .i64 a.f.pr) rfl
  have a2 := ha7.cellv 2 (v := .int .u32 a.f.src) rfl
  have a3 := ha7.cellv 3 (v := .int .u32 a.f.dst) rfl
  have a4 := ha7.cellv 4 (v := .int .i64 a.f.sp) rfl
  have a5 := ha7.cellv 5 (v := .int .i64 a.f.dp) rfl
  have a6 := ha7.cellv 6 (v := .int .i64 a.b) rfl
  have a7 := ha7.cellv 7 (v := .int .i64 a.t) rfl
  have lta := ha7.lt
  have x3 := peekFX hT7 a.f haf
  rw [lpk] at x3
  unfold enA at x3
  replace lpk := Lib.hid lpk
  replace lst := Lib.hid lst
  replace lgv := Lib.hid lgv
  replace lmd := Lib.hid lmd
  replace hgb := Lib.hid hgb
  go_upto_region 14 with (go_at_call 43; refine x3.mono ?_; rintro e w8 ⟨rfl, hb8⟩)
  have hT8 := hT7.fwd hb8
  have ha8 := ha7.below hb8 ha7.lt
  have hg8 := hg7.below hb8 hg7.lt
  have hB8 := hB7.trans (hb8.mono hB7.size)
  have hgl := hg7.lt
  have hRS8 := hRS7.below hb8 (fun b q => by have := hgb.out; omega)
  have hb9 := (Below.refl w8.heap.size w8).alloc (Nat.le_refl _) (.cells #[.int .i64 (EnV.mk a.f a.b t2).fl.pr, .int .u32 (EnV.mk a.f a.b t2).fl.src, .int .u32 (EnV.mk a.f a.b t2).fl.dst, .int .i64 (EnV.mk a.f a.b t2).fl.sp, .int .i64 (EnV.mk a.f a.b t2).fl.dp, .int .i64 (EnV.mk a.f a.b t2).be, .int .i64 (EnV.mk a.f a.b t2).la] 62)
  have he9 := Blk.new w8 62 #[.int .i64 (EnV.mk a.f a.b t2).fl.pr, .int .u32 (EnV.mk a.f a.b t2).fl.src, .int .u32 (EnV.mk a.f a.b t2).fl.dst, .int .i64 (EnV.mk a.f a.b t2).fl.sp, .int .i64 (EnV.mk a.f a.b t2).fl.dp, .int .i64 (EnV.mk a.f a.b t2).be, .int .i64 (EnV.mk a.f a.b t2).la]
  have hT9 := hT8.fwd hb9
  have ha9 := ha8.below hb9 ha8.lt
  have hg9 := hg8.below hb9 hg8.lt
  have hB9 := hB8.trans (hb9.mono hB8.size)
  have hz78 := hb8.size
  have hRS9 := hRS8.below hb9 (fun b q => by have := hgb.out; omega)
  clear a0 a1 a2 a3 a4 a5 a6 a7 lta
  clear x3 ha7 hT7 hB7 hRS7 hg7 hb8 hT8 ha8 hg8 hB8 hRS8 hb9
  simp only [] at he9
  generalize w8.alloc (.cells #[.int .i64 a.f.pr, .int .u32 a.f.src, .int .u32 a.f.dst, .int .i64 a.f.sp, .int .i64 a.f.dp, .int .i64 a.b, .int .i64 t2] 62) = w9 at *
  obtain ⟨eb, heb⟩ : ∃ eb, eb = w8.heap.size := ⟨_, rfl⟩
  rw [← heb] at he9
  rw [← heb]
  replace heb := Lib.hid heb
  have hln := lenFX hT9
  have hE2l := hT9.good.2.2.2.1
  have a6 : w9.cell? ⟨ab, 6, none⟩ = some (.int .i64 a.b) := ha9.cellv 6 rfl
  have e5 : w9.cell? ⟨eb, 5, none⟩ = some (.int .i64 a.b) := he9.cellv 5 rfl
  have lta := ha9.lt
  have lte := he9.lt
  have hz89 : w8.heap.size ≤ w9.heap.size := by have := heb.out; omega
  have ltg9 := hg9.lt
  have bb0 : (a.b != a.b) = false := by simp
  have dl0 : decide (ro < (E2.length : Int)) = false := by simp; omega
  obtain ⟨len2, hlen2⟩ : ∃ l2 : Int, l2 = (E2.length : Int) := ⟨_, rfl⟩
  rw [← hlen2] at hln dl0
  replace hlen2 := Lib.hid hlen2
  cases th with
  | true =>
    obtain rfl : md = false := by have := lmd.out; rw [← hth.out] at this; simpa using this
    -- region 14: 0 1 2 3 4 5 6 7 8 9 10 11C 12 13 14 15 16 17 18 19 20 21 22 23 24 25 26 27 28 29 30 31 32 33 34 35 36
    try refine wp_region_noPanic ?_
    have hs4r : Below w9.heap.size w9 w9.drew := (Below.refl _ _).drew
    refine wp_region_held_drew (S := fun w' => Below w9.heap.size w9 w') (by kernel_rfl) hs4r (fun _ => ?_)
    (refine held_takeA 0 (by rfl) ?_ (by kernel_rfl) (fun _ _ _ h => h) hs4r ?_ ?_; rotate_left; (focus (intro wq hSw; have hrd : ∀ b o, b < w9.heap.size → wq.cell? ⟨b, o, none⟩ = w9.cell? ⟨b, o, none⟩ := (fun b o h => hSw.cell (p := ⟨b, o, none⟩) h); go_simp; try with_reducible rfl; done)); try simp only [Act.put, List.setIfInBounds_toArray, List.set_cons_zero, List.set_cons_succ])
    (refine held_takeA 1 (by rfl) ?_ (by kernel_rfl) (fun _ _ _ h => h) hs4r ?_ ?_; rotate_left; (focus (intro wq hSw; have hrd : ∀ b o, b < w9.heap.size → wq.cell? ⟨b, o, none⟩ = w9.cell? ⟨b, o, none⟩ := (fun b o h => hSw.cell (p := ⟨b, o, none⟩) h); go_simp; try with_reducible rfl; done)); try simp only [Act.put, List.setIfInBounds_toArray, List.set_cons_zero, List.set_cons_succ])
    (refine held_takeA 2 (by rfl) ?_ (by kernel_rfl) (fun _ _ _ h => h) hs4r ?_ ?_; rotate_left; (focus (intro wq hSw; have hrd : ∀ b o, b < w9.heap.size → wq.cell? ⟨b, o, none⟩ = w9.cell? ⟨b, o, none⟩ := (fun b o h => hSw.cell (p := ⟨b, o, none⟩) h); go_simp; try with_reducible rfl; done)); try simp only [Act.put, List.setIfInBounds_toArray, List.set_cons_zero, List.set_cons_succ])
    (refine held_takeA 3 (by rfl) ?_ (by kernel_rfl) (fun _ _ _ h => h) hs4r ?_ ?_; rotate_left; (focus (intro wq hSw; have hrd : ∀ b o, b < w9.heap.size → wq.cell? ⟨b, o, none⟩ = w9.cell? ⟨b, o, none⟩ := (fun b o h => hSw.cell (p := ⟨b, o, none⟩) h); go_simp; try with_reducible rfl; done)); try simp only [Act.put, List.setIfInBounds_toArray, List.set_cons_zero, List.set_cons_succ])
    (refine held_takeA 4 (by rfl) ?_ (by kernel_rfl) (fun _ _ _ h => h) hs4r ?_ ?_; rotate_left; (focus (intro wq hSw; have hrd : ∀ b o, b < w9.heap.size → wq.cell? ⟨b, o, none⟩ = w9.cell? ⟨b, o, none⟩ := (fun b o h => hSw.cell (p := ⟨b, o, none⟩) h); go_simp; try with_reducible rfl; done)); try simp only [Act.put, List.setIfInBounds_toArray, List.set_cons_zero, List.set_cons_succ])
    (refine held_takeA 5 (by rfl) ?_ (by kernel_rfl) (fun _ _ _ h => h) hs4r ?_ ?_; rotate_left; (focus (intro wq hSw; have hrd : ∀ b o, b < w9.heap.size → wq.cell? ⟨b, o, none⟩ = w9.cell? ⟨b, o, none⟩ := (fun b o h => hSw.cell (p := ⟨b, o, none⟩) h); go_simp; try with_reducible rfl; done)); try simp only [Act.put, List.setIfInBounds_toArray, List.set_cons_zero, List.set_cons_succ])
    (refine held_takeA 6 (by rfl) ?_ (by kernel_rfl) (fun _ _ _ h => h) hs4r ?_ ?_; rotate_left; (focus (intro wq hSw; have hrd : ∀ b o, b < w9.heap.size → wq.cell? ⟨b, o, none⟩ = w9.cell? ⟨b, o, none⟩ := (fun b o h => hSw.cell (p := ⟨b, o, none⟩) h); go_simp; try with_reducible rfl; done)); try simp only [Act.put, List.setIfInBounds_toArray, List.set_cons_zero, List.set_cons_succ])
    (refine held_takeA 7 (by rfl) ?_ (by kernel_rfl) (fun _ _ _ h => h) hs4r ?_ ?_; rotate_left; (focus (intro wq hSw; have hrd : ∀ b o, b < w9.heap.size → wq.cell? ⟨b, o, none⟩ = w9.cell? ⟨b, o, none⟩ := (fun b o h => hSw.cell (p := ⟨b, o, none⟩) h); go_simp; try with_reducible rfl; done)); try simp only [Act.put, List.setIfInBounds_toArray, List.set_cons_zero, List.set_cons_succ])
    (refine held_takeA 8 (by rfl) ?_ (by kernel_rfl) (fun _ _ _ h => h) hs4r ?_ ?_; rotate_left; (focus (intro wq hSw; have hrd : ∀ b o, b < w9.heap.size → wq.cell? ⟨b, o, none⟩ = w9.cell? ⟨b, o, none⟩ := (fun b o h => hSw.cell (p := ⟨b, o, none⟩) h); go_simp; try with_reducible rfl; done)); try simp only [Act.put, List.setIfInBounds_toArray, List.set_cons_zero, List.set_cons_succ])
    (refine held_takeA 9 (by rfl) ?_ (by kernel_rfl) (fun _ _ _ h => h) hs4r ?_ ?_; rotate_left; (focus (intro wq hSw; have hrd : ∀ b o, b < w9.heap.size → wq.cell? ⟨b, o, none⟩ = w9.cell? ⟨b, o, none⟩ := (fun b o h => hSw.cell (p := ⟨b, o, none⟩) h); go_simp; try with_reducible rfl; done)); try simp only [Act.put, List.setIfInBounds_toArray, List.set_cons_zero, List.set_cons_succ])
    (refine held_takeA 10 (by rfl) ?_ (by kernel_rfl) (fun _ _ _ h => h) hs4r ?_ ?_; rotate_left; (focus (intro wq hSw; have hrd : ∀ b o, b < w9.heap.size → wq.cell? ⟨b, o, none⟩ = w9.cell? ⟨b, o, none⟩ := (fun b o h => hSw.cell (p := ⟨b, o, none⟩) h); go_simp; try with_reducible rfl; done)); try simp only [Act.put, List.setIfInBounds_toArray, List.set_cons_zero, List.set_cons_succ])
    (refine held_takeA 12 (by rfl) ?_ (by kernel_rfl) (fun _ _ _ h => h) hs4r ?_ ?_; rotate_left; (focus (intro wq hSw; have hrd : ∀ b o, b < w9.heap.size → wq.cell? ⟨b, o, none⟩ = w9.cell? ⟨b, o, none⟩ := (fun b o h => hSw.cell (p := ⟨b, o, none⟩) h); go_simp; try with_reducible rfl; done)); try simp only [Act.put, List.setIfInBounds_toArray, List.set_cons_zero, List.set_cons_succ])
    refine held_callA 11 (by rfl) (by kernel_rfl) (by rfl) (fun KQ hKQ => ?_)
    go_simp
    refine ((lenFX (hT9.fwd (Below.refl _ _).drew)).mono ?_)
    rintro e w' ⟨rfl, rfl⟩
    rw [← hlen2.out]
    have hs5r := (show Below w9.heap.size w9 w9.drew from (Below.refl _ _).drew)
    refine hKQ.out _ _ hs5r ?_
    clear hKQ KQ
    try simp only [Act.put, List.setIfInBounds_toArray, List.set_cons_zero, List.set_cons_succ]
    (refine held_takeA 13 (by rfl) ?_ (by kernel_rfl) (fun _ _ _ h => h) hs5r ?_ ?_; rotate_left; (focus (intro wq hSw; have hrd : ∀ b o, b < w9.heap.size → wq.cell? ⟨b, o, none⟩ = w9.cell? ⟨b, o, none⟩ := (fun b o h => hSw.cell (p := ⟨b, o, none⟩) h); go_simp; try with_reducible rfl; done)); try simp only [Act.put, List.setIfInBounds_toArray, List.set_cons_zero, List.set_cons_succ])
    (refine held_takeA 14 (by rfl) ?_ (by kernel_rfl) (fun _ _ _ h => h) hs5r ?_ ?_; rotate_left; (focus (intro wq hSw; have hrd : ∀ b o, b < w9.heap.size → wq.cell? ⟨b, o, none⟩ = w9.cell? ⟨b, o, none⟩ := (fun b o h => hSw.cell (p := ⟨b, o, none⟩) h); go_simp; try with_reducible rfl; done)); try simp only [Act.put, List.setIfInBounds_toArray, List.set_cons_zero, List.set_cons_succ])
    (refine held_takeA 15 (by rfl) ?_ (by kernel_rfl) (fun _ _ _ h => h) hs5r ?_ ?_; rotate_left; (focus (intro wq hSw; have hrd : ∀ b o, b < w9.heap.size → wq.cell? ⟨b, o, none⟩ = w9.cell? ⟨b, o, none⟩ := (fun b o h => hSw.cell (p := ⟨b, o, none⟩) h); go_simp; try with_reducible rfl; done)); try simp only [Act.put, List.setIfInBounds_toArray, List.set_cons_zero, List.set_cons_succ])
    (refine held_takeA 16 (by rfl) ?_ (by kernel_rfl) (fun _ _ _ h => h) hs5r ?_ ?_; rotate_left; (focus (intro wq hSw; have hrd : ∀ b o, b < w9.heap.size → wq.cell? ⟨b, o, none⟩ = w9.cell? ⟨b, o, none⟩ := (fun b o h => hSw.cell (p := ⟨b, o, none⟩) h); go_simp; try with_reducible rfl; done)); try simp only [Act.put, List.setIfInBounds_toArray, List.set_cons_zero, List.set_cons_succ])
    (refine held_takeA 17 (by rfl) ?_ (by kernel_rfl) (fun _ _ _ h => h) hs5r ?_ ?_; rotate_left; (focus (intro wq hSw; have hrd : ∀ b o, b < w9.heap.size → wq.cell? ⟨b, o, none⟩ = w9.cell? ⟨b, o, none⟩ := (fun b o h => hSw.cell (p := ⟨b, o, none⟩) h); go_simp; try with_reducible rfl; done)); try simp only [Act.put, List.setIfInBounds_toArray, List.set_cons_zero, List.set_cons_succ])
    (refine held_takeA 18 (by rfl) ?_ (by kernel_rfl) (fun _ _ _ h => h) hs5r ?_ ?_; rotate_left; (focus (intro wq hSw; have hrd : ∀ b o, b < w9.heap.size → wq.cell? ⟨b, o, none⟩ = w9.cell? ⟨b, o, none⟩ := (fun b o h => hSw.cell (p := ⟨b, o, none⟩) h); go_simp; try with_reducible rfl; done)); try simp only [Act.put, List.setIfInBounds_toArray, List.set_cons_zero, List.set_cons_succ])
    (refine held_takeA 19 (by rfl) ?_ (by kernel_rfl) (fun _ _ _ h => h) hs5r ?_ ?_; rotate_left; (focus (intro wq hSw; have hrd : ∀ b o, b < w9.heap.size → wq.cell? ⟨b, o, none⟩ = w9.cell? ⟨b, o, none⟩ := (fun b o h => hSw.cell (p := ⟨b, o, none⟩) h); go_simp; try with_reducible rfl; done)); try simp only [Act.put, List.setIfInBounds_toArray, List.set_cons_zero, List.set_cons_succ])
    (refine held_skipA 20 (by rfl) (by kernel_rfl) (fun _ _ _ h => h) hs5r ?_; try simp only [Act.put, List.setIfInBounds_toArray, List.set_cons_zero, List.set_cons_succ])
    (refine held_skipA 21 (by rfl) (by kernel_rfl) (fun _ _ _ h => h) hs5r ?_; try simp only [Act.put, List.setIfInBounds_toArray, List.set_cons_zero, List.set_cons_succ])
    (refine held_skipA 22 (by rfl) (by kernel_rfl) (fun _ _ _ h => h) hs5r ?_; try simp only [Act.put, List.setIfInBounds_toArray, List.set_cons_zero, List.set_cons_succ])
    (refine held_skipA 23 (by rfl) (by kernel_rfl) (fun _ _ _ h => h) hs5r ?_; try simp only [Act.put, List.setIfInBounds_toArray, List.set_cons_zero, List.set_cons_succ])
    (refine held_takeA 24 (by rfl) ?_ (by kernel_rfl) (fun _ _ _ h => h) hs5r ?_ ?_; rotate_left; (focus (intro wq hSw; have hrd : ∀ b o, b < w9.heap.size → wq.cell? ⟨b, o, none⟩ = w9.cell? ⟨b, o, none⟩ := (fun b o h => hSw.cell (p := ⟨b, o, none⟩) h); go_simp; try with_reducible rfl; done)); try simp only [Act.put, List.setIfInBounds_toArray, List.set_cons_zero, List.set_cons_succ])
    (refine held_takeA 25 (by rfl) ?_ (by kernel_rfl) (fun _ _ _ h => h) hs5r ?_ ?_; rotate_left; (focus (intro wq hSw; have hrd : ∀ b o, b < w9.heap.size → wq.cell? ⟨b, o, none⟩ = w9.cell? ⟨b, o, none⟩ := (fun b o h => hSw.cell (p := ⟨b, o, none⟩) h); go_simp; try with_reducible rfl; done)); try simp only [Act.put, List.setIfInBounds_toArray, List.set_cons_zero, List.set_cons_succ])
    (refine held_takeA 26 (by rfl) ?_ (by kernel_rfl) (fun _ _ _ h => h) hs5r ?_ ?_; rotate_left; (focus (intro wq hSw; have hrd : ∀ b o, b < w9.heap.size → wq.cell? ⟨b, o, none⟩ = w9.cell? ⟨b, o, none⟩ := (fun b o h => hSw.cell (p := ⟨b, o, none⟩) h); go_simp; try with_reducible rfl; done)); try simp only [Act.put, List.setIfInBounds_toArray, List.set_cons_zero, List.set_cons_succ])
    (refine held_takeA 27 (by rfl) ?_ (by kernel_rfl) (fun _ _ _ h => h) hs5r ?_ ?_; rotate_left; (focus (intro wq hSw; have hrd : ∀ b o, b < w9.heap.size → wq.cell? ⟨b, o, none⟩ = w9.cell? ⟨b, o, none⟩ := (fun b o h => hSw.cell (p := ⟨b, o, none⟩) h); go_simp; try with_reducible rfl; done)); try simp only [Act.put, List.setIfInBounds_toArray, List.set_cons_zero, List.set_cons_succ])
    (refine held_takeA 28 (by rfl) ?_ (by kernel_rfl) (fun _ _ _ h => h) hs5r ?_ ?_; rotate_left; (focus (intro wq hSw; have hrd : ∀ b o, b < w9.heap.size → wq.cell? ⟨b, o, none⟩ = w9.cell? ⟨b, o, none⟩ := (fun b o h => hSw.cell (p := ⟨b, o, none⟩) h); go_simp; try with_reducible rfl; done)); try simp only [Act.put, List.setIfInBounds_toArray, List.set_cons_zero, List.set_cons_succ])
    (refine held_takeA 29 (by rfl) ?_ (by kernel_rfl) (fun _ _ _ h => h) hs5r ?_ ?_; rotate_left; (focus (intro wq hSw; have hrd : ∀ b o, b < w9.heap.size → wq.cell? ⟨b, o, none⟩ = w9.cell? ⟨b, o, none⟩ := (fun b o h => hSw.cell (p := ⟨b, o, none⟩) h); go_simp; try with_reducible rfl; done)); try simp only [Act.put, List.setIfInBounds_toArray, List.set_cons_zero, List.set_cons_succ])
    (refine held_skipA 30 (by rfl) (by kernel_rfl) (fun _ _ _ h => h) hs5r ?_; try simp only [Act.put, List.setIfInBounds_toArray, List.set_cons_zero, List.set_cons_succ])
    (refine held_skipA 31 (by rfl) (by kernel_rfl) (fun _ _ _ h => h) hs5r ?_; try simp only [Act.put, List.setIfInBounds_toArray, List.set_cons_zero, List.set_cons_succ])
    (refine held_skipA 32 (by rfl) (by kernel_rfl) (fun _ _ _ h => h) hs5r ?_; try simp only [Act.put, List.setIfInBounds_toArray, List.set_cons_zero, List.set_cons_succ])
    (refine held_skipA 33 (by rfl) (by kernel_rfl) (fun _ _ _ h => h) hs5r ?_; try simp only [Act.put, List.setIfInBounds_toArray, List.set_cons_zero, List.set_cons_succ])
    (refine held_skipA 34 (by rfl) (by kernel_rfl) (fun _ _ _ h => h) hs5r ?_; try simp only [Act.put, List.setIfInBounds_toArray, List.set_cons_zero, List.set_cons_succ])
    (refine held_takeA 35 (by rfl) ?_ (by kernel_rfl) (fun _ _ _ h => h) hs5r ?_ ?_; rotate_left; (focus (intro wq hSw; have hrd : ∀ b o, b < w9.heap.size → wq.cell? ⟨b, o, none⟩ = w9.cell? ⟨b, o, none⟩ := (fun b o h => hSw.cell (p := ⟨b, o, none⟩) h); go_simp; try with_reducible rfl; done)); try simp only [Act.put, List.setIfInBounds_toArray, List.set_cons_zero, List.set_cons_succ])
    (refine held_takeA 36 (by rfl) ?_ (by kernel_rfl) (fun _ _ _ h => h) hs5r ?_ ?_; rotate_left; (focus (intro wq hSw; have hrd : ∀ b o, b < w9.heap.size → wq.cell? ⟨b, o, none⟩ = w9.cell? ⟨b, o, none⟩ := (fun b o h => hSw.cell (p := ⟨b, o, none⟩) h); go_simp; try with_reducible rfl; done)); try simp only [Act.put, List.setIfInBounds_toArray, List.set_cons_zero, List.set_cons_succ])
    refine wpAnyH_done (by kernel_rfl) ?_ _
    try refine NoPanic.normal ?_
    have hT10 := hT9.fwd (Below.refl w9.heap.size w9).drew
    have ha10 := ha9.below (Below.refl w9.heap.size w9).drew ha9.lt
    have hRS10 := hRS9.drew
    have hB10 := hB9.drew
    have hz10 : w9.heap.size ≤ w9.drew.heap.size := Nat.le_refl _
    clear hT9 ha9 hRS9 hB9 a6 e5 lta lte ltg9 hg9 he9 hln
    generalize w9.drew = w10 at *
    go_wp2_with fail
    go_loopw [109] (fun jv wi => ∃ j : Nat, j ≤ E.length ∧ jv = .int .i64 (j : Int) ∧ TabF wi Y2 g ro 1000 t2 (m + 1) E2 ∧ Blk wi ab 72 #[.int .i64 a.k, .int .i64 a.f.pr, .int .u32 a.f.src, .int .u32 a.f.dst, .int .i64 a.f.sp, .int .i64 a.f.dp, .int .i64 a.b, .int .i64 a.t] ∧ Seen enK wi (fun b => w2.heap.size ≤ b ∧ b < w3.heap.size) RA E.length E ∧ w9.heap.size ≤ wi.heap.size ∧ Below w.heap.size w wi) (fun jv _ => E.length - (intOf jv).toNat)
    case atStart => exact ⟨0, Nat.zero_le _, rfl, hT10, ha10, hRS10, hz10, hB10⟩
    case round =>
    clear hT10 ha10 hRS10 hz10 hB10
    obtain ⟨j, hj, rfl, hT, ha, hR, hzi, hB⟩ := hrel
    by_cases hjl : j < E.length
    rotate_left
    · obtain rfl : j = E.length := by omega
      go_wp2_with fail
      exact ⟨⟨k + 1, m + 1, t2, E2, Y2, by omega, by go_num, by omega, hT, hY2w, hB⟩, by simp [intOf]; omega⟩
    obtain ⟨xb, xo, x, rfl, hxb, hxj, c0, c1, c2, c3, c4, c5, c6⟩ := en_cells hR hjl
    skip
    skip
    skip
    have ltx : xb < wr.heap.size := by have := hgb.out; omega
    have hji : (j : Int) < E.length := by omega
    have hxo := hEo x (List.mem_of_getElem? hxj)
    have hb11 := (Below.refl wr.heap.size wr).alloc (Nat.le_refl _) (.cells #[.int .i64 (x).fl.pr, .int .u32 (x).fl.src, .int .u32 (x).fl.dst, .int .i64 (x).fl.sp, .int .i64 (x).fl.dp, .int .i64 (x).be, .int .i64 (x).la] 62)
    have hx11 := Blk.new wr 62 #[.int .i64 (x).fl.pr, .int .u32 (x).fl.src, .int .u32 (x).fl.dst, .int .i64 (x).fl.sp, .int .i64 (x).fl.dp, .int .i64 (x).be, .int .i64 (x).la]
    have hT11 := hT.fwd hb11
    have ha11 := ha.below hb11 ha.lt
    have hR11 := hR.below hb11 (fun b q => by have := hgb.out; omega)
    have hB11 := hB.trans (hb11.mono hB.size)
    have hz11 := hb11.size
    go_upto_region 19 with (fail)
    clear c0 c1 c2 c3 c4 c5 c6 hT ha hR hB hb11
    generalize wr.alloc (.cells #[.int .i64 (x).fl.pr, .int .u32 (x).fl.src, .int .u32 (x).fl.dst, .int .i64 (x).fl.sp, .int .i64 (x).fl.dp, .int .i64 (x).be, .int .i64 (x).la] 62) = w11 at *
    obtain ⟨xn, hxn⟩ : ∃ xn, xn = wr.heap.size := ⟨_, rfl⟩
    rw [← hxn] at hx11
    rw [← hxn]
    replace hxn := Lib.hid hxn
    have c0 : w11.cell? ⟨xn, 0, none⟩ = some (.int .i64 (x).fl.pr) := hx11.cellv 0 rfl
    have c1 : w11.cell? ⟨xn, 1, none⟩ = some (.int .u32 (x).fl.src) := hx11.cellv 1 rfl
    have c2 : w11.cell? ⟨xn, 2, none⟩ = some (.int .u32 (x).fl.dst) := hx11.cellv 2 rfl
    have c3 : w11.cell? ⟨xn, 3, none⟩ = some (.int .i64 (x).fl.sp) := hx11.cellv 3 rfl
    have c4 : w11.cell? ⟨xn, 4, none⟩ = some (.int .i64 (x).fl.dp) := hx11.cellv 4 rfl
    have ltn := hx11.lt
    obtain ⟨yv, is, hpy⟩ : ∃ yv is, peekN E2 x.fl = (yv, is) := ⟨_, _, rfl⟩
    have x5 := peekFX hT11 x.fl hxo
    rw [hpy] at x5
    unfold enA at x5
    replace hpy := Lib.hid hpy
    go_upto_region 20 with (go_at_call 43; refine x5.mono ?_; rintro e w12 ⟨rfl, hb12⟩)
    have hb13 := hb12.trans ((Below.refl w12.heap.size w12).alloc (Nat.le_refl _) (.cells #[.int .i64 (yv).fl.pr, .int .u32 (yv).fl.src, .int .u32 (yv).fl.dst, .int .i64 (yv).fl.sp, .int .i64 (yv).fl.dp, .int .i64 (yv).be, .int .i64 (yv).la] 62) |>.mono hb12.size)
    have hy13 := Blk.new w12 62 #[.int .i64 (yv).fl.pr, .int .u32 (yv).fl.src, .int .u32 (yv).fl.dst, .int .i64 (yv).fl.sp, .int .i64 (yv).fl.dp, .int .i64 (yv).be, .int .i64 (yv).la]
    have hx13 := hx11.below hb13 hx11.lt
    have hT13 := hT11.fwd hb13
    have ha13 := ha11.below hb13 ha11.lt
    have hR13 := hR11.below hb13 (fun b q => by have := hgb.out; omega)
    have hB13 := hB11.trans (hb13.mono hB11.size)
    have hz13 := hb13.size
    clear c0 c1 c2 c3 c4 x5 hx11 hT11 ha11 hR11 hB11 hb12 hb13
    generalize w12.alloc (.cells #[.int .i64 (yv).fl.pr, .int .u32 (yv).fl.src, .int .u32 (yv).fl.dst, .int .i64 (yv).fl.sp, .int .i64 (yv).fl.dp, .int .i64 (yv).be, .int .i64 (yv).la] 62) = w13 at *
    obtain ⟨yn, hyn⟩ : ∃ yn, yn = w12.heap.size := ⟨_, rfl⟩
    rw [← hyn] at hy13
    rw [← hyn]
    replace hyn := Lib.hid hyn
    have c0 : w13.cell? ⟨xn, 0, none⟩ = some (.int .i64 (x).fl.pr) := hx13.cellv 0 rfl
    have y0 : w13.cell? ⟨yn, 0, none⟩ = some (.int .i64 (yv).fl.pr) := hy13.cellv 0 rfl
    have c1 : w13.cell? ⟨xn, 1, none⟩ = some (.int .u32 (x).fl.src) := hx13.cellv 1 rfl
    have y1 : w13.cell? ⟨yn, 1, none⟩ = some (.int .u32 (yv).fl.src) := hy13.cellv 1 rfl
    have c2 : w13.cell? ⟨xn, 2, none⟩ = some (.int .u32 (x).fl.dst) := hx13.cellv 2 rfl
    have y2 : w13.cell? ⟨yn, 2, none⟩ = some (.int .u32 (yv).fl.dst) := hy13.cellv 2 rfl
    have c3 : w13.cell? ⟨xn, 3, none⟩ = some (.int .i64 (x).fl.sp) := hx13.cellv 3 rfl
    have y3 : w13.cell? ⟨yn, 3, none⟩ = some (.int .i64 (yv).fl.sp) := hy13.cellv 3 rfl
    have c4 : w13.cell? ⟨xn, 4, none⟩ = some (.int .i64 (x).fl.dp) := hx13.cellv 4 rfl
    have y4 : w13.cell? ⟨yn, 4, none⟩ = some (.int .i64 (yv).fl.dp) := hy13.cellv 4 rfl
    have c5 : w13.cell? ⟨xn, 5, none⟩ = some (.int .i64 (x).be) := hx13.cellv 5 rfl
    have y5 : w13.cell? ⟨yn, 5, none⟩ = some (.int .i64 (yv).be) := hy13.cellv 5 rfl
    have c6 : w13.cell? ⟨xn, 6, none⟩ = some (.int .i64 (x).la) := hx13.cellv 6 rfl
    have y6 : w13.cell? ⟨yn, 6, none⟩ = some (.int .i64 (yv).la) := hy13.cellv 6 rfl
    have a1 : w13.cell? ⟨ab, 1, none⟩ = some (.int .i64 a.f.pr) := ha13.cellv 1 rfl
    have a2 : w13.cell? ⟨ab, 2, none⟩ = some (.int .u32 a.f.src) := ha13.cellv 2 rfl
    have a3 : w13.cell? ⟨ab, 3, none⟩ = some (.int .u32 a.f.dst) := ha13.cellv 3 rfl
    have a4 : w13.cell? ⟨ab, 4, none⟩ = some (.int .i64 a.f.sp) := ha13.cellv 4 rfl
    have a5 : w13.cell? ⟨ab, 5, none⟩ = some (.int .i64 a.f.dp) := ha13.cellv 5 rfl
    have ltn := hx13.lt
    have lty := hy13.lt
    have lta2 := ha13.lt
    by_cases hxf : x.fl = a.f
    · rw [← hxf] at a1 a2 a3 a4 a5
      replace hxf := Lib.hid hxf
      go_wp2_with fail
      exact ⟨⟨j + 1, by omega, by go_num, hT13, ha13, hR13, by omega, hB13⟩, by simp [intOf]; omega⟩
    have dx : decide (Flo.mk x.fl.pr x.fl.src x.fl.dst x.fl.sp x.fl.dp = Flo.mk a.f.pr a.f.src a.f.dst a.f.sp a.f.dp) = false := decide_eq_false hxf
    have hst := lst.out j x hxj hxf
    rw [hpy.out] at hst
    replace hxf := Lib.hid hxf
    rw [if_neg (fun q => by cases q.1)] at hst
    obtain ⟨hyx, his⟩ : yv = x ∧ is = true := by
      have := hst
      injection this with h1 h2
      exact ⟨h1, h2⟩
    clear hst
    subst hyx
    subst his
    go_wp2_with fail
    all_goals exact ⟨⟨j + 1, by omega, by go_num, hT13, ha13, hR13, by omega, hB13⟩, by simp [intOf]; omega⟩
  | false =>
    by_cases hfull : (E.length : Int) = ro
    · obtain rfl : md = true := by have := lmd.out; rw [← hth.out] at this; simp [hfull] at this; exact this
      have f0 : ((E.length : Int) == ro) = true := by rw [beq_iff_eq]; exact hfull
      have hE0 := lgv.out rfl
      have hpos : 0 < E.length := by omega
      have hpi : (0 : Int) < E.length := by omega
      obtain ⟨xb, xo, xv, hRA, hxb, hx0, g0, g1, g2, g3, g4, g5, g6⟩ := en_cells hRS9 hpos
      subst hRA
      obtain rfl : xv = gv := by rw [hE0] at hx0; injection hx0 with hx0; exact hx0.symm
      simp only [Nat.zero_mul, Nat.add_zero] at g0 g1 g2 g3 g4 g5 g6
      have ltx9 : xb < w9.heap.size := by have := hgb.out; omega
      replace hfull := Lib.hid hfull
      have h0 : w9.cell? ⟨gb, 0, none⟩ = some (.int .i64 (xv).fl.pr) := hg9.cellv 0 rfl
      have h1 : w9.cell? ⟨gb, 1, none⟩ = some (.int .u32 (xv).fl.src) := hg9.cellv 1 rfl
      have h2 : w9.cell? ⟨gb, 2, none⟩ = some (.int .u32 (xv).fl.dst) := hg9.cellv 2 rfl
      have h3 : w9.cell? ⟨gb, 3, none⟩ = some (.int .i64 (xv).fl.sp) := hg9.cellv 3 rfl
      have h4 : w9.cell? ⟨gb, 4, none⟩ = some (.int .i64 (xv).fl.dp) := hg9.cellv 4 rfl
      have h5 : w9.cell? ⟨gb, 5, none⟩ = some (.int .i64 (xv).be) := hg9.cellv 5 rfl
      have h6 : w9.cell? ⟨gb, 6, none⟩ = some (.int .i64 (xv).la) := hg9.cellv 6 rfl
      -- region 14: 0 1 2 3 4 5 6 7 8 9 10 11C 12 13 14 15 16 17 18 19 20 21 22 23 24 25 26 27 28 29 30 31 32 33 34 35 36
      try refine wp_region_noPanic ?_
      have hs6r : Below w9.heap.size w9 w9.drew := (Below.refl _ _).drew
      refine wp_region_held_drew (S := fun w' => Below w9.heap.size w9 w') (by kernel_rfl) hs6r (fun _ => ?_)
      (refine held_takeA 0 (by rfl) ?_ (by kernel_rfl) (fun _ _ _ h => h) hs6r ?_ ?_; rotate_left; (focus (intro wq hSw; have hrd : ∀ b o, b < w9.heap.size → wq.cell? ⟨b, o, none⟩ = w9.cell? ⟨b, o, none⟩ := (fun b o h => hSw.cell (p := ⟨b, o, none⟩) h); go_simp; try with_reducible rfl; done)); try simp only [Act.put, List.setIfInBounds_toArray, List.set_cons_zero, List.set_cons_succ])
      (refine held_takeA 1 (by rfl) ?_ (by kernel_rfl) (fun _ _ _ h => h) hs6r ?_ ?_; rotate_left; (focus (intro wq hSw; have hrd : ∀ b o, b < w9.heap.size → wq.cell? ⟨b, o, none⟩ = w9.cell? ⟨b, o, none⟩ := (fun b o h => hSw.cell (p := ⟨b, o, none⟩) h); go_simp; try with_reducible rfl; done)); try simp only [Act.put, List.setIfInBounds_toArray, List.set_cons_zero, List.set_cons_succ])
      (refine held_takeA 2 (by rfl) ?_ (by kernel_rfl) (fun _ _ _ h => h) hs6r ?_ ?_; rotate_left; (focus (intro wq hSw; have hrd : ∀ b o, b < w9.heap.size → wq.cell? ⟨b, o, none⟩ = w9.cell? ⟨b, o, none⟩ := (fun b o h => hSw.cell (p := ⟨b, o, none⟩) h); go_simp; try with_reducible rfl; done)); try simp only [Act.put, List.setIfInBounds_toArray, List.set_cons_zero, List.set_cons_succ])
      (refine held_takeA 3 (by rfl) ?_ (by kernel_rfl) (fun _ _ _ h => h) hs6r ?_ ?_; rotate_left; (focus (intro wq hSw; have hrd : ∀ b o, b < w9.heap.size → wq.cell? ⟨b, o, none⟩ = w9.cell? ⟨b, o, none⟩ := (fun b o h => hSw.cell (p := ⟨b, o, none⟩) h); go_simp; try with_reducible rfl; done)); try simp only [Act.put, List.setIfInBounds_toArray, List.set_cons_zero, List.set_cons_succ])
      (refine held_takeA 4 (by rfl) ?_ (by kernel_rfl) (fun _ _ _ h => h) hs6r ?_ ?_; rotate_left; (focus (intro wq hSw; have hrd : ∀ b o, b < w9.heap.size → wq.cell? ⟨b, o, none⟩ = w9.cell? ⟨b, o, none⟩ := (fun b o h => hSw.cell (p := ⟨b, o, none⟩) h); go_simp; try with_reducible rfl; done)); try simp only [Act.put, List.setIfInBounds_toArray, List.set_cons_zero, List.set_cons_succ])
      (refine held_takeA 5 (by rfl) ?_ (by kernel_rfl) (fun _ _ _ h => h) hs6r ?_ ?_; rotate_left; (focus (intro wq hSw; have hrd : ∀ b o, b < w9.heap.size → wq.cell? ⟨b, o, none⟩ = w9.cell? ⟨b, o, none⟩ := (fun b o h => hSw.cell (p := ⟨b, o, none⟩) h); go_simp; try with_reducible rfl; done)); try simp only [Act.put, List.setIfInBounds_toArray, List.set_cons_zero, List.set_cons_succ])
      (refine held_takeA 6 (by rfl) ?_ (by kernel_rfl) (fun _ _ _ h => h) hs6r ?_ ?_; rotate_left; (focus (intro wq hSw; have hrd : ∀ b o, b < w9.heap.size → wq.cell? ⟨b, o, none⟩ = w9.cell? ⟨b, o, none⟩ := (fun b o h => hSw.cell (p := ⟨b, o, none⟩) h); go_simp; try with_reducible rfl; done)); try simp only [Act.put, List.setIfInBounds_toArray, List.set_cons_zero, List.set_cons_succ])
      (refine held_takeA 7 (by rfl) ?_ (by kernel_rfl) (fun _ _ _ h => h) hs6r ?_ ?_; rotate_left; (focus (intro wq hSw; have hrd : ∀ b o, b < w9.heap.size → wq.cell? ⟨b, o, none⟩ = w9.cell? ⟨b, o, none⟩ := (fun b o h => hSw.cell (p := ⟨b, o, none⟩) h); go_simp; try with_reducible rfl; done)); try simp only [Act.put, List.setIfInBounds_toArray, List.set_cons_zero, List.set_cons_succ])
      (refine held_takeA 8 (by rfl) ?_ (by kernel_rfl) (fun _ _ _ h => h) hs6r ?_ ?_; rotate_left; (focus (intro wq hSw; have hrd : ∀ b o, b < w9.heap.size → wq.cell? ⟨b, o, none⟩ = w9.cell? ⟨b, o, none⟩ := (fun b o h => hSw.cell (p := ⟨b, o, none⟩) h); go_simp; try with_reducible rfl; done)); try simp only [Act.put, List.setIfInBounds_toArray, List.set_cons_zero, List.set_cons_succ])
      (refine held_takeA 9 (by rfl) ?_ (by kernel_rfl) (fun _ _ _ h => h) hs6r ?_ ?_; rotate_left; (focus (intro wq hSw; have hrd : ∀ b o, b < w9.heap.size → wq.cell? ⟨b, o, none⟩ = w9.cell? ⟨b, o, none⟩ := (fun b o h => hSw.cell (p := ⟨b, o, none⟩) h); go_simp; try with_reducible rfl; done)); try simp only [Act.put, List.setIfInBounds_toArray, List.set_cons_zero, List.set_cons_succ])
      (refine held_takeA 10 (by rfl) ?_ (by kernel_rfl) (fun _ _ _ h => h) hs6r ?_ ?_; rotate_left; (focus (intro wq hSw; have hrd : ∀ b o, b < w9.heap.size → wq.cell? ⟨b, o, none⟩ = w9.cell? ⟨b, o, none⟩ := (fun b o h => hSw.cell (p := ⟨b, o, none⟩) h); go_simp; try with_reducible rfl; done)); try simp only [Act.put, List.setIfInBounds_toArray, List.set_cons_zero, List.set_cons_succ])
      (refine held_takeA 12 (by rfl) ?_ (by kernel_rfl) (fun _ _ _ h => h) hs6r ?_ ?_; rotate_left; (focus (intro wq hSw; have hrd : ∀ b o, b < w9.heap.size → wq.cell? ⟨b, o, none⟩ = w9.cell? ⟨b, o, none⟩ := (fun b o h => hSw.cell (p := ⟨b, o, none⟩) h); go_simp; try with_reducible rfl; done)); try simp only [Act.put, List.setIfInBounds_toArray, List.set_cons_zero, List.set_cons_succ])
      refine held_callA 11 (by rfl) (by kernel_rfl) (by rfl) (fun KQ hKQ => ?_)
      go_simp
      refine ((lenFX (hT9.fwd (Below.refl _ _).drew)).mono ?_)
      rintro e w' ⟨rfl, rfl⟩
      rw [← hlen2.out]
      have hs7r := (show Below w9.heap.size w9 w9.drew from (Below.refl _ _).drew)
      refine hKQ.out _ _ hs7r ?_
      clear hKQ KQ
      try simp only [Act.put, List.setIfInBounds_toArray, List.set_cons_zero, List.set_cons_succ]
      (refine held_takeA 13 (by rfl) ?_ (by kernel_rfl) (fun _ _ _ h => h) hs7r ?_ ?_; rotate_left; (focus (intro wq hSw; have hrd : ∀ b o, b < w9.heap.size → wq.cell? ⟨b, o, none⟩ = w9.cell? ⟨b, o, none⟩ := (fun b o h => hSw.cell (p := ⟨b, o, none⟩) h); go_simp; try with_reducible rfl; done)); try simp only [Act.put, List.setIfInBounds_toArray, List.set_cons_zero, List.set_cons_succ])
      (refine held_takeA 14 (by rfl) ?_ (by kernel_rfl) (fun _ _ _ h => h) hs7r ?_ ?_; rotate_left; (focus (intro wq hSw; have hrd : ∀ b o, b < w9.heap.size → wq.cell? ⟨b, o, none⟩ = w9.cell? ⟨b, o, none⟩ := (fun b o h => hSw.cell (p := ⟨b, o, none⟩) h); go_simp; try with_reducible rfl; done)); try simp only [Act.put, List.setIfInBounds_toArray, List.set_cons_zero, List.set_cons_succ])
      (refine held_takeA 15 (by rfl) ?_ (by kernel_rfl) (fun _ _ _ h => h) hs7r ?_ ?_; rotate_left; (focus (intro wq hSw; have hrd : ∀ b o, b < w9.heap.size → wq.cell? ⟨b, o, none⟩ = w9.cell? ⟨b, o, none⟩ := (fun b o h => hSw.cell (p := ⟨b, o, none⟩) h); go_simp; try with_reducible rfl; done)); try simp only [Act.put, List.setIfInBounds_toArray, List.set_cons_zero, List.set_cons_succ])
      (refine held_takeA 16 (by rfl) ?_ (by kernel_rfl) (fun _ _ _ h => h) hs7r ?_ ?_; rotate_left; (focus (intro wq hSw; have hrd : ∀ b o, b < w9.heap.size → wq.cell? ⟨b, o, none⟩ = w9.cell? ⟨b, o, none⟩ := (fun b o h => hSw.cell (p := ⟨b, o, none⟩) h); go_simp; try with_reducible rfl; done)); try simp only [Act.put, List.setIfInBounds_toArray, List.set_cons_zero, List.set_cons_succ])
      (refine held_takeA 17 (by rfl) ?_ (by kernel_rfl) (fun _ _ _ h => h) hs7r ?_ ?_; rotate_left; (focus (intro wq hSw; have hrd : ∀ b o, b < w9.heap.size → wq.cell? ⟨b, o, none⟩ = w9.cell? ⟨b, o, none⟩ := (fun b o h => hSw.cell (p := ⟨b, o, none⟩) h); go_simp; try with_reducible rfl; done)); try simp only [Act.put, List.setIfInBounds_toArray, List.set_cons_zero, List.set_cons_succ])
      (refine held_takeA 18 (by rfl) ?_ (by kernel_rfl) (fun _ _ _ h => h) hs7r ?_ ?_; rotate_left; (focus (intro wq hSw; have hrd : ∀ b o, b < w9.heap.size → wq.cell? ⟨b, o, none⟩ = w9.cell? ⟨b, o, none⟩ := (fun b o h => hSw.cell (p := ⟨b, o, none⟩) h); go_simp; try with_reducible rfl; done)); try simp only [Act.put, List.setIfInBounds_toArray, List.set_cons_zero, List.set_cons_succ])
      (refine held_takeA 19 (by rfl) ?_ (by kernel_rfl) (fun _ _ _ h => h) hs7r ?_ ?_; rotate_left; (focus (intro wq hSw; have hrd : ∀ b o, b < w9.heap.size → wq.cell? ⟨b, o, none⟩ = w9.cell? ⟨b, o, none⟩ := (fun b o h => hSw.cell (p := ⟨b, o, none⟩) h); go_simp; try with_reducible rfl; done)); try simp only [Act.put, List.setIfInBounds_toArray, List.set_cons_zero, List.set_cons_succ])
      (refine held_takeA 20 (by rfl) ?_ (by kernel_rfl) (fun _ _ _ h => h) hs7r ?_ ?_; rotate_left; (focus (intro wq hSw; have hrd : ∀ b o, b < w9.heap.size → wq.cell? ⟨b, o, none⟩ = w9.cell? ⟨b, o, none⟩ := (fun b o h => hSw.cell (p := ⟨b, o, none⟩) h); go_simp; try with_reducible rfl; done)); try simp only [Act.put, List.setIfInBounds_toArray, List.set_cons_zero, List.set_cons_succ])
      (refine held_takeA 21 (by rfl) ?_ (by kernel_rfl) (fun _ _ _ h => h) hs7r ?_ ?_; rotate_left; (focus (intro wq hSw; have hrd : ∀ b o, b < w9.heap.size → wq.cell? ⟨b, o, none⟩ = w9.cell? ⟨b, o, none⟩ := (fun b o h => hSw.cell (p := ⟨b, o, none⟩) h); go_simp; try with_reducible rfl; done)); try simp only [Act.put, List.setIfInBounds_toArray, List.set_cons_zero, List.set_cons_succ])
      (refine held_takeA 22 (by rfl) ?_ (by kernel_rfl) (fun _ _ _ h => h) hs7r ?_ ?_; rotate_left; (focus (intro wq hSw; have hrd : ∀ b o, b < w9.heap.size → wq.cell? ⟨b, o, none⟩ = w9.cell? ⟨b, o, none⟩ := (fun b o h => hSw.cell (p := ⟨b, o, none⟩) h); go_simp; try with_reducible rfl; done)); try simp only [Act.put, List.setIfInBounds_toArray, List.set_cons_zero, List.set_cons_succ])
      (refine held_takeA 23 (by rfl) ?_ (by kernel_rfl) (fun _ _ _ h => h) hs7r ?_ ?_; rotate_left; (focus (intro wq hSw; have hrd : ∀ b o, b < w9.heap.size → wq.cell? ⟨b, o, none⟩ = w9.cell? ⟨b, o, none⟩ := (fun b o h => hSw.cell (p := ⟨b, o, none⟩) h); go_simp; try with_reducible rfl; done)); try simp only [Act.put, List.setIfInBounds_toArray, List.set_cons_zero, List.set_cons_succ])
      (refine held_takeA 24 (by rfl) ?_ (by kernel_rfl) (fun _ _ _ h => h) hs7r ?_ ?_; rotate_left; (focus (intro wq hSw; have hrd : ∀ b o, b < w9.heap.size → wq.cell? ⟨b, o, none⟩ = w9.cell? ⟨b, o, none⟩ := (fun b o h => hSw.cell (p := ⟨b, o, none⟩) h); go_simp; try with_reducible rfl; done)); try simp only [Act.put, List.setIfInBounds_toArray, List.set_cons_zero, List.set_cons_succ])
      (refine held_takeA 25 (by rfl) ?_ (by kernel_rfl) (fun _ _ _ h => h) hs7r ?_ ?_; rotate_left; (focus (intro wq hSw; have hrd : ∀ b o, b < w9.heap.size → wq.cell? ⟨b, o, none⟩ = w9.cell? ⟨b, o, none⟩ := (fun b o h => hSw.cell (p := ⟨b, o, none⟩) h); go_simp; try with_reducible rfl; done)); try simp only [Act.put, List.setIfInBounds_toArray, List.set_cons_zero, List.set_cons_succ])
      (refine held_takeA 26 (by rfl) ?_ (by kernel_rfl) (fun _ _ _ h => h) hs7r ?_ ?_; rotate_left; (focus (intro wq hSw; have hrd : ∀ b o, b < w9.heap.size → wq.cell? ⟨b, o, none⟩ = w9.cell? ⟨b, o, none⟩ := (fun b o h => hSw.cell (p := ⟨b, o, none⟩) h); go_simp; try with_reducible rfl; done)); try simp only [Act.put, List.setIfInBounds_toArray, List.set_cons_zero, List.set_cons_succ])
      (refine held_takeA 27 (by rfl) ?_ (by kernel_rfl) (fun _ _ _ h => h) hs7r ?_ ?_; rotate_left; (focus (intro wq hSw; have hrd : ∀ b o, b < w9.heap.size → wq.cell? ⟨b, o, none⟩ = w9.cell? ⟨b, o, none⟩ := (fun b o h => hSw.cell (p := ⟨b, o, none⟩) h); go_simp; try with_reducible rfl; done)); try simp only [Act.put, List.setIfInBounds_toArray, List.set_cons_zero, List.set_cons_succ])
      (refine held_takeA 28 (by rfl) ?_ (by kernel_rfl) (fun _ _ _ h => h) hs7r ?_ ?_; rotate_left; (focus (intro wq hSw; have hrd : ∀ b o, b < w9.heap.size → wq.cell? ⟨b, o, none⟩ = w9.cell? ⟨b, o, none⟩ := (fun b o h => hSw.cell (p := ⟨b, o, none⟩) h); go_simp; try with_reducible rfl; done)); try simp only [Act.put, List.setIfInBounds_toArray, List.set_cons_zero, List.set_cons_succ])
      (refine held_takeA 29 (by rfl) ?_ (by kernel_rfl) (fun _ _ _ h => h) hs7r ?_ ?_; rotate_left; (focus (intro wq hSw; have hrd : ∀ b o, b < w9.heap.size → wq.cell? ⟨b, o, none⟩ = w9.cell? ⟨b, o, none⟩ := (fun b o h => hSw.cell (p := ⟨b, o, none⟩) h); go_simp; try with_reducible rfl; done)); try simp only [Act.put, List.setIfInBounds_toArray, List.set_cons_zero, List.set_cons_succ])
      (refine held_takeA 30 (by rfl) ?_ (by kernel_rfl) (fun _ _ _ h => h) hs7r ?_ ?_; rotate_left; (focus (intro wq hSw; have hrd : ∀ b o, b < w9.heap.size → wq.cell? ⟨b, o, none⟩ = w9.cell? ⟨b, o, none⟩ := (fun b o h => hSw.cell (p := ⟨b, o, none⟩) h); go_simp; try with_reducible rfl; done)); try simp only [Act.put, List.setIfInBounds_toArray, List.set_cons_zero, List.set_cons_succ])
      (refine held_takeA 31 (by rfl) ?_ (by kernel_rfl) (fun _ _ _ h => h) hs7r ?_ ?_; rotate_left; (focus (intro wq hSw; have hrd : ∀ b o, b < w9.heap.size → wq.cell? ⟨b, o, none⟩ = w9.cell? ⟨b, o, none⟩ := (fun b o h => hSw.cell (p := ⟨b, o, none⟩) h); go_simp; try with_reducible rfl; done)); try simp only [Act.put, List.setIfInBounds_toArray, List.set_cons_zero, List.set_cons_succ])
      (refine held_takeA 32 (by rfl) ?_ (by kernel_rfl) (fun _ _ _ h => h) hs7r ?_ ?_; rotate_left; (focus (intro wq hSw; have hrd : ∀ b o, b < w9.heap.size → wq.cell? ⟨b, o, none⟩ = w9.cell? ⟨b, o, none⟩ := (fun b o h => hSw.cell (p := ⟨b, o, none⟩) h); go_simp; try with_reducible rfl; done)); try simp only [Act.put, List.setIfInBounds_toArray, List.set_cons_zero, List.set_cons_succ])
      (refine held_takeA 33 (by rfl) ?_ (by kernel_rfl) (fun _ _ _ h => h) hs7r ?_ ?_; rotate_left; (focus (intro wq hSw; have hrd : ∀ b o, b < w9.heap.size → wq.cell? ⟨b, o, none⟩ = w9.cell? ⟨b, o, none⟩ := (fun b o h => hSw.cell (p := ⟨b, o, none⟩) h); go_simp; try with_reducible rfl; done)); try simp only [Act.put, List.setIfInBounds_toArray, List.set_cons_zero, List.set_cons_succ])
      (refine held_takeA 34 (by rfl) ?_ (by kernel_rfl) (fun _ _ _ h => h) hs7r ?_ ?_; rotate_left; (focus (intro wq hSw; have hrd : ∀ b o, b < w9.heap.size → wq.cell? ⟨b, o, none⟩ = w9.cell? ⟨b, o, none⟩ := (fun b o h => hSw.cell (p := ⟨b, o, none⟩) h); go_simp; try with_reducible rfl; done)); try simp only [Act.put, List.setIfInBounds_toArray, List.set_cons_zero, List.set_cons_succ])
      (refine held_takeA 35 (by rfl) ?_ (by kernel_rfl) (fun _ _ _ h => h) hs7r ?_ ?_; rotate_left; (focus (intro wq hSw; have hrd : ∀ b o, b < w9.heap.size → wq.cell? ⟨b, o, none⟩ = w9.cell? ⟨b, o, none⟩ := (fun b o h => hSw.cell (p := ⟨b, o, none⟩) h); go_simp; try with_reducible rfl; done)); try simp only [Act.put, List.setIfInBounds_toArray, List.set_cons_zero, List.set_cons_succ])
      (refine held_takeA 36 (by rfl) ?_ (by kernel_rfl) (fun _ _ _ h => h) hs7r ?_ ?_; rotate_left; (focus (intro wq hSw; have hrd : ∀ b o, b < w9.heap.size → wq.cell? ⟨b, o, none⟩ = w9.cell? ⟨b, o, none⟩ := (fun b o h => hSw.cell (p := ⟨b, o, none⟩) h); go_simp; try with_reducible rfl; done)); try simp only [Act.put, List.setIfInBounds_toArray, List.set_cons_zero, List.set_cons_succ])
      refine wpAnyH_done (by kernel_rfl) ?_ _
      try refine NoPanic.normal ?_
      clear g0 g1 g2 g3 g4 g5 g6 h0 h1 h2 h3 h4 h5 h6 ltx9
      have hT10 := hT9.fwd (Below.refl w9.heap.size w9).drew
      have ha10 := ha9.below (Below.refl w9.heap.size w9).drew ha9.lt
      have hRS10 := hRS9.drew
      have hB10 := hB9.drew
      have hz10 : w9.heap.size ≤ w9.drew.heap.size := Nat.le_refl _
      clear hT9 ha9 hRS9 hB9 a6 e5 lta lte ltg9 hg9 he9 hln
      generalize w9.drew = w10 at *
      go_wp2_with fail
      go_loopw [109] (fun jv wi => ∃ j : Nat, j ≤ E.length ∧ jv = .int .i64 (j : Int) ∧ TabF wi Y2 g ro 1000 t2 (m + 1) E2 ∧ Blk wi ab 72 #[.int .i64 a.k, .int .i64 a.f.pr, .int .u32 a.f.src, .int .u32 a.f.dst, .int .i64 a.f.sp, .int .i64 a.f.dp, .int .i64 a.b, .int .i64 a.t] ∧ Seen enK wi (fun b => w2.heap.size ≤ b ∧ b < w3.heap.size) (some ⟨xb, xo, none⟩) E.length E ∧ w9.heap.size ≤ wi.heap.size ∧ Below w.heap.size w wi) (fun jv _ => E.length - (intOf jv).toNat)
      case atStart => exact ⟨0, Nat.zero_le _, rfl, hT10, ha10, hRS10, hz10, hB10⟩
      case round =>
      clear hT10 ha10 hRS10 hz10 hB10
      obtain ⟨j, hj, rfl, hT, ha, hR, hzi, hB⟩ := hrel
      by_cases hjl : j < E.length
      rotate_left
      · obtain rfl : j = E.length := by omega
        go_wp2_with fail
        exact ⟨⟨k + 1, m + 1, t2, E2, Y2, by omega, by go_num, by omega, hT, hY2w, hB⟩, by simp [intOf]; omega⟩
      obtain ⟨xb2, xo2, x, hxx, hxb, hxj, c0, c1, c2, c3, c4, c5, c6⟩ := en_cells hR hjl
      injection hxx with hxx
      injection hxx with hx1 hx2
      subst hx1 hx2
      have ltx : xb < wr.heap.size := by have := hgb.out; omega
      have hji : (j : Int) < E.length := by omega
      have hxo := hEo x (List.mem_of_getElem? hxj)
      have hb11 := (Below.refl wr.heap.size wr).alloc (Nat.le_refl _) (.cells #[.int .i64 (x).fl.pr, .int .u32 (x).fl.src, .int .u32 (x).fl.dst, .int .i64 (x).fl.sp, .int .i64 (x).fl.dp, .int .i64 (x).be, .int .i64 (x).la] 62)
      have hx11 := Blk.new wr 62 #[.int .i64 (x).fl.pr, .int .u32 (x).fl.src, .int .u32 (x).fl.dst, .int .i64 (x).fl.sp, .int .i64 (x).fl.dp, .int .i64 (x).be, .int .i64 (x).la]
      have hT11 := hT.fwd hb11
      have ha11 := ha.below hb11 ha.lt
      have hR11 := hR.below hb11 (fun b q => by have := hgb.out; omega)
      have hB11 := hB.trans (hb11.mono hB.size)
      have hz11 := hb11.size
      go_upto_region 19 with (fail)
      clear c0 c1 c2 c3 c4 c5 c6 hT ha hR hB hb11
      generalize wr.alloc (.cells #[.int .i64 (x).fl.pr, .int .u32 (x).fl.src, .int .u32 (x).fl.dst, .int .i64 (x).fl.sp, .int .i64 (x).fl.dp, .int .i64 (x).be, .int .i64 (x).la] 62) = w11 at *
      obtain ⟨xn, hxn⟩ : ∃ xn, xn = wr.heap.size := ⟨_, rfl⟩
      rw [← hxn] at hx11
      rw [← hxn]
      replace hxn := Lib.hid hxn
      have c0 : w11.cell? ⟨xn, 0, none⟩ = some (.int .i64 (x).fl.pr) := hx11.cellv 0 rfl
      have c1 : w11.cell? ⟨xn, 1, none⟩ = some (.int .u32 (x).fl.src) := hx11.cellv 1 rfl
      have c2 : w11.cell? ⟨xn, 2, none⟩ = some (.int .u32 (x).fl.dst) := hx11.cellv 2 rfl
      have c3 : w11.cell? ⟨xn, 3, none⟩ = some (.int .i64 (x).fl.sp) := hx11.cellv 3 rfl
      have c4 : w11.cell? ⟨xn, 4, none⟩ = some (.int .i64 (x).fl.dp) := hx11.cellv 4 rfl
      have ltn := hx11.lt
      obtain ⟨yv, is, hpy⟩ : ∃ yv is, peekN E2 x.fl = (yv, is) := ⟨_, _, rfl⟩
      have x5 := peekFX hT11 x.fl hxo
      rw [hpy] at x5
      unfold enA at x5
      replace hpy := Lib.hid hpy
      go_upto_region 20 with (go_at_call 43; refine x5.mono ?_; rintro e w12 ⟨rfl, hb12⟩)
      have hb13 := hb12.trans ((Below.refl w12.heap.size w12).alloc (Nat.le_refl _) (.cells #[.int .i64 (yv).fl.pr, .int .u32 (yv).fl.src, .int .u32 (yv).fl.dst, .int .i64 (yv).fl.sp, .int .i64 (yv).fl.dp, .int .i64 (yv).be, .int .i64 (yv).la] 62) |>.mono hb12.size)
      have hy13 := Blk.new w12 62 #[.int .i64 (yv).fl.pr, .int .u32 (yv).fl.src, .int .u32 (yv).fl.dst, .int .i64 (yv).fl.sp, .int .i64 (yv).fl.dp, .int .i64 (yv).be, .int .i64 (yv).la]
      have hx13 := hx11.below hb13 hx11.lt
      have hT13 := hT11.fwd hb13
      have ha13 := ha11.below hb13 ha11.lt
      have hR13 := hR11.below hb13 (fun b q => by have := hgb.out; omega)
      have hB13 := hB11.trans (hb13.mono hB11.size)
      have hz13 := hb13.size
      clear c0 c1 c2 c3 c4 x5 hx11 hT11 ha11 hR11 hB11 hb12 hb13
      generalize w12.alloc (.cells #[.int .i64 (yv).fl.pr, .int .u32 (yv).fl.src, .int .u32 (yv).fl.dst, .int .i64 (yv).fl.sp, .int .i64 (yv).fl.dp, .int .i64 (yv).be, .int .i64 (yv).la] 62) = w13 at *
      obtain ⟨yn, hyn⟩ : ∃ yn, yn = w12.heap.size := ⟨_, rfl⟩
      rw [← hyn] at hy13
      rw [← hyn]
      replace hyn := Lib.hid hyn
      have c0 : w13.cell? ⟨xn, 0, none⟩ = some (.int .i64 (x).fl.pr) := hx13.cellv 0 rfl
      have y0 : w13.cell? ⟨yn, 0, none⟩ = some (.int .i64 (yv).fl.pr) := hy13.cellv 0 rfl
      have c1 : w13.cell? ⟨xn, 1, none⟩ = some (.int .u32 (x).fl.src) := hx13.cellv 1 rfl
      have y1 : w13.cell? ⟨yn, 1, none⟩ = some (.int .u32 (yv).fl.src) := hy13.cellv 1 rfl
      have c2 : w13.cell? ⟨xn, 2, none⟩ = some (.int .u32 (x).fl.dst) := hx13.cellv 2 rfl
      have y2 : w13.cell? ⟨yn, 2, none⟩ = some (.int .u32 (yv).fl.dst) := hy13.cellv 2 rfl
      have c3 : w13.cell? ⟨xn, 3, none⟩ = some (.int .i64 (x).fl.sp) := hx13.cellv 3 rfl
      have y3 : w13.cell? ⟨yn, 3, none⟩ = some (.int .i64 (yv).fl.sp) := hy13.cellv 3 rfl
      have c4 : w13.cell? ⟨xn, 4, none⟩ = some (.int .i64 (x).fl.dp) := hx13.cellv 4 rfl
      have y4 : w13.cell? ⟨yn, 4, none⟩ = some (.int .i64 (yv).fl.dp) := hy13.cellv 4 rfl
      have c5 : w13.cell? ⟨xn, 5, none⟩ = some (.int .i64 (x).be) := hx13.cellv 5 rfl
      have y5 : w13.cell? ⟨yn, 5, none⟩ = some (.int .i64 (yv).be) := hy13.cellv 5 rfl
      have c6 : w13.cell? ⟨xn, 6, none⟩ = some (.int .i64 (x).la) := hx13.cellv 6 rfl
      have y6 : w13.cell? ⟨yn, 6, none⟩ = some (.int .i64 (yv).la) := hy13.cellv 6 rfl
      have a1 : w13.cell? ⟨ab, 1, none⟩ = some (.int .i64 a.f.pr) := ha13.cellv 1 rfl
      have a2 : w13.cell? ⟨ab, 2, none⟩ = some (.int .u32 a.f.src) := ha13.cellv 2 rfl
      have a3 : w13.cell? ⟨ab, 3, none⟩ = some (.int .u32 a.f.dst) := ha13.cellv 3 rfl
      have a4 : w13.cell? ⟨ab, 4, none⟩ = some (.int .i64 a.f.sp) := ha13.cellv 4 rfl
      have a5 : w13.cell? ⟨ab, 5, none⟩ = some (.int .i64 a.f.dp) := ha13.cellv 5 rfl
      have ltn := hx13.lt
      have lty := hy13.lt
      have lta2 := ha13.lt
      by_cases hxf : x.fl = a.f
      · rw [← hxf] at a1 a2 a3 a4 a5
        replace hxf := Lib.hid hxf
        go_wp2_with fail
        exact ⟨⟨j + 1, by omega, by go_num, hT13, ha13, hR13, by omega, hB13⟩, by simp [intOf]; omega⟩
      have dx : decide (Flo.mk x.fl.pr x.fl.src x.fl.dst x.fl.sp x.fl.dp = Flo.mk a.f.pr a.f.src a.f.dst a.f.sp a.f.dp) = false := decide_eq_false hxf
      have hst := lst.out j x hxj hxf
      rw [hpy.out] at hst
      replace hxf := Lib.hid hxf
      by_cases hj0 : j = 0
      · have z0 : ((j : Int) == 0) = true := by rw [beq_iff_eq]; omega
        rw [if_pos ⟨by simp, hj0⟩] at hst
        obtain ⟨hyx, his⟩ : yv = ze ∧ is = false := by
          have := hst
          injection this with h1 h2
          exact ⟨h1, h2⟩
        clear hst hyx
        subst his
        replace hj0 := Lib.hid hj0
        go_wp2_with fail
        all_goals exact ⟨⟨j + 1, by omega, by go_num, hT13, ha13, hR13, by omega, hB13⟩, by simp [intOf]; omega⟩
      have z0 : ((j : Int) == 0) = false := by rw [beq_eq_false_iff_ne]; omega
      rw [if_neg (fun q => hj0 q.2)] at hst
      replace hj0 := Lib.hid hj0
      obtain ⟨hyx, his⟩ : yv = x ∧ is = true := by
        have := hst
        injection this with h1 h2
        exact ⟨h1, h2⟩
      clear hst
      subst hyx
      subst his
      go_wp2_with fail
      all_goals exact ⟨⟨j + 1, by omega, by go_num, hT13, ha13, hR13, by omega, hB13⟩, by simp [intOf]; omega⟩
    · obtain rfl : md = false := by have := lmd.out; rw [this]; simp [hfull]
      have f0 : ((E.length : Int) == ro) = false := by rw [beq_eq_false_iff_ne]; exact hfull
      replace hfull := Lib.hid hfull
      -- region 14: 0 1 2 3 4 5 6 7 8 9 10 11C 12 13 14 15 16 17 18 19 20 21 22 23 24 25 26 27 28 29 30 31 32 33 34 35 36
      try refine wp_region_noPanic ?_
      have hs8r : Below w9.heap.size w9 w9.drew := (Below.refl _ _).drew
      refine wp_region_held_drew (S := fun w' => Below w9.heap.size w9 w') (by kernel_rfl) hs8r (fun _ => ?_)
      (refine held_takeA 0 (by rfl) ?_ (by kernel_rfl) (fun _ _ _ h => h) hs8r ?_ ?_; rotate_left; (focus (intro wq hSw; have hrd : ∀ b o, b < w9.heap.size → wq.cell? ⟨b, o, none⟩ = w9.cell? ⟨b, o, none⟩ := (fun b o h => hSw.cell (p := ⟨b, o, none⟩) h); go_simp; try with_reducible rfl; done)); try simp only [Act.put, List.setIfInBounds_toArray, List.set_cons_zero, List.set_cons_succ])
      (refine held_takeA 1 (by rfl) ?_ (by kernel_rfl) (fun _ _ _ h => h) hs8r ?_ ?_; rotate_left; (focus (intro wq hSw; have hrd : ∀ b o, b < w9.heap.size → wq.cell? ⟨b, o, none⟩ = w9.cell? ⟨b, o, none⟩ := (fun b o h => hSw.cell (p := ⟨b, o, none⟩) h); go_simp; try with_reducible rfl; done)); try simp only [Act.put, List.setIfInBounds_toArray, List.set_cons_zero, List.set_cons_succ])
      (refine held_takeA 2 (by rfl) ?_ (by kernel_rfl) (fun _ _ _ h => h) hs8r ?_ ?_; rotate_left; (focus (intro wq hSw; have hrd : ∀ b o, b < w9.heap.size → wq.cell? ⟨b, o, none⟩ = w9.cell? ⟨b, o, none⟩ := (fun b o h => hSw.cell (p := ⟨b, o, none⟩) h); go_simp; try with_reducible rfl; done)); try simp only [Act.put, List.setIfInBounds_toArray, List.set_cons_zero, List.set_cons_succ])
      (refine held_takeA 3 (by rfl) ?_ (by kernel_rfl) (fun _ _ _ h => h) hs8r ?_ ?_; rotate_left; (focus (intro wq hSw; have hrd : ∀ b o, b < w9.heap.size → wq.cell? ⟨b, o, none⟩ = w9.cell? ⟨b, o, none⟩ := (fun b o h => hSw.cell (p := ⟨b, o, none⟩) h); go_simp; try with_reducible rfl; done)); try simp only [Act.put, List.setIfInBounds_toArray, List.set_cons_zero, List.set_cons_succ])
      (refine held_takeA 4 (by rfl) ?_ (by kernel_rfl) (fun _ _ _ h => h) hs8r ?_ ?_; rotate_left; (focus (intro wq hSw; have hrd : ∀ b o, b < w9.heap.size → wq.cell? ⟨b, o, none⟩ = w9.cell? ⟨b, o, none⟩ := (fun b o h => hSw.cell (p := ⟨b, o, none⟩) h); go_simp; try with_reducible rfl; done)); try simp only [Act.put, List.setIfInBounds_toArray, List.set_cons_zero, List.set_cons_succ])
      (refine held_takeA 5 (by rfl) ?_ (by kernel_rfl) (fun _ _ _ h => h) hs8r ?_ ?_; rotate_left; (focus (intro wq hSw; have hrd : ∀ b o, b < w9.heap.size → wq.cell? ⟨b, o, none⟩ = w9.cell? ⟨b, o, none⟩ := (fun b o h => hSw.cell (p := ⟨b, o, none⟩) h); go_simp; try with_reducible rfl; done)); try simp only [Act.put, List.setIfInBounds_toArray, List.set_cons_zero, List.set_cons_succ])
      (refine held_takeA 6 (by rfl) ?_ (by kernel_rfl) (fun _ _ _ h => h) hs8r ?_ ?_; rotate_left; (focus (intro wq hSw; have hrd : ∀ b o, b < w9.heap.size → wq.cell? ⟨b, o, none⟩ = w9.cell? ⟨b, o, none⟩ := (fun b o h => hSw.cell (p := ⟨b, o, none⟩) h); go_simp; try with_reducible rfl; done)); try simp only [Act.put, List.setIfInBounds_toArray, List.set_cons_zero, List.set_cons_succ])
      (refine held_takeA 7 (by rfl) ?_ (by kernel_rfl) (fun _ _ _ h => h) hs8r ?_ ?_; rotate_left; (focus (intro wq hSw; have hrd : ∀ b o, b < w9.heap.size → wq.cell? ⟨b, o, none⟩ = w9.cell? ⟨b, o, none⟩ := (fun b o h => hSw.cell (p := ⟨b, o, none⟩) h); go_simp; try with_reducible rfl; done)); try simp only [Act.put, List.setIfInBounds_toArray, List.set_cons_zero, List.set_cons_succ])
      (refine held_takeA 8 (by rfl) ?_ (by kernel_rfl) (fun _ _ _ h => h) hs8r ?_ ?_; rotate_left; (focus (intro wq hSw; have hrd : ∀ b o, b < w9.heap.size → wq.cell? ⟨b, o, none⟩ = w9.cell? ⟨b, o, none⟩ := (fun b o h => hSw.cell (p := ⟨b, o, none⟩) h); go_simp; try with_reducible rfl; done)); try simp only [Act.put, List.setIfInBounds_toArray, List.set_cons_zero, List.set_cons_succ])
      (refine held_takeA 9 (by rfl) ?_ (by kernel_rfl) (fun _ _ _ h => h) hs8r ?_ ?_; rotate_left; (focus (intro wq hSw; have hrd : ∀ b o, b < w9.heap.size → wq.cell? ⟨b, o, none⟩ = w9.cell? ⟨b, o, none⟩ := (fun b o h => hSw.cell (p := ⟨b, o, none⟩) h); go_simp; try with_reducible rfl; done)); try simp only [Act.put, List.setIfInBounds_toArray, List.set_cons_zero, List.set_cons_succ])
      (refine held_takeA 10 (by rfl) ?_ (by kernel_rfl) (fun _ _ _ h => h) hs8r ?_ ?_; rotate_left; (focus (intro wq hSw; have hrd : ∀ b o, b < w9.heap.size → wq.cell? ⟨b, o, none⟩ = w9.cell? ⟨b, o, none⟩ := (fun b o h => hSw.cell (p := ⟨b, o, none⟩) h); go_simp; try with_reducible rfl; done)); try simp only [Act.put, List.setIfInBounds_toArray, List.set_cons_zero, List.set_cons_succ])
      (refine held_takeA 12 (by rfl) ?_ (by kernel_rfl) (fun _ _ _ h => h) hs8r ?_ ?_; rotate_left; (focus (intro wq hSw; have hrd : ∀ b o, b < w9.heap.size → wq.cell? ⟨b, o, none⟩ = w9.cell? ⟨b, o, none⟩ := (fun b o h => hSw.cell (p := ⟨b, o, none⟩) h); go_simp; try with_reducible rfl; done)); try simp only [Act.put, List.setIfInBounds_toArray, List.set_cons_zero, List.set_cons_succ])
      refine held_callA 11 (by rfl) (by kernel_rfl) (by rfl) (fun KQ hKQ => ?_)
      go_simp
      refine ((lenFX (hT9.fwd (Below.refl _ _).drew)).mono ?_)
      rintro e w' ⟨rfl, rfl⟩
      rw [← hlen2.out]
      have hs9r := (show Below w9.heap.size w9 w9.drew from (Below.refl _ _).drew)
      refine hKQ.out _ _ hs9r ?_
      clear hKQ KQ
      try simp only [Act.put, List.setIfInBounds_toArray, List.set_cons_zero, List.set_cons_succ]
      (refine held_takeA 13 (by rfl) ?_ (by kernel_rfl) (fun _ _ _ h => h) hs9r ?_ ?_; rotate_left; (focus (intro wq hSw; have hrd : ∀ b o, b < w9.heap.size → wq.cell? ⟨b, o, none⟩ = w9.cell? ⟨b, o, none⟩ := (fun b o h => hSw.cell (p := ⟨b, o, none⟩) h); go_simp; try with_reducible rfl; done)); try simp only [Act.put, List.setIfInBounds_toArray, List.set_cons_zero, List.set_cons_succ])
      (refine held_takeA 14 (by rfl) ?_ (by kernel_rfl) (fun _ _ _ h => h) hs9r ?_ ?_; rotate_left; (focus (intro wq hSw; have hrd : ∀ b o, b < w9.heap.size → wq.cell? ⟨b, o, none⟩ = w9.cell? ⟨b, o, none⟩ := (fun b o h => hSw.cell (p := ⟨b, o, none⟩) h); go_simp; try with_reducible rfl; done)); try simp only [Act.put, List.setIfInBounds_toArray, List.set_cons_zero, List.set_cons_succ])
      (refine held_takeA 15 (by rfl) ?_ (by kernel_rfl) (fun _ _ _ h => h) hs9r ?_ ?_; rotate_left; (focus (intro wq hSw; have hrd : ∀ b o, b < w9.heap.size → wq.cell? ⟨b, o, none⟩ = w9.cell? ⟨b, o, none⟩ := (fun b o h => hSw.cell (p := ⟨b, o, none⟩) h); go_simp; try with_reducible rfl; done)); try simp only [Act.put, List.setIfInBounds_toArray, List.set_cons_zero, List.set_cons_succ])
      (refine held_takeA 16 (by rfl) ?_ (by kernel_rfl) (fun _ _ _ h => h) hs9r ?_ ?_; rotate_left; (focus (intro wq hSw; have hrd : ∀ b o, b < w9.heap.size → wq.cell? ⟨b, o, none⟩ = w9.cell? ⟨b, o, none⟩ := (fun b o h => hSw.cell (p := ⟨b, o, none⟩) h); go_simp; try with_reducible rfl; done)); try simp only [Act.put, List.setIfInBounds_toArray, List.set_cons_zero, List.set_cons_succ])
      (refine held_takeA 17 (by rfl) ?_ (by kernel_rfl) (fun _ _ _ h => h) hs9r ?_ ?_; rotate_left; (focus (intro wq hSw; have hrd : ∀ b o, b < w9.heap.size → wq.cell? ⟨b, o, none⟩ = w9.cell? ⟨b, o, none⟩ := (fun b o h => hSw.cell (p := ⟨b, o, none⟩) h); go_simp; try with_reducible rfl; done)); try simp only [Act.put, List.setIfInBounds_toArray, List.set_cons_zero, List.set_cons_succ])
      (refine held_takeA 18 (by rfl) ?_ (by kernel_rfl) (fun _ _ _ h => h) hs9r ?_ ?_; rotate_left; (focus (intro wq hSw; have hrd : ∀ b o, b < w9.heap.size → wq.cell? ⟨b, o, none⟩ = w9.cell? ⟨b, o, none⟩ := (fun b o h => hSw.cell (p := ⟨b, o, none⟩) h); go_simp; try with_reducible rfl; done)); try simp only [Act.put, List.setIfInBounds_toArray, List.set_cons_zero, List.set_cons_succ])
      (refine held_takeA 19 (by rfl) ?_ (by kernel_rfl) (fun _ _ _ h => h) hs9r ?_ ?_; rotate_left; (focus (intro wq hSw; have hrd : ∀ b o, b < w9.heap.size → wq.cell? ⟨b, o, none⟩ = w9.cell? ⟨b, o, none⟩ := (fun b o h => hSw.cell (p := ⟨b, o, none⟩) h); go_simp; try with_reducible rfl; done)); try simp only [Act.put, List.setIfInBounds_toArray, List.set_cons_zero, List.set_cons_succ])
      (refine held_takeA 20 (by rfl) ?_ (by kernel_rfl) (fun _ _ _ h => h) hs9r ?_ ?_; rotate_left; (focus (intro wq hSw; have hrd : ∀ b o, b < w9.heap.size → wq.cell? ⟨b, o, none⟩ = w9.cell? ⟨b, o, none⟩ := (fun b o h => hSw.cell (p := ⟨b, o, none⟩) h); go_simp; try with_reducible rfl; done)); try simp only [Act.put, List.setIfInBounds_toArray, List.set_cons_zero, List.set_cons_succ])
      (refine held_takeA 21 (by rfl) ?_ (by kernel_rfl) (fun _ _ _ h => h) hs9r ?_ ?_; rotate_left; (focus (intro wq hSw; have hrd : ∀ b o, b < w9.heap.size → wq.cell? ⟨b, o, none⟩ = w9.cell? ⟨b, o, none⟩ := (fun b o h => hSw.cell (p := ⟨b, o, none⟩) h); go_simp; try with_reducible rfl; done)); try simp only [Act.put, List.setIfInBounds_toArray, List.set_cons_zero, List.set_cons_succ])
      (refine held_takeA 22 (by rfl) ?_ (by kernel_rfl) (fun _ _ _ h => h) hs9r ?_ ?_; rotate_left; (focus (intro wq hSw; have hrd : ∀ b o, b < w9.heap.size → wq.cell? ⟨b, o, none⟩ = w9.cell? ⟨b, o, none⟩ := (fun b o h => hSw.cell (p := ⟨b, o, none⟩) h); go_simp; try with_reducible rfl; done)); try simp only [Act.put, List.setIfInBounds_toArray, List.set_cons_zero, List.set_cons_succ])
      (refine held_takeA 23 (by rfl) ?_ (by kernel_rfl) (fun _ _ _ h => h) hs9r ?_ ?_; rotate_left; (focus (intro wq hSw; have hrd : ∀ b o, b < w9.heap.size → wq.cell? ⟨b, o, none⟩ = w9.cell? ⟨b, o, none⟩ := (fun b o h => hSw.cell (p := ⟨b, o, none⟩) h); go_simp; try with_reducible rfl; done)); try simp only [Act.put, List.setIfInBounds_toArray, List.set_cons_zero, List.set_cons_succ])
      (refine held_takeA 24 (by rfl) ?_ (by kernel_rfl) (fun _ _ _ h => h) hs9r ?_ ?_; rotate_left; (focus (intro wq hSw; have hrd : ∀ b o, b < w9.heap.size → wq.cell? ⟨b, o, none⟩ = w9.cell? ⟨b, o, none⟩ := (fun b o h => hSw.cell (p := ⟨b, o, none⟩) h); go_simp; try with_reducible rfl; done)); try simp only [Act.put, List.setIfInBounds_toArray, List.set_cons_zero, List.set_cons_succ])
      (refine held_takeA 25 (by rfl) ?_ (by kernel_rfl) (fun _ _ _ h => h) hs9r ?_ ?_; rotate_left; (focus (intro wq hSw; have hrd : ∀ b o, b < w9.heap.size → wq.cell? ⟨b, o, none⟩ = w9.cell? ⟨b, o, none⟩ := (fun b o h => hSw.cell (p := ⟨b, o, none⟩) h); go_simp; try with_reducible rfl; done)); try simp only [Act.put, List.setIfInBounds_toArray, List.set_cons_zero, List.set_cons_succ])
      (refine held_takeA 26 (by rfl) ?_ (by kernel_rfl) (fun _ _ _ h => h) hs9r ?_ ?_; rotate_left; (focus (intro wq hSw; have hrd : ∀ b o, b < w9.heap.size → wq.cell? ⟨b, o, none⟩ = w9.cell? ⟨b, o, none⟩ := (fun b o h => hSw.cell (p := ⟨b, o, none⟩) h); go_simp; try with_reducible rfl; done)); try simp only [Act.put, List.setIfInBounds_toArray, List.set_cons_zero, List.set_cons_succ])
      (refine held_takeA 27 (by rfl) ?_ (by kernel_rfl) (fun _ _ _ h => h) hs9r ?_ ?_; rotate_left; (focus (intro wq hSw; have hrd : ∀ b o, b < w9.heap.size → wq.cell? ⟨b, o, none⟩ = w9.cell? ⟨b, o, none⟩ := (fun b o h => hSw.cell (p := ⟨b, o, none⟩) h); go_simp; try with_reducible rfl; done)); try simp only [Act.put, List.setIfInBounds_toArray, List.set_cons_zero, List.set_cons_succ])
      (refine held_takeA 28 (by rfl) ?_ (by kernel_rfl) (fun _ _ _ h => h) hs9r ?_ ?_; rotate_left; (focus (intro wq hSw; have hrd : ∀ b o, b < w9.heap.size → wq.cell? ⟨b, o, none⟩ = w9.cell? ⟨b, o, none⟩ := (fun b o h => hSw.cell (p := ⟨b, o, none⟩) h); go_simp; try with_reducible rfl; done)); try simp only [Act.put, List.setIfInBounds_toArray, List.set_cons_zero, List.set_cons_succ])
      (refine held_takeA 29 (by rfl) ?_ (by kernel_rfl) (fun _ _ _ h => h) hs9r ?_ ?_; rotate_left; (focus (intro wq hSw; have hrd : ∀ b o, b < w9.heap.size → wq.cell? ⟨b, o, none⟩ = w9.cell? ⟨b, o, none⟩ := (fun b o h => hSw.cell (p := ⟨b, o, none⟩) h); go_simp; try with_reducible rfl; done)); try simp only [Act.put, List.setIfInBounds_toArray, List.set_cons_zero, List.set_cons_succ])
      (refine held_skipA 30 (by rfl) (by kernel_rfl) (fun _ _ _ h => h) hs9r ?_; try simp only [Act.put, List.setIfInBounds_toArray, List.set_cons_zero, List.set_cons_succ])
      (refine held_skipA 31 (by rfl) (by kernel_rfl) (fun _ _ _ h => h) hs9r ?_; try simp only [Act.put, List.setIfInBounds_toArray, List.set_cons_zero, List.set_cons_succ])
      (refine held_skipA 32 (by rfl) (by kernel_rfl) (fun _ _ _ h => h) hs9r ?_; try simp only [Act.put, List.setIfInBounds_toArray, List.set_cons_zero, List.set_cons_succ])
      (refine held_skipA 33 (by rfl) (by kernel_rfl) (fun _ _ _ h => h) hs9r ?_; try simp only [Act.put, List.setIfInBounds_toArray, List.set_cons_zero, List.set_cons_succ])
      (refine held_skipA 34 (by rfl) (by kernel_rfl) (fun _ _ _ h => h) hs9r ?_; try simp only [Act.put, List.setIfInBounds_toArray, List.set_cons_zero, List.set_cons_succ])
      (refine held_takeA 35 (by rfl) ?_ (by kernel_rfl) (fun _ _ _ h => h) hs9r ?_ ?_; rotate_left; (focus (intro wq hSw; have hrd : ∀ b o, b < w9.heap.size → wq.cell? ⟨b, o, none⟩ = w9.cell? ⟨b, o, none⟩ := (fun b o h => hSw.cell (p := ⟨b, o, none⟩) h); go_simp; try with_reducible rfl; done)); try simp only [Act.put, List.setIfInBounds_toArray, List.set_cons_zero, List.set_cons_succ])
      (refine held_takeA 36 (by rfl) ?_ (by kernel_rfl) (fun _ _ _ h => h) hs9r ?_ ?_; rotate_left; (focus (intro wq hSw; have hrd : ∀ b o, b < w9.heap.size → wq.cell? ⟨b, o, none⟩ = w9.cell? ⟨b, o, none⟩ := (fun b o h => hSw.cell (p := ⟨b, o, none⟩) h); go_simp; try with_reducible rfl; done)); try simp only [Act.put, List.setIfInBounds_toArray, List.set_cons_zero, List.set_cons_succ])
      refine wpAnyH_done (by kernel_rfl) ?_ _
      try refine NoPanic.normal ?_
      have hT10 := hT9.fwd (Below.refl w9.heap.size w9).drew
      have ha10 := ha9.below (Below.refl w9.heap.size w9).drew ha9.lt
      have hRS10 := hRS9.drew
      have hB10 := hB9.drew
      have hz10 : w9.heap.size ≤ w9.drew.heap.size := Nat.le_refl _
      clear hT9 ha9 hRS9 hB9 a6 e5 lta lte ltg9 hg9 he9 hln
      generalize w9.drew = w10 at *
      go_wp2_with fail
      go_loopw [109] (fun jv wi => ∃ j : Nat, j ≤ E.length ∧ jv = .int .i64 (j : Int) ∧ TabF wi Y2 g ro 1000 t2 (m + 1) E2 ∧ Blk wi ab 72 #[.int .i64 a.k, .int .i64 a.f.pr, .int .u32 a.f.src, .int .u32 a.f.dst, .int .i64 a.f.sp, .int .i64 a.f.dp, .int .i64 a.b, .int .i64 a.t] ∧ Seen enK wi (fun b => w2.heap.size ≤ b ∧ b < w3.heap.size) RA E.length E ∧ w9.heap.size ≤ wi.heap.size ∧ Below w.heap.size w wi) (fun jv _ => E.length - (intOf jv).toNat)
      case atStart => exact ⟨0, Nat.zero_le _, rfl, hT10, ha10, hRS10, hz10, hB10⟩
      case round =>
      clear hT10 ha10 hRS10 hz10 hB10
      obtain ⟨j, hj, rfl, hT, ha, hR, hzi, hB⟩ := hrel
      by_cases hjl : j < E.length
      rotate_left
      · obtain rfl : j = E.length := by omega
        go_wp2_with fail
        exact ⟨⟨k + 1, m + 1, t2, E2, Y2, by omega, by go_num, by omega, hT, hY2w, hB⟩, by simp [intOf]; omega⟩
      obtain ⟨xb, xo, x, rfl, hxb, hxj, c0, c1, c2, c3, c4, c5, c6⟩ := en_cells hR hjl
      skip
      skip
      skip
      have ltx : xb < wr.heap.size := by have := hgb.out; omega
      have hji : (j : Int) < E.length := by omega
      have hxo := hEo x (List.mem_of_getElem? hxj)
      have hb11 := (Below.refl wr.heap.size wr).alloc (Nat.le_refl _) (.cells #[.int .i64 (x).fl.pr, .int .u32 (x).fl.src, .int .u32 (x).fl.dst, .int .i64 (x).fl.sp, .int .i64 (x).fl.dp, .int .i64 (x).be, .int .i64 (x).la] 62)
      have hx11 := Blk.new wr 62 #[.int .i64 (x).fl.pr, .int .u32 (x).fl.src, .int .u32 (x).fl.dst, .int .i64 (x).fl.sp, .int .i64 (x).fl.dp, .int .i64 (x).be, .int .i64 (x).la]
      have hT11 := hT.fwd hb11
      have ha11 := ha.below hb11 ha.lt
      have hR11 := hR.below hb11 (fun b q => by have := hgb.out; omega)
      have hB11 := hB.trans (hb11.mono hB.size)
      have hz11 := hb11.size
      go_upto_region 19 with (fail)
      clear c0 c1 c2 c3 c4 c5 c6 hT ha hR hB hb11
      generalize wr.alloc (.cells #[.int .i64 (x).fl.pr, .int .u32 (x).fl.src, .int .u32 (x).fl.dst, .int .i64 (x).fl.sp, .int .i64 (x).fl.dp, .int .i64 (x).be, .int .i64 (x).la] 62) = w11 at *
      obtain ⟨xn, hxn⟩ : ∃ xn, xn = wr.heap.size := ⟨_, rfl⟩
      rw [← hxn] at hx11
      rw [← hxn]
      replace hxn := Lib.hid hxn
      have c0 : w11.cell? ⟨xn, 0, none⟩ = some (.int .i64 (x).fl.pr) := hx11.cellv 0 rfl
      have c1 : w11.cell? ⟨xn, 1, none⟩ = some (.int .u32 (x).fl.src) := hx11.cellv 1 rfl
      have c2 : w11.cell? ⟨xn, 2, none⟩ = some (.int .u32 (x).fl.dst) := hx11.cellv 2 rfl
      have c3 : w11.cell? ⟨xn, 3, none⟩ = some (.int .i64 (x).fl.sp) := hx11.cellv 3 rfl
      have c4 : w11.cell? ⟨xn, 4, none⟩ = some (.int .i64 (x).fl.dp) := hx11.cellv 4 rfl
      have ltn := hx11.lt
      obtain ⟨yv, is, hpy⟩ : ∃ yv is, peekN E2 x.fl = (yv, is) := ⟨_, _, rfl⟩
      have x5 := peekFX hT11 x.fl hxo
      rw [hpy] at x5
      unfold enA at x5
      replace hpy := Lib.hid hpy
      go_upto_region 20 with (go_at_call 43; refine x5.mono ?_; rintro e w12 ⟨rfl, hb12⟩)
      have hb13 := hb12.trans ((Below.refl w12.heap.size w12).alloc (Nat.le_refl _) (.cells #[.int .i64 (yv).fl.pr, .int .u32 (yv).fl.src, .int .u32 (yv).fl.dst, .int .i64 (yv).fl.sp, .int .i64 (yv).fl.dp, .int .i64 (yv).be, .int .i64 (yv).la] 62) |>.mono hb12.size)
      have hy13 := Blk.new w12 62 #[.int .i64 (yv).fl.pr, .int .u32 (yv).fl.src, .int .u32 (yv).fl.dst, .int .i64 (yv).fl.sp, .int .i64 (yv).fl.dp, .int .i64 (yv).be, .int .i64 (yv).la]
      have hx13 := hx11.below hb13 hx11.lt
      have hT13 := hT11.fwd hb13
      have ha13 := ha11.below hb13 ha11.lt
      have hR13 := hR11.below hb13 (fun b q => by have := hgb.out; omega)
      have hB13 := hB11.trans (hb13.mono hB11.size)
      have hz13 := hb13.size
      clear c0 c1 c2 c3 c4 x5 hx11 hT11 ha11 hR11 hB11 hb12 hb13
      generalize w12.alloc (.cells #[.int .i64 (yv).fl.pr, .int .u32 (yv).fl.src, .int .u32 (yv).fl.dst, .int .i64 (yv).fl.sp, .int .i64 (yv).fl.dp, .int .i64 (yv).be, .int .i64 (yv).la] 62) = w13 at *
      obtain ⟨yn, hyn⟩ : ∃ yn, yn = w12.heap.size := ⟨_, rfl⟩
      rw [← hyn] at hy13
      rw [← hyn]
      replace hyn := Lib.hid hyn
      have c0 : w13.cell? ⟨xn, 0, none⟩ = some (.int .i64 (x).fl.pr) := hx13.cellv 0 rfl
      have y0 : w13.cell? ⟨yn, 0, none⟩ = some (.int .i64 (yv).fl.pr) := hy13.cellv 0 rfl
      have c1 : w13.cell? ⟨xn, 1, none⟩ = some (.int .u32 (x).fl.src) := hx13.cellv 1 rfl
      have y1 : w13.cell? ⟨yn, 1, none⟩ = some (.int .u32 (yv).fl.src) := hy13.cellv 1 rfl
      have c2 : w13.cell? ⟨xn, 2, none⟩ = some (.int .u32 (x).fl.dst) := hx13.cellv 2 rfl
      have y2 : w13.cell? ⟨yn, 2, none⟩ = some (.int .u32 (yv).fl.dst) := hy13.cellv 2 rfl
      have c3 : w13.cell? ⟨xn, 3, none⟩ = some (.int .i64 (x).fl.sp) := hx13.cellv 3 rfl
      have y3 : w13.cell? ⟨yn, 3, none⟩ = some (.int .i64 (yv).fl.sp) := hy13.cellv 3 rfl
      have c4 : w13.cell? ⟨xn, 4, none⟩ = some (.int .i64 (x).fl.dp) := hx13.cellv 4 rfl
      have y4 : w13.cell? ⟨yn, 4, none⟩ = some (.int .i64 (yv).fl.dp) := hy13.cellv 4 rfl
      have c5 : w13.cell? ⟨xn, 5, none⟩ = some (.int .i64 (x).be) := hx13.cellv 5 rfl
      have y5 : w13.cell? ⟨yn, 5, none⟩ = some (.int .i64 (yv).be) := hy13.cellv 5 rfl
      have c6 : w13.cell? ⟨xn, 6, none⟩ = some (.int .i64 (x).la) := hx13.cellv 6 rfl
      have y6 : w13.cell? ⟨yn, 6, none⟩ = some (.int .i64 (yv).la) := hy13.cellv 6 rfl
      have a1 : w13.cell? ⟨ab, 1, none⟩ = some (.int .i64 a.f.pr) := ha13.cellv 1 rfl
      have a2 : w13.cell? ⟨ab, 2, none⟩ = some (.int .u32 a.f.src) := ha13.cellv 2 rfl
      have a3 : w13.cell? ⟨ab, 3, none⟩ = some (.int .u32 a.f.dst) := ha13.cellv 3 rfl
      have a4 : w13.cell? ⟨ab, 4, none⟩ = some (.int .i64 a.f.sp) := ha13.cellv 4 rfl
      have a5 : w13.cell? ⟨ab, 5, none⟩ = some (.int .i64 a.f.dp) := ha13.cellv 5 rfl
      have ltn := hx13.lt
      have lty := hy13.lt
      have lta2 := ha13.lt
      by_cases hxf : x.fl = a.f
      · rw [← hxf] at a1 a2 a3 a4 a5
        replace hxf := Lib.hid hxf
        go_wp2_with fail
        exact ⟨⟨j + 1, by omega, by go_num, hT13, ha13, hR13, by omega, hB13⟩, by simp [intOf]; omega⟩
      have dx : decide (Flo.mk x.fl.pr x.fl.src x.fl.dst x.fl.sp x.fl.dp = Flo.mk a.f.pr a.f.src a.f.dst a.f.sp a.f.dp) = false := decide_eq_false hxf
      have hst := lst.out j x hxj hxf
      rw [hpy.out] at hst
      replace hxf := Lib.hid hxf
      rw [if_neg (fun q => by cases q.1)] at hst
      obtain ⟨hyx, his⟩ : yv = x ∧ is = true := by
        have := hst
        injection this with h1 h2
        exact ⟨h1, h2⟩
      clear hst
      subst hyx
      subst his
      go_wp2_with fail
      all_goals exact ⟨⟨j + 1, by omega, by go_num, hT13, ha13, hR13, by omega, hB13⟩, by simp [intOf]; omega⟩
end Go.Proofs.Ytejgekoinbdhjaa
