/- update: the document's Parse. -/
import Derived.Test.YtfnclmacodchfaaPgP
import Derived.Test.YtfnclmacodchfaaAuC
namespace Go.Proofs.Ytfnclmacodchfaa
set_option linter.unusedVariables false
open Go Go.RowKit

set_option maxRecDepth 100000 in
set_option maxHeartbeats 16000000 in
theorem refUpParse_any (w : World) (A : Option Addr) (n c : Nat) (l : List UInt8) (h : Byt w w.heap.size A n l) (hn : n ≤ 10000000) :
    Calls Try.prog 20 #[.slice A n c] w fun e w' => Below w.heap.size w w' ∧ ParseUP w w' e (parseU l) := by
  have hi : (Try.prog.info? 33).map (·.size) = some 7 := by kernel_rfl
  have hj : (Try.prog.info? 44).map (·.size) = some 3 := by kernel_rfl
  have hm5 : (Try.prog.info? 31).map (·.size) = some 5 := by kernel_rfl
  have hl := Lib.hid h.1
  have hlens := up_lens l
  have hB := ((Below.refl w.heap.size w).alloc (Nat.le_refl _) (.cells #[.slice none 0 0, .int .i64 0, .slice none 0 0, .int .u32 0, .int .i64 0, .bool false, .slice none 0 0] 33)).alloc (by simp) (.cells #[.int .i64 0, .int .i64 0, .slice none 0 0] 44)
  have hr2 := (Blk.new w 33 #[.slice none 0 0, .int .i64 0, .slice none 0 0, .int .u32 0, .int .i64 0, .bool false, .slice none 0 0]).alloc (.cells #[.int .i64 0, .int .i64 0, .slice none 0 0] 44)
  have hr3 : Blk ((w.alloc (.cells #[.slice none 0 0, .int .i64 0, .slice none 0 0, .int .u32 0, .int .i64 0, .bool false, .slice none 0 0] 33)).alloc (.cells #[.int .i64 0, .int .i64 0, .slice none 0 0] 44)) (w.heap.size + 1) 44 #[.int .i64 0, .int .i64 0, .slice none 0 0] := by
    have := Blk.new (w.alloc (.cells #[.slice none 0 0, .int .i64 0, .slice none 0 0, .int .u32 0, .int .i64 0, .bool false, .slice none 0 0] 33)) 44 #[.int .i64 0, .int .i64 0, .slice none 0 0]
    simpa using this
  replace h := h.nx hB
  have hz2 : ((w.alloc (.cells #[.slice none 0 0, .int .i64 0, .slice none 0 0, .int .u32 0, .int .i64 0, .bool false, .slice none 0 0] 33)).alloc (.cells #[.int .i64 0, .int .i64 0, .slice none 0 0] 44)).heap.size = w.heap.size + 2 := by simp
  go_enter Try.func20, Try.ntmps20
  go_upto_region 1 with (fail)
  generalize (w.alloc (.cells #[.slice none 0 0, .int .i64 0, .slice none 0 0, .int .u32 0, .int .i64 0, .bool false, .slice none 0 0] 33)).alloc (.cells #[.int .i64 0, .int .i64 0, .slice none 0 0] 44) = w1 at *
  go_upto_region 2 with (go_at_call 44; refine (refRead_any w1 A n c l w1.heap.size h (Nat.le_refl _) (by omega)).mono ?_; rintro e w3 ⟨g, rfl, hg, hsrc, hb⟩)
  replace hr2 := hr2.below hb hr2.lt
  replace hr3 := hr3.below hb hr3.lt
  replace hB := hB.trans (hb.mono hB.size)
  have hlo0 : w1.heap.size ≤ w3.heap.size := hb.size
  obtain ⟨lo, hlo⟩ : ∃ lo, lo = w1.heap.size := ⟨_, rfl⟩
  rw [← hlo] at hsrc
  replace hlo := Lib.hid hlo
  have hgw : w.heap.size ≤ g := by omega
  clear hb
  replace hsrc : Ref w3 lo g (upS0 l) := hsrc
  have ltg3 := hsrc.lt
  have hz3 := hB.size
  go_wp2_with fail
  refine (refU16_any w3 lo g (upS0 l) hsrc).mono ?_
  rintro e wq3 ⟨rfl, hq3, hgq3⟩
  have eN : numV (upS0 l) 2 = prN (upS0 l) := rfl
  have eS : (tk (upS0 l) 2).1 = prS1 (upS0 l) := rfl
  rw [eN]
  rw [eS] at hq3
  have hzq3 := hgq3.size
  replace hr2 := hr2.grown hgq3 (by simp; omega)
  replace hr3 := hr3.grown hgq3 (by simp; omega)
  replace hB := below_own hB hgq3 hz3 hgw
  go_wp2_with fail
  refine (refBytes_any wq3 lo g _ hq3 (prN (upS0 l))).mono ?_
  rintro e w4 ⟨v, rfl, own, hsrc, hgo3⟩
  have eV : (tk (prS1 (upS0 l)) (prN (upS0 l))).2 = upG l := rfl
  have eS2 : (tk (prS1 (upS0 l)) (prN (upS0 l))).1 = upS1 l := rfl
  rw [eV] at own
  rw [eS2] at hsrc
  obtain ⟨A4, k4, rfl, _, _, by4, hA4⟩ := own.any2
  have hz3b := hB.size
  have ltgq3 := hq3.lt
  replace hr2 := hr2.grown hgo3 (by simp; omega)
  replace hr3 := hr3.grown hgo3 (by simp; omega)
  replace hB := below_own hB hgo3 hz3b hgw
  have hA4g : ∀ a, A4 = some a → a.block ≠ g := fun a e => by have := hA4 a e; omega
  clear eN eS eV eS2 own
  have ltg4 := hsrc.lt
  have hz4 := hB.size
  go_wp2_with fail
  refine (refU16_any w4 lo g (upS1 l) hsrc).mono ?_
  rintro e wq4 ⟨rfl, hq4, hgq4⟩
  have eN : numV (upS1 l) 2 = prN (upS1 l) := rfl
  have eS : (tk (upS1 l) 2).1 = prS1 (upS1 l) := rfl
  rw [eN]
  rw [eS] at hq4
  have hzq4 := hgq4.size
  replace hr2 := hr2.grown hgq4 (by simp; omega)
  replace hr3 := hr3.grown hgq4 (by simp; omega)
  replace hB := below_own hB hgq4 hz4 hgw
  go_wp2_with fail
  refine (refBytes_any wq4 lo g _ hq4 (prN (upS1 l))).mono ?_
  rintro e w5 ⟨v, rfl, own, hsrc, hgo4⟩
  have eV : (tk (prS1 (upS1 l)) (prN (upS1 l))).2 = upA l := rfl
  have eS2 : (tk (prS1 (upS1 l)) (prN (upS1 l))).1 = upS2 l := rfl
  rw [eV] at own
  rw [eS2] at hsrc
  obtain ⟨A5, k5, rfl, _, _, by5, hA5⟩ := own.any2
  have hz4b := hB.size
  have ltgq4 := hq4.lt
  replace hr2 := hr2.grown hgo4 (by simp; omega)
  replace hr3 := hr3.grown hgo4 (by simp; omega)
  replace hB := below_own hB hgo4 hz4b hgw
  have hA5g : ∀ a, A5 = some a → a.block ≠ g := fun a e => by have := hA5 a e; omega
  clear eN eS eV eS2 own
  replace by4 := (by4.off hgq4 hA4g).off hgo4 hA4g
  clear hgq3 hgo3 hgq4 hgo4 hq3 hq4
  have ltg5 := hsrc.lt
  have hz5 := hB.size
  go_wp2_with fail
  refine (refRest_any w5 lo g (upS2 l) hsrc).mono ?_
  rintro e w6 ⟨v6, rfl, own6, hs6, hg6⟩
  have eV : (tk (upS2 l) (leftV (upS2 l))).2 = upR l := rfl
  have eS : (tk (upS2 l) (leftV (upS2 l))).1 = upS3 l := rfl
  rw [eV] at own6
  rw [eS] at hs6
  obtain ⟨A6, k6, rfl, _, _, by6, hA6⟩ := own6.any2
  replace by4 := by4.off hg6 hA4g
  replace by5 := by5.off hg6 hA5g
  replace hr2 := hr2.grown hg6 (by simp; omega)
  replace hr3 := hr3.grown hg6 (by simp; omega)
  replace hB := below_own hB hg6 hz5 hgw
  have ce := hs6.err2
  have lt6 := hs6.lt
  clear hg6 own6 hsrc eV eS
  by_cases h1e : (upS3 l).e = 0
  rotate_left
  · have spec := Lib.hid (parseU_short h1e)
    have hb : ((upS3 l).e != 0) = true := by simpa using h1e
    replace h1e := Lib.hid h1e
    go_upto_region 6 with (fail)
    go_wp2_with (go_at_call 48; refine (refUpFault_any w6 1).mono ?_; rintro e wf ⟨rfl, hbf⟩; refine Hid.out ?_)
    refine Lib.hid ?_
    have hr2f := hr2.below hbf hr2.lt
    have hr3f := hr3.below hbf hr3.lt
    go_wp2_with (refine wpList_store_blk rfl hr2f 33 (.tmp 2) (.tmp 30) rfl rfl rfl rfl hi (by simp [Value.oneCell']) ?_; intro wg hr2g hg2; refine Hid.out ?_)
    refine Lib.hid ?_
    have hr3g := hr3f.grown hg2 (by simp)
    go_wp2_with (refine wpList_store_blk rfl hr3g 44 (.tmp 3) (.tmp 31) rfl rfl rfl rfl hj (by simp [Value.oneCell']) ?_; intro wh hr3h hg3)
    have hr2h := hr2g.grown hg3 (by simp)
    try rw [Exit.noGoto_ret]
    refine bodyPost_ret (results_2c rfl _ rfl rfl (load_blk hr2h Try.underlying33 rfl hi) (load_blk hr3h Try.underlying44 rfl hj)) rfl ?_
    have hBf := hB.trans (hbf.mono hB.size)
    have hBg := below_own hBf hg2 hBf.size (Nat.le_refl _)
    have hBh := below_own hBg hg3 hBg.size (by omega)
    refine ⟨hBh, ?_⟩
    rw [spec.out]
    exact ⟨_, rfl, OwnB.nil _ _⟩
  have hb : ((upS3 l).e != 0) = false := by simpa using h1e
  have h1x := Lib.hid h1e
  have hlG : (upG l).length ≤ 10000000 := by have := hl.out; omega
  have hlA : (upA l).length ≤ 10000000 := by have := hl.out; omega
  have hlR : (upR l).length ≤ 10000000 := by have := hl.out; omega
  have hr3w6 : w.heap.size + 1 < w6.heap.size := hr3.lt
  have hb1 := (Below.refl w6.heap.size w6).alloc (Nat.le_refl _) (.cells #[.slice none 0 0, .int .i64 0, .slice none 0 0, .int .u32 0, .int .i64 0, .bool false, .slice none 0 0] 33)
  have hu := Blk.new w6 33 #[.slice none 0 0, .int .i64 0, .slice none 0 0, .int .u32 0, .int .i64 0, .bool false, .slice none 0 0]
  go_upto_region 9 with (fail)
  clear h1e ce lt6 hs6 hb hlens hl hn hA4 hA5 hA6 hA4g hA5g ltg3 ltg4 ltg5 ltgq3 ltgq4 hz2 hz3 hz4 hz3b hz4b hz5 hzq3 hzq4 hg hgw hlo0 hlo h
  replace by4 := by4.below hb1
  replace by5 := by5.below hb1
  replace by6 := by6.below hb1
  replace hr2 := hr2.below hb1 hr2.lt
  replace hr3 := hr3.below hb1 hr3.lt
  replace hB := hB.trans (hb1.mono hB.size)
  generalize w6.alloc (.cells #[.slice none 0 0, .int .i64 0, .slice none 0 0, .int .u32 0, .int .i64 0, .bool false, .slice none 0 0] 33) = w8 at *
  have hgz0 := hb1.size
  clear hb1
  have hltu := hu.lt
  generalize w6.heap.size = gu at *
  have hgu1 : w.heap.size + 1 < gu := hr3w6
  clear hr3w6
  go_wp2_with fail
  refine (refParse3_any w8 A4 _ k4 (upG l) (by4.more (show gu ≤ w8.heap.size by omega)) hlG).mono ?_
  rintro e w9 ⟨hpp, hby⟩
  replace hu := hu.below hby hu.lt
  replace by4 := by4.below (hby.mono (show gu ≤ w8.heap.size by omega))
  replace by5 := by5.below (hby.mono (show gu ≤ w8.heap.size by omega))
  replace by6 := by6.below (hby.mono (show gu ≤ w8.heap.size by omega))
  replace hr2 := hr2.below hby hr2.lt
  replace hr3 := hr3.below hby hr3.lt
  replace hB := hB.trans (hby.mono hB.size)
  have hzy := hby.size
  have fu := hu.frozen 0
  have lu := hu.lt
  have cu : w9.cell? ⟨gu, 0, none⟩ = some (.slice none 0 0) := hu.cellv 0 rfl
  cases hq : parseP (upG l) with
  | none =>
    rw [hq] at hpp
    have hpp2 : e = .returned (.tuple #[.slice none 0 0, .bool false]) := hpp
    subst hpp2
    clear hpp
    have spec := Lib.hid (parseU_gone h1x.out hq)
    go_upto_region 11 with (fail)
    obtain ⟨hu2, hg2⟩ := blk_store hu 0 (.slice none 0 0)
    generalize w9.setCell ⟨gu, 0, none⟩ (.slice none 0 0) = w9b at *
    replace hr2 := hr2.grown hg2 (by simp; omega)
    replace hr3 := hr3.grown hg2 (by simp; omega)
    have hzB := hB.size
    replace hB := below_own hB hg2 hzB (by omega)
    clear hu hu2 hg2 by4 by5 by6 fu lu cu
    go_wp2_with (go_at_call 48; refine (refUpFault_any w9b 10).mono ?_; rintro e wf ⟨rfl, hbf⟩; refine Hid.out ?_)
    refine Lib.hid ?_
    have hr2f := hr2.below hbf hr2.lt
    have hr3f := hr3.below hbf hr3.lt
    go_wp2_with (refine wpList_store_blk rfl hr2f 33 (.tmp 2) (.tmp 41) rfl rfl rfl rfl hi (by simp [Value.oneCell']) ?_; intro wg hr2g hg2; refine Hid.out ?_)
    refine Lib.hid ?_
    have hr3g := hr3f.grown hg2 (by simp)
    go_wp2_with (refine wpList_store_blk rfl hr3g 44 (.tmp 3) (.tmp 42) rfl rfl rfl rfl hj (by simp [Value.oneCell']) ?_; intro wh hr3h hg3)
    have hr2h := hr2g.grown hg3 (by simp)
    try rw [Exit.noGoto_ret]
    refine bodyPost_ret (results_2c rfl _ rfl rfl (load_blk hr2h Try.underlying33 rfl hi) (load_blk hr3h Try.underlying44 rfl hj)) rfl ?_
    have hBf := hB.trans (hbf.mono hB.size)
    have hBg := below_own hBf hg2 hBf.size (Nat.le_refl _)
    have hBh := below_own hBg hg3 hBg.size (by omega)
    refine ⟨hBh, ?_⟩
    rw [spec.out]
    exact ⟨_, rfl, OwnB.nil _ _⟩
  | some ll =>
    rw [hq] at hpp
    obtain ⟨vv, rfl, hrow⟩ := hpp
    obtain ⟨A09, k09, rfl, _, _, hS9⟩ := hrow.seen (Nat.le_refl _)
    have hS : Seen pfK w9 (fun b => gu < b ∧ b < w9.heap.size) A09 ll.length ll := hS9.more fun b q => ⟨by have := q.1; omega, q.2⟩
    go_upto_region 12 with (fail)
    obtain ⟨hu2, hg2⟩ := blk_store hu 0 (.slice A09 ll.length k09)
    generalize w9.setCell ⟨gu, 0, none⟩ (.slice A09 ll.length k09) = w9c at *
    replace hr2 := hr2.grown hg2 (by simp; omega)
    replace hr3 := hr3.grown hg2 (by simp; omega)
    have hzB := hB.size
    replace hB := below_own hB hg2 hzB (by omega)
    replace by4 := by4.below (below_own (Below.refl gu w9) hg2 (by omega) (Nat.le_refl gu))
    replace by5 := by5.below (below_own (Below.refl gu w9) hg2 (by omega) (Nat.le_refl gu))
    replace by6 := by6.below (below_own (Below.refl gu w9) hg2 (by omega) (Nat.le_refl gu))
    replace hS := hS.up2 hg2
    have hzc := hg2.size
    replace hq := Lib.hid hq
    clear hS9 hrow fu lu cu hu
    obtain ⟨A1, c1, l1, e1, e2, e3⟩ : ∃ A1 c1 l1, A1 = A09 ∧ c1 = k09 ∧ l1 = ll := ⟨_, _, _, rfl, rfl, rfl⟩
    subst e1
    subst e2
    subst e3
    have hq1 := hq
    have hS1 := hS
    have hu : Blk w9c gu 33 #[.slice A1 l1.length c1, .int .i64 0, .slice none 0 0, .int .u32 0, .int .i64 0, .bool false, .slice none 0 0] := hu2
    clear hq hS hu2 hg2
    go_wp2_with fail
    refine (refParse3_any w9c A6 _ k6 (upR l) (by6.more (show gu ≤ w9c.heap.size by omega)) hlR).mono ?_
    rintro e wr ⟨hpp, hby⟩
    replace hu := hu.below hby hu.lt
    replace by4 := by4.below (hby.mono (show gu ≤ w9c.heap.size by omega))
    replace by5 := by5.below (hby.mono (show gu ≤ w9c.heap.size by omega))
    replace by6 := by6.below (hby.mono (show gu ≤ w9c.heap.size by omega))
    replace hS1 := hS1.up hby
    replace hr2 := hr2.below hby hr2.lt
    replace hr3 := hr3.below hby hr3.lt
    replace hB := hB.trans (hby.mono hB.size)
    have hzy := hby.size
    have fu := hu.frozen 6
    have lu := hu.lt
    have cu : wr.cell? ⟨gu, 6, none⟩ = some (.slice none 0 0) := hu.cellv 6 rfl
    cases hq : parseP (upR l) with
    | none =>
      rw [hq] at hpp
      have hpp2 : e = .returned (.tuple #[.slice none 0 0, .bool false]) := hpp
      subst hpp2
      clear hpp
      have spec := Lib.hid (parseU_rest h1x.out hq1.out hq)
      go_upto_region 14 with (fail)
      obtain ⟨hu2, hg2⟩ := blk_store hu 6 (.slice none 0 0)
      generalize wr.setCell ⟨gu, 6, none⟩ (.slice none 0 0) = wrb at *
      replace hr2 := hr2.grown hg2 (by simp; omega)
      replace hr3 := hr3.grown hg2 (by simp; omega)
      have hzB := hB.size
      replace hB := below_own hB hg2 hzB (by omega)
      clear hu hu2 hg2 by4 by5 by6 fu lu cu
      go_wp2_with (go_at_call 48; refine (refUpFault_any wrb 10).mono ?_; rintro e wf ⟨rfl, hbf⟩; refine Hid.out ?_)
      refine Lib.hid ?_
      have hr2f := hr2.below hbf hr2.lt
      have hr3f := hr3.below hbf hr3.lt
      go_wp2_with (refine wpList_store_blk rfl hr2f 33 (.tmp 2) (.tmp 52) rfl rfl rfl rfl hi (by simp [Value.oneCell']) ?_; intro wg hr2g hg2; refine Hid.out ?_)
      refine Lib.hid ?_
      have hr3g := hr3f.grown hg2 (by simp)
      go_wp2_with (refine wpList_store_blk rfl hr3g 44 (.tmp 3) (.tmp 53) rfl rfl rfl rfl hj (by simp [Value.oneCell']) ?_; intro wh hr3h hg3)
      have hr2h := hr2g.grown hg3 (by simp)
      try rw [Exit.noGoto_ret]
      refine bodyPost_ret (results_2c rfl _ rfl rfl (load_blk hr2h Try.underlying33 rfl hi) (load_blk hr3h Try.underlying44 rfl hj)) rfl ?_
      have hBf := hB.trans (hbf.mono hB.size)
      have hBg := below_own hBf hg2 hBf.size (Nat.le_refl _)
      have hBh := below_own hBg hg3 hBg.size (by omega)
      refine ⟨hBh, ?_⟩
      rw [spec.out]
      exact ⟨_, rfl, OwnB.nil _ _⟩
    | some ll =>
      rw [hq] at hpp
      obtain ⟨vv, rfl, hrow⟩ := hpp
      obtain ⟨A69, k69, rfl, _, _, hS9⟩ := hrow.seen (Nat.le_refl _)
      have hS : Seen pfK wr (fun b => gu < b ∧ b < wr.heap.size) A69 ll.length ll := hS9.more fun b q => ⟨by have := q.1; omega, q.2⟩
      go_upto_region 15 with (fail)
      obtain ⟨hu2, hg2⟩ := blk_store hu 6 (.slice A69 ll.length k69)
      generalize wr.setCell ⟨gu, 6, none⟩ (.slice A69 ll.length k69) = wrc at *
      replace hr2 := hr2.grown hg2 (by simp; omega)
      replace hr3 := hr3.grown hg2 (by simp; omega)
      have hzB := hB.size
      replace hB := below_own hB hg2 hzB (by omega)
      replace by4 := by4.below (below_own (Below.refl gu wr) hg2 (by omega) (Nat.le_refl gu))
      replace by5 := by5.below (below_own (Below.refl gu wr) hg2 (by omega) (Nat.le_refl gu))
      replace by6 := by6.below (below_own (Below.refl gu wr) hg2 (by omega) (Nat.le_refl gu))
      replace hS := hS.up2 hg2
      have hzc := hg2.size
      replace hq := Lib.hid hq
      replace hS1 := hS1.up2 hg2
      clear hS9 hrow fu lu cu hu
      obtain ⟨A2, c2, l2, e1, e2, e3⟩ : ∃ A2 c2 l2, A2 = A69 ∧ c2 = k69 ∧ l2 = ll := ⟨_, _, _, rfl, rfl, rfl⟩
      subst e1
      subst e2
      subst e3
      have hq2 := hq.out
      replace hq1 := hq1.out
      have hS2 := hS
      have hu : Blk wrc gu 33 #[.slice A1 l1.length c1, .int .i64 0, .slice none 0 0, .int .u32 0, .int .i64 0, .bool false, .slice A2 l2.length c2] := hu2
      have lu := hu.lt
      clear hq hS hu2 hg2 by4 by6
      have hl2b : l2.length ≤ 10000000 := Nat.le_trans (parseP_len hq2) hlR
      by_cases h3 : (upA l).length = 0 ∧ l2.length = 0
      · have spec := Lib.hid (parseU_nil h1x.out hq1 hq2 h3)
        have a0 : ((upA l).length : Int) = 0 := by omega
        have a1 : (l2.length : Int) = 0 := by omega
        have b0 : (((upA l).length : Int) == 0) = true := by simpa using a0
        have b1 : ((l2.length : Int) == 0) = true := by simpa using a1
        replace a0 := Lib.hid a0
        replace a1 := Lib.hid a1
        replace h3 := Lib.hid h3
        have u0 : wrc.cell? ⟨gu, 0, none⟩ = some (.slice A1 l1.length c1) := hu.cellv 0 rfl
        have u1 : wrc.cell? ⟨gu, 1, none⟩ = some (.int .i64 0) := hu.cellv 1 rfl
        have u2 : wrc.cell? ⟨gu, 2, none⟩ = some (.slice none 0 0) := hu.cellv 2 rfl
        have u3 : wrc.cell? ⟨gu, 3, none⟩ = some (.int .u32 0) := hu.cellv 3 rfl
        have u4 : wrc.cell? ⟨gu, 4, none⟩ = some (.int .i64 0) := hu.cellv 4 rfl
        have u5 : wrc.cell? ⟨gu, 5, none⟩ = some (.bool false) := hu.cellv 5 rfl
        have u6 : wrc.cell? ⟨gu, 6, none⟩ = some (.slice A2 l2.length c2) := hu.cellv 6 rfl
        go_upto_region 16 with (fail)
        go_wp2_with (refine wpList_store_blk rfl hr2 33 (.tmp 2) (.tmp 63) rfl rfl rfl rfl hi (by simp [Value.oneCell']) ?_; intro wg hr2g hg2; refine Hid.out ?_)
        refine Lib.hid ?_
        have hr3g := hr3.grown hg2 (by simp)
        go_wp2_with (refine wpList_store_blk rfl hr3g 44 (.tmp 3) (.tmp 64) rfl rfl rfl rfl hj (by simp [Value.oneCell']) ?_; intro wh hr3h hg3)
        have hr2h := hr2g.grown hg3 (by simp)
        try rw [Exit.noGoto_ret]
        refine bodyPost_ret (results_2c rfl _ rfl rfl (load_blk hr2h Try.underlying33 rfl hi) (load_blk hr3h Try.underlying44 rfl hj)) rfl ?_
        have hBg := below_own hB hg2 hB.size (Nat.le_refl _)
        have hBh := below_own hBg hg3 hBg.size (by omega)
        have hzw := hB.size
        have h0u : w.heap.size + 1 < gu := hgu1
        refine ⟨hBh, ?_⟩
        rw [spec.out]
        have t1b := ((hS1.up3 hg2 (by omega)).up3 hg3 (by omega)).more (fun b q => (q.2 : b < wh.heap.size))
        have t2b := ((hS2.up3 hg2 (by omega)).up3 hg3 (by omega)).more (fun b q => (q.2 : b < wh.heap.size))
        exact ⟨A1, c1, none, 0, 0, A2, c2, rfl, t1b, Seen.none_, t2b⟩
      by_cases a0 : (upA l).length = 0
      · have a1 : l2.length ≠ 0 := fun q => h3 ⟨a0, q⟩
        have a1i : ¬ ((l2.length : Int) = 0) := by omega
        have a0i : ((upA l).length : Int) = 0 := by omega
        have b1 : ((l2.length : Int) == 0) = false := by simpa using a1i
        have b0 : (((upA l).length : Int) == 0) = true := by simpa using a0i
        replace a0i := Lib.hid a0i
        replace a1i := Lib.hid a1i
        replace a1 := Lib.hid a1
        replace h3 := Lib.hid h3
        replace a0 := Lib.hid a0
        have u0 : wrc.cell? ⟨gu, 0, none⟩ = some (.slice A1 l1.length c1) := hu.cellv 0 rfl
        have u1 : wrc.cell? ⟨gu, 1, none⟩ = some (.int .i64 0) := hu.cellv 1 rfl
        have u2 : wrc.cell? ⟨gu, 2, none⟩ = some (.slice none 0 0) := hu.cellv 2 rfl
        have u3 : wrc.cell? ⟨gu, 3, none⟩ = some (.int .u32 0) := hu.cellv 3 rfl
        have u4 : wrc.cell? ⟨gu, 4, none⟩ = some (.int .i64 0) := hu.cellv 4 rfl
        have u5 : wrc.cell? ⟨gu, 5, none⟩ = some (.bool false) := hu.cellv 5 rfl
        have u6 : wrc.cell? ⟨gu, 6, none⟩ = some (.slice A2 l2.length c2) := hu.cellv 6 rfl
        have hgz : gu < wrc.heap.size := by omega
        go_wp2_with fail
        refine (refParse7_any wrc A5 _ k5 (upA l) (by5.more (show gu ≤ wrc.heap.size by omega)) hlA).mono ?_
        rintro e wa ⟨hba, hP⟩
        replace hu := hu.below hba hu.lt
        replace hS1 := hS1.up hba
        replace hS2 := hS2.up hba
        replace hr2 := hr2.below hba hr2.lt
        replace hr3 := hr3.below hba hr3.lt
        replace hB := hB.trans (hba.mono hB.size)
        have hza := hba.size
        clear by5 u0 u1 u2 u3 u4 u5 u6
        cases hA : parseA (upA l) with
        | error x =>
          rw [hA] at hP
          obtain ⟨v7, he7, own7⟩ := hP
          obtain ⟨A7, c7, rfl, _, _, by7, hA7⟩ := own7.any2
          have he8 : e = .returned (.tuple #[.agg #[.int .i64 0, .slice none 0 0, .int .u32 0, .int .i64 0, .bool false], .agg #[.int .i64 3, .int .i64 x.1, .slice A7 x.2.length c7]]) := he7
          subst he8
          clear he7
          have hbb := ((Below.refl wa.heap.size wa).alloc (Nat.le_refl _) (.cells #[.int .i64 0, .slice none 0 0, .int .u32 0, .int .i64 0, .bool false] 31)).alloc (by simp) (.cells #[.int .i64 3, .int .i64 x.1, .slice A7 x.2.length c7] 44)
          have hf : Blk ((wa.alloc (.cells #[.int .i64 0, .slice none 0 0, .int .u32 0, .int .i64 0, .bool false] 31)).alloc (.cells #[.int .i64 3, .int .i64 x.1, .slice A7 x.2.length c7] 44)) (wa.heap.size + 1) 44 #[.int .i64 3, .int .i64 x.1, .slice A7 x.2.length c7] := by
            have := Blk.new (wa.alloc (.cells #[.int .i64 0, .slice none 0 0, .int .u32 0, .int .i64 0, .bool false] 31)) 44 #[.int .i64 3, .int .i64 x.1, .slice A7 x.2.length c7]
            simpa using this
          replace hu := hu.below hbb hu.lt
          replace hS1 := hS1.up hbb
          replace hS2 := hS2.up hbb
          replace own7 := own7.below hbb
          replace hr2 := hr2.below hbb hr2.lt
          replace hr3 := hr3.below hbb hr3.lt
          replace hB := hB.trans (hbb.mono hB.size)
          go_upto_region 18 with (fail)
          generalize (wa.alloc (.cells #[.int .i64 0, .slice none 0 0, .int .u32 0, .int .i64 0, .bool false] 31)).alloc (.cells #[.int .i64 3, .int .i64 x.1, .slice A7 x.2.length c7] 44) = wb at *
          have hzb := hbb.size
          clear hbb
          have hgfz : gu < wa.heap.size + 1 := by omega
          generalize hgf : wa.heap.size + 1 = gf at *
          replace hgf := Lib.hid hgf
          have ltf := hf.lt
          have lub := hu.lt
          have f0 : wb.cell? ⟨gf, 0, none⟩ = some (.int .i64 3) := hf.cellv 0 rfl
          have f1 : wb.cell? ⟨gf, 1, none⟩ = some (.int .i64 x.1) := hf.cellv 1 rfl
          have u0 : wb.cell? ⟨gu, 0, none⟩ = some (.slice A1 l1.length c1) := hu.cellv 0 rfl
          have u1 : wb.cell? ⟨gu, 1, none⟩ = some (.int .i64 0) := hu.cellv 1 rfl
          have u2 : wb.cell? ⟨gu, 2, none⟩ = some (.slice none 0 0) := hu.cellv 2 rfl
          have u3 : wb.cell? ⟨gu, 3, none⟩ = some (.int .u32 0) := hu.cellv 3 rfl
          have u4 : wb.cell? ⟨gu, 4, none⟩ = some (.int .i64 0) := hu.cellv 4 rfl
          have u5 : wb.cell? ⟨gu, 5, none⟩ = some (.bool false) := hu.cellv 5 rfl
          have u6 : wb.cell? ⟨gu, 6, none⟩ = some (.slice A2 l2.length c2) := hu.cellv 6 rfl
          replace hA := Lib.hid hA
          by_cases h5 : x.1 = 3
          rotate_left
          · have b5 : (x.1 != 3) = true := by simpa using h5
            have spec := Lib.hid (parseU_err h1x.out hq1 hq2 h3.out hA.out (.inr h5))
            clear hS1 hS2 by7 hA7 hl2b hlA hq1 hq2 h3 hA h1x
            go_upto_region 19 with (fail)
            have own := own7
            -- region 19: 0 1 2M 3M
            try refine wp_region_noPanic ?_
            have hs1r : (fun w' => ∀ _ : Unit, w'.heap[gf]? = wb.heap[gf]?) wb.drew := fun _ => rfl
            refine wp_region_held_drew (S := fun w' => ∀ _ : Unit, w'.heap[gf]? = wb.heap[gf]?) (by kernel_rfl) hs1r (fun _ => ?_)
            (refine held_takeA 0 (by rfl) ?_ (by kernel_rfl) (fun _ _ _ h => h) hs1r ?_ ?_; rotate_left; (focus (intro wq hSw; have hrd := hSw; go_simp; try with_reducible rfl; done)); try simp only [Act.put, List.setIfInBounds_toArray, List.set_cons_zero, List.set_cons_succ])
            (refine held_takeA 1 (by rfl) ?_ (by kernel_rfl) (fun _ _ _ h => h) hs1r ?_ ?_; rotate_left; (focus (intro wq hSw; refine exec_load_blk (x := .tmp 11) ?_ ?_ (show Blk wq gf 44 #[.int .i64 3, .int .i64 x.1, .slice A7 x.2.length c7] from (hSw ()).trans hf) _ Try.underlying44 rfl (by kernel_rfl) <;> rfl)); simp only [Act.put, List.setIfInBounds_toArray, List.set_cons_zero, List.set_cons_succ])
            refine held_callA 2 (by rfl) (by kernel_rfl) (by rfl) (fun KQ hKQ => ?_)
            refine wp_store_blk hr2.drew 33 (.tmp 2) (.tmp 84) (by rfl) (by rfl) (by rfl) (by rfl) (by exact hi) (by simp [Value.oneCell']) ?_
            intro wy hr6 hg6
            replace own := own.drew.kept hg6 (ownB_far own.drew (by omega))
            replace hr3 := hr3.drew.grown hg6 (by intro e; injection e with e; omega)
            have hzB := hB.size
            replace hB := below_own hB.drew hg6 hB.drew.size (by omega)
            have hk5 : ∀ _ : Unit, wy.heap[gf]? = wb.heap[gf]? := fun _ => hg6.block gf ltf (by intro e; injection e with e; omega)
            have hs2r := hk5
            refine hKQ.out _ _ hs2r ?_
            clear hKQ KQ
            try simp only [Act.put]
            refine held_callA 3 (by rfl) (by kernel_rfl) (by rfl) (fun KQ hKQ => ?_)
            refine wp_store_blk hr3 44 (.tmp 3) (.tmp 85) (by rfl) (by rfl) (by rfl) (by rfl) (by exact hj) (by simp [Value.oneCell']) ?_
            intro wz hr7 hg7
            replace own := own.kept hg7 (ownB_far own (by omega))
            have hs6 := hg6.size
            have hk6 : ∀ _ : Unit, wz.heap[gf]? = wb.heap[gf]? := fun _ => (hg7.block gf (Nat.lt_of_lt_of_le ltf hs6) (by intro e; injection e with e; omega)).trans (hk5 ())
            have hs3r := hk6
            refine hKQ.out _ _ hs3r ?_
            clear hKQ KQ
            try simp only [Act.put]
            refine wpAnyH_done (by kernel_rfl) ?_ _
            try refine NoPanic.normal ?_
            go_wp2_with fail
            try rw [Exit.noGoto_ret]
            replace hr6 := hr6.grown hg7 (by intro e; injection e with e; omega)
            replace hB := below_own hB hg7 hB.size (by omega)
            refine bodyPost_ret (results_2c rfl _ rfl rfl (load_blk hr6 Try.underlying33 rfl hi) (load_blk hr7 Try.underlying44 rfl hj)) rfl ?_
            refine ⟨hB, ?_⟩
            rw [spec.out]
            exact ⟨_, rfl, OwnB.less own (by omega)⟩
          have b5 : (x.1 != 3) = false := by simpa using h5
          by_cases h4 : 0 < l2.length
          · have h4i : (0 : Int) < l2.length := by omega
            replace h5 := Lib.hid h5
            have spec := Lib.hid (parseU_err h1x.out hq1 hq2 h3.out hA.out (.inl h4))
            clear hS1 hS2 by7 hA7 hl2b hlA hq1 hq2 h3 hA h1x
            go_upto_region 19 with (fail)
            have own := own7
            -- region 19: 0 1 2M 3M
            try refine wp_region_noPanic ?_
            have hs4r : (fun w' => ∀ _ : Unit, w'.heap[gf]? = wb.heap[gf]?) wb.drew := fun _ => rfl
            refine wp_region_held_drew (S := fun w' => ∀ _ : Unit, w'.heap[gf]? = wb.heap[gf]?) (by kernel_rfl) hs4r (fun _ => ?_)
            (refine held_takeA 0 (by rfl) ?_ (by kernel_rfl) (fun _ _ _ h => h) hs4r ?_ ?_; rotate_left; (focus (intro wq hSw; have hrd := hSw; go_simp; try with_reducible rfl; done)); try simp only [Act.put, List.setIfInBounds_toArray, List.set_cons_zero, List.set_cons_succ])
            (refine held_takeA 1 (by rfl) ?_ (by kernel_rfl) (fun _ _ _ h => h) hs4r ?_ ?_; rotate_left; (focus (intro wq hSw; refine exec_load_blk (x := .tmp 11) ?_ ?_ (show Blk wq gf 44 #[.int .i64 3, .int .i64 x.1, .slice A7 x.2.length c7] from (hSw ()).trans hf) _ Try.underlying44 rfl (by kernel_rfl) <;> rfl)); simp only [Act.put, List.setIfInBounds_toArray, List.set_cons_zero, List.set_cons_succ])
            refine held_callA 2 (by rfl) (by kernel_rfl) (by rfl) (fun KQ hKQ => ?_)
            refine wp_store_blk hr2.drew 33 (.tmp 2) (.tmp 84) (by rfl) (by rfl) (by rfl) (by rfl) (by exact hi) (by simp [Value.oneCell']) ?_
            intro wy hr6 hg6
            replace own := own.drew.kept hg6 (ownB_far own.drew (by omega))
            replace hr3 := hr3.drew.grown hg6 (by intro e; injection e with e; omega)
            have hzB := hB.size
            replace hB := below_own hB.drew hg6 hB.drew.size (by omega)
            have hk5 : ∀ _ : Unit, wy.heap[gf]? = wb.heap[gf]? := fun _ => hg6.block gf ltf (by intro e; injection e with e; omega)
            have hs5r := hk5
            refine hKQ.out _ _ hs5r ?_
            clear hKQ KQ
            try simp only [Act.put]
            refine held_callA 3 (by rfl) (by kernel_rfl) (by rfl) (fun KQ hKQ => ?_)
            refine wp_store_blk hr3 44 (.tmp 3) (.tmp 85) (by rfl) (by rfl) (by rfl) (by rfl) (by exact hj) (by simp [Value.oneCell']) ?_
            intro wz hr7 hg7
            replace own := own.kept hg7 (ownB_far own (by omega))
            have hs6 := hg6.size
            have hk6 : ∀ _ : Unit, wz.heap[gf]? = wb.heap[gf]? := fun _ => (hg7.block gf (Nat.lt_of_lt_of_le ltf hs6) (by intro e; injection e with e; omega)).trans (hk5 ())
            have hs6r := hk6
            refine hKQ.out _ _ hs6r ?_
            clear hKQ KQ
            try simp only [Act.put]
            refine wpAnyH_done (by kernel_rfl) ?_ _
            try refine NoPanic.normal ?_
            go_wp2_with fail
            try rw [Exit.noGoto_ret]
            replace hr6 := hr6.grown hg7 (by intro e; injection e with e; omega)
            replace hB := below_own hB hg7 hB.size (by omega)
            refine bodyPost_ret (results_2c rfl _ rfl rfl (load_blk hr6 Try.underlying33 rfl hi) (load_blk hr7 Try.underlying44 rfl hj)) rfl ?_
            refine ⟨hB, ?_⟩
            rw [spec.out]
            exact ⟨_, rfl, OwnB.less own (by omega)⟩
          have h4i : ¬ ((0 : Int) < l2.length) := by omega
          have spec := Lib.hid (parseU_mis h1x.out hq1 hq2 h3.out hA.out (fun q => q.elim h4 (fun q => q h5)))
          replace h5 := Lib.hid h5
          go_upto_region 22 with (fail)
          clear f0 f1 own7 by7 hA7 hf hA h3 h4 h4i b5 h5 h1x hq1 hq2 hl2b hlA ltf hgfz hgf
          go_upto_region 22 with (fail)
          go_wp2_with (refine wpList_store_blk rfl hr2 33 (.tmp 2) (.tmp 92) rfl rfl rfl rfl hi (by simp [Value.oneCell']) ?_; intro wg hr2g hg2; refine Hid.out ?_)
          refine Lib.hid ?_
          have hr3g := hr3.grown hg2 (by simp)
          go_wp2_with (refine wpList_store_blk rfl hr3g 44 (.tmp 3) (.tmp 93) rfl rfl rfl rfl hj (by simp [Value.oneCell']) ?_; intro wh hr3h hg3)
          have hr2h := hr2g.grown hg3 (by simp)
          try rw [Exit.noGoto_ret]
          refine bodyPost_ret (results_2c rfl _ rfl rfl (load_blk hr2h Try.underlying33 rfl hi) (load_blk hr3h Try.underlying44 rfl hj)) rfl ?_
          have hBg := below_own hB hg2 hB.size (Nat.le_refl _)
          have hBh := below_own hBg hg3 hBg.size (by omega)
          have hzw := hB.size
          have h0u : w.heap.size + 1 < gu := hgu1
          refine ⟨hBh, ?_⟩
          rw [spec.out]
          have t1b := ((hS1.up3 hg2 (by omega)).up3 hg3 (by omega)).more (fun b q => (q.2 : b < wh.heap.size))
          have t2b := ((hS2.up3 hg2 (by omega)).up3 hg3 (by omega)).more (fun b q => (q.2 : b < wh.heap.size))
          exact ⟨A1, c1, none, 0, 0, A2, c2, rfl, t1b, Seen.none_, t2b⟩
        | ok a =>
          rw [hA] at hP
          obtain ⟨A7, n7, c7, he7, hS7⟩ := hP
          have he8 : e = .returned (.tuple #[.agg #[.int .i64 a.o, .slice A7 n7 c7, .int .u32 a.h, .int .i64 a.m, .bool a.b], .agg #[.int .i64 0, .int .i64 0, .slice none 0 0]]) := he7
          subst he8
          clear he7
          replace hS7 := hS7.more (S' := fun b => gu < b ∧ b < wa.heap.size) fun b q => ⟨by have := q.1; omega, q.2⟩
          have hbb := ((Below.refl wa.heap.size wa).alloc (Nat.le_refl _) (.cells #[.int .i64 a.o, .slice A7 n7 c7, .int .u32 a.h, .int .i64 a.m, .bool a.b] 31)).alloc (by simp) (.cells #[.int .i64 0, .int .i64 0, .slice none 0 0] 44)
          have hat : Blk ((wa.alloc (.cells #[.int .i64 a.o, .slice A7 n7 c7, .int .u32 a.h, .int .i64 a.m, .bool a.b] 31)).alloc (.cells #[.int .i64 0, .int .i64 0, .slice none 0 0] 44)) wa.heap.size 31 #[.int .i64 a.o, .slice A7 n7 c7, .int .u32 a.h, .int .i64 a.m, .bool a.b] := (Blk.new wa 31 #[.int .i64 a.o, .slice A7 n7 c7, .int .u32 a.h, .int .i64 a.m, .bool a.b]).alloc (.cells #[.int .i64 0, .int .i64 0, .slice none 0 0] 44)
          have hf : Blk ((wa.alloc (.cells #[.int .i64 a.o, .slice A7 n7 c7, .int .u32 a.h, .int .i64 a.m, .bool a.b] 31)).alloc (.cells #[.int .i64 0, .int .i64 0, .slice none 0 0] 44)) (wa.heap.size + 1) 44 #[.int .i64 0, .int .i64 0, .slice none 0 0] := by
            have := Blk.new (wa.alloc (.cells #[.int .i64 a.o, .slice A7 n7 c7, .int .u32 a.h, .int .i64 a.m, .bool a.b] 31)) 44 #[.int .i64 0, .int .i64 0, .slice none 0 0]
            simpa using this
          replace hu := hu.below hbb hu.lt
          replace hS1 := hS1.up hbb
          replace hS2 := hS2.up hbb
          replace hS7 := hS7.up hbb
          replace hr2 := hr2.below hbb hr2.lt
          replace hr3 := hr3.below hbb hr3.lt
          replace hB := hB.trans (hbb.mono hB.size)
          go_upto_region 18 with (fail)
          generalize (wa.alloc (.cells #[.int .i64 a.o, .slice A7 n7 c7, .int .u32 a.h, .int .i64 a.m, .bool a.b] 31)).alloc (.cells #[.int .i64 0, .int .i64 0, .slice none 0 0] 44) = wb at *
          have hzb := hbb.size
          clear hbb
          have ltf := hf.lt
          have lub := hu.lt
          have lat := hat.lt
          have f0 : wb.cell? ⟨wa.heap.size + 1, 0, none⟩ = some (.int .i64 0) := hf.cellv 0 rfl
          have g0 : wb.cell? ⟨wa.heap.size, 0, none⟩ = some (.int .i64 a.o) := hat.cellv 0 rfl
          have g1 : wb.cell? ⟨wa.heap.size, 1, none⟩ = some (.slice A7 n7 c7) := hat.cellv 1 rfl
          have g2 : wb.cell? ⟨wa.heap.size, 2, none⟩ = some (.int .u32 a.h) := hat.cellv 2 rfl
          have g3 : wb.cell? ⟨wa.heap.size, 3, none⟩ = some (.int .i64 a.m) := hat.cellv 3 rfl
          have g4 : wb.cell? ⟨wa.heap.size, 4, none⟩ = some (.bool a.b) := hat.cellv 4 rfl
          replace hA := Lib.hid hA
          have u0 : wb.cell? ⟨gu, 0, none⟩ = some (.slice A1 l1.length c1) := hu.cellv 0 rfl
          have u1 : wb.cell? ⟨gu, 1, none⟩ = some (.int .i64 0) := hu.cellv 1 rfl
          have u2 : wb.cell? ⟨gu, 2, none⟩ = some (.slice none 0 0) := hu.cellv 2 rfl
          have u3 : wb.cell? ⟨gu, 3, none⟩ = some (.int .u32 0) := hu.cellv 3 rfl
          have u4 : wb.cell? ⟨gu, 4, none⟩ = some (.int .i64 0) := hu.cellv 4 rfl
          have u5 : wb.cell? ⟨gu, 5, none⟩ = some (.bool false) := hu.cellv 5 rfl
          have u6 : wb.cell? ⟨gu, 6, none⟩ = some (.slice A2 l2.length c2) := hu.cellv 6 rfl
          by_cases h4 : 0 < l2.length
          rotate_left
          · have h4i : ¬ ((0 : Int) < l2.length) := by omega
            have spec := Lib.hid (parseU_ign h1x.out hq1 hq2 h3.out hA.out h4)
            go_upto_region 22 with (fail)
            clear f0 g0 g1 g2 g3 g4 hS7 hat hf hA h3 h4 h4i h1x hq1 hq2 hl2b hlA ltf lat
            go_upto_region 22 with (fail)
            go_wp2_with (refine wpList_store_blk rfl hr2 33 (.tmp 2) (.tmp 92) rfl rfl rfl rfl hi (by simp [Value.oneCell']) ?_; intro wg hr2g hg2; refine Hid.out ?_)
            refine Lib.hid ?_
            have hr3g := hr3.grown hg2 (by simp)
            go_wp2_with (refine wpList_store_blk rfl hr3g 44 (.tmp 3) (.tmp 93) rfl rfl rfl rfl hj (by simp [Value.oneCell']) ?_; intro wh hr3h hg3)
            have hr2h := hr2g.grown hg3 (by simp)
            try rw [Exit.noGoto_ret]
            refine bodyPost_ret (results_2c rfl _ rfl rfl (load_blk hr2h Try.underlying33 rfl hi) (load_blk hr3h Try.underlying44 rfl hj)) rfl ?_
            have hBg := below_own hB hg2 hB.size (Nat.le_refl _)
            have hBh := below_own hBg hg3 hBg.size (by omega)
            have hzw := hB.size
            have h0u : w.heap.size + 1 < gu := hgu1
            refine ⟨hBh, ?_⟩
            rw [spec.out]
            have t1b := ((hS1.up3 hg2 (by omega)).up3 hg3 (by omega)).more (fun b q => (q.2 : b < wh.heap.size))
            have t2b := ((hS2.up3 hg2 (by omega)).up3 hg3 (by omega)).more (fun b q => (q.2 : b < wh.heap.size))
            exact ⟨A1, c1, none, 0, 0, A2, c2, rfl, t1b, Seen.none_, t2b⟩
          have h4i : (0 : Int) < l2.length := by omega
          have spec := Lib.hid (parseU_att h1x.out hq1 hq2 h3.out hA.out h4)
          have hthere := there_mid5 hu
          go_upto_region 21 with (fail)
          go_upto_region 22 with (refine wpList_store_mid (by rfl) 31 (.tmp 91) (.tmp 90) (by rfl) gu 1 #[.int .i64 a.o, .slice A7 n7 c7, .int .u32 a.h, .int .i64 a.m, .bool a.b] (by rfl) (by rfl) hthere hm5 (by simp [Value.oneCell']) ?_)
          obtain ⟨hu9, hg9⟩ := blk_mid5 hu (.int .i64 a.o) (.slice A7 n7 c7) (.int .u32 a.h) (.int .i64 a.m) (.bool a.b)
          generalize wb.setCells gu 1 [.int .i64 a.o, .slice A7 n7 c7, .int .u32 a.h, .int .i64 a.m, .bool a.b] = wc at *
          replace hu := hu9
          replace hS1 := hS1.up2 hg9
          replace hS2 := hS2.up2 hg9
          replace hS7 := hS7.up2 hg9
          replace hr2 := hr2.grown hg9 (by simp; omega)
          replace hr3 := hr3.grown hg9 (by simp; omega)
          have hzbb := hB.size
          replace hB := below_own hB hg9 hzbb (by omega)
          have lub := hu.lt
          clear u0 u1 u2 u3 u4 u5 u6 f0 g0 g1 g2 g3 g4 lat ltf hf hat hthere hu9 hA h3 h4 h4i h1x hq1 hq2 hl2b hlA
          have u0 : wc.cell? ⟨gu, 0, none⟩ = some (.slice A1 l1.length c1) := hu.cellv 0 rfl
          have u1 : wc.cell? ⟨gu, 1, none⟩ = some (.int .i64 a.o) := hu.cellv 1 rfl
          have u2 : wc.cell? ⟨gu, 2, none⟩ = some (.slice A7 n7 c7) := hu.cellv 2 rfl
          have u3 : wc.cell? ⟨gu, 3, none⟩ = some (.int .u32 a.h) := hu.cellv 3 rfl
          have u4 : wc.cell? ⟨gu, 4, none⟩ = some (.int .i64 a.m) := hu.cellv 4 rfl
          have u5 : wc.cell? ⟨gu, 5, none⟩ = some (.bool a.b) := hu.cellv 5 rfl
          have u6 : wc.cell? ⟨gu, 6, none⟩ = some (.slice A2 l2.length c2) := hu.cellv 6 rfl
          go_upto_region 22 with (fail)
          go_wp2_with (refine wpList_store_blk rfl hr2 33 (.tmp 2) (.tmp 92) rfl rfl rfl rfl hi (by simp [Value.oneCell']) ?_; intro wg hr2g hg2; refine Hid.out ?_)
          refine Lib.hid ?_
          have hr3g := hr3.grown hg2 (by simp)
          go_wp2_with (refine wpList_store_blk rfl hr3g 44 (.tmp 3) (.tmp 93) rfl rfl rfl rfl hj (by simp [Value.oneCell']) ?_; intro wh hr3h hg3)
          have hr2h := hr2g.grown hg3 (by simp)
          try rw [Exit.noGoto_ret]
          refine bodyPost_ret (results_2c rfl _ rfl rfl (load_blk hr2h Try.underlying33 rfl hi) (load_blk hr3h Try.underlying44 rfl hj)) rfl ?_
          have hBg := below_own hB hg2 hB.size (Nat.le_refl _)
          have hBh := below_own hBg hg3 hBg.size (by omega)
          have hzw := hB.size
          have h0u : w.heap.size + 1 < gu := hgu1
          refine ⟨hBh, ?_⟩
          rw [spec.out]
          have t1b := ((hS1.up3 hg2 (by omega)).up3 hg3 (by omega)).more (fun b q => (q.2 : b < wh.heap.size))
          have t2b := ((hS2.up3 hg2 (by omega)).up3 hg3 (by omega)).more (fun b q => (q.2 : b < wh.heap.size))
          exact ⟨A1, c1, A7, n7, c7, A2, c2, rfl, t1b, ((hS7.up3 hg2 (by omega)).up3 hg3 (by omega)).more (fun b q => (q.2 : b < wh.heap.size)), t2b⟩
      · have a0i : ¬ (((upA l).length : Int) = 0) := by omega
        have b0 : (((upA l).length : Int) == 0) = false := by simpa using a0i
        replace a0i := Lib.hid a0i
        replace h3 := Lib.hid h3
        replace a0 := Lib.hid a0
        have u0 : wrc.cell? ⟨gu, 0, none⟩ = some (.slice A1 l1.length c1) := hu.cellv 0 rfl
        have u1 : wrc.cell? ⟨gu, 1, none⟩ = some (.int .i64 0) := hu.cellv 1 rfl
        have u2 : wrc.cell? ⟨gu, 2, none⟩ = some (.slice none 0 0) := hu.cellv 2 rfl
        have u3 : wrc.cell? ⟨gu, 3, none⟩ = some (.int .u32 0) := hu.cellv 3 rfl
        have u4 : wrc.cell? ⟨gu, 4, none⟩ = some (.int .i64 0) := hu.cellv 4 rfl
        have u5 : wrc.cell? ⟨gu, 5, none⟩ = some (.bool false) := hu.cellv 5 rfl
        have u6 : wrc.cell? ⟨gu, 6, none⟩ = some (.slice A2 l2.length c2) := hu.cellv 6 rfl
        have hgz : gu < wrc.heap.size := by omega
        go_wp2_with fail
        refine (refParse7_any wrc A5 _ k5 (upA l) (by5.more (show gu ≤ wrc.heap.size by omega)) hlA).mono ?_
        rintro e wa ⟨hba, hP⟩
        replace hu := hu.below hba hu.lt
        replace hS1 := hS1.up hba
        replace hS2 := hS2.up hba
        replace hr2 := hr2.below hba hr2.lt
        replace hr3 := hr3.below hba hr3.lt
        replace hB := hB.trans (hba.mono hB.size)
        have hza := hba.size
        clear by5 u0 u1 u2 u3 u4 u5 u6
        cases hA : parseA (upA l) with
        | error x =>
          rw [hA] at hP
          obtain ⟨v7, he7, own7⟩ := hP
          obtain ⟨A7, c7, rfl, _, _, by7, hA7⟩ := own7.any2
          have he8 : e = .returned (.tuple #[.agg #[.int .i64 0, .slice none 0 0, .int .u32 0, .int .i64 0, .bool false], .agg #[.int .i64 3, .int .i64 x.1, .slice A7 x.2.length c7]]) := he7
          subst he8
          clear he7
          have hbb := ((Below.refl wa.heap.size wa).alloc (Nat.le_refl _) (.cells #[.int .i64 0, .slice none 0 0, .int .u32 0, .int .i64 0, .bool false] 31)).alloc (by simp) (.cells #[.int .i64 3, .int .i64 x.1, .slice A7 x.2.length c7] 44)
          have hf : Blk ((wa.alloc (.cells #[.int .i64 0, .slice none 0 0, .int .u32 0, .int .i64 0, .bool false] 31)).alloc (.cells #[.int .i64 3, .int .i64 x.1, .slice A7 x.2.length c7] 44)) (wa.heap.size + 1) 44 #[.int .i64 3, .int .i64 x.1, .slice A7 x.2.length c7] := by
            have := Blk.new (wa.alloc (.cells #[.int .i64 0, .slice none 0 0, .int .u32 0, .int .i64 0, .bool false] 31)) 44 #[.int .i64 3, .int .i64 x.1, .slice A7 x.2.length c7]
            simpa using this
          replace hu := hu.below hbb hu.lt
          replace hS1 := hS1.up hbb
          replace hS2 := hS2.up hbb
          replace own7 := own7.below hbb
          replace hr2 := hr2.below hbb hr2.lt
          replace hr3 := hr3.below hbb hr3.lt
          replace hB := hB.trans (hbb.mono hB.size)
          go_upto_region 18 with (fail)
          generalize (wa.alloc (.cells #[.int .i64 0, .slice none 0 0, .int .u32 0, .int .i64 0, .bool false] 31)).alloc (.cells #[.int .i64 3, .int .i64 x.1, .slice A7 x.2.length c7] 44) = wb at *
          have hzb := hbb.size
          clear hbb
          have hgfz : gu < wa.heap.size + 1 := by omega
          generalize hgf : wa.heap.size + 1 = gf at *
          replace hgf := Lib.hid hgf
          have ltf := hf.lt
          have lub := hu.lt
          have f0 : wb.cell? ⟨gf, 0, none⟩ = some (.int .i64 3) := hf.cellv 0 rfl
          have f1 : wb.cell? ⟨gf, 1, none⟩ = some (.int .i64 x.1) := hf.cellv 1 rfl
          have u0 : wb.cell? ⟨gu, 0, none⟩ = some (.slice A1 l1.length c1) := hu.cellv 0 rfl
          have u1 : wb.cell? ⟨gu, 1, none⟩ = some (.int .i64 0) := hu.cellv 1 rfl
          have u2 : wb.cell? ⟨gu, 2, none⟩ = some (.slice none 0 0) := hu.cellv 2 rfl
          have u3 : wb.cell? ⟨gu, 3, none⟩ = some (.int .u32 0) := hu.cellv 3 rfl
          have u4 : wb.cell? ⟨gu, 4, none⟩ = some (.int .i64 0) := hu.cellv 4 rfl
          have u5 : wb.cell? ⟨gu, 5, none⟩ = some (.bool false) := hu.cellv 5 rfl
          have u6 : wb.cell? ⟨gu, 6, none⟩ = some (.slice A2 l2.length c2) := hu.cellv 6 rfl
          replace hA := Lib.hid hA
          by_cases h5 : x.1 = 3
          rotate_left
          · have b5 : (x.1 != 3) = true := by simpa using h5
            have spec := Lib.hid (parseU_err h1x.out hq1 hq2 h3.out hA.out (.inr h5))
            clear hS1 hS2 by7 hA7 hl2b hlA hq1 hq2 h3 hA h1x
            go_upto_region 19 with (fail)
            have own := own7
            -- region 19: 0 1 2M 3M
            try refine wp_region_noPanic ?_
            have hs7r : (fun w' => ∀ _ : Unit, w'.heap[gf]? = wb.heap[gf]?) wb.drew := fun _ => rfl
            refine wp_region_held_drew (S := fun w' => ∀ _ : Unit, w'.heap[gf]? = wb.heap[gf]?) (by kernel_rfl) hs7r (fun _ => ?_)
            (refine held_takeA 0 (by rfl) ?_ (by kernel_rfl) (fun _ _ _ h => h) hs7r ?_ ?_; rotate_left; (focus (intro wq hSw; have hrd := hSw; go_simp; try with_reducible rfl; done)); try simp only [Act.put, List.setIfInBounds_toArray, List.set_cons_zero, List.set_cons_succ])
            (refine held_takeA 1 (by rfl) ?_ (by kernel_rfl) (fun _ _ _ h => h) hs7r ?_ ?_; rotate_left; (focus (intro wq hSw; refine exec_load_blk (x := .tmp 11) ?_ ?_ (show Blk wq gf 44 #[.int .i64 3, .int .i64 x.1, .slice A7 x.2.length c7] from (hSw ()).trans hf) _ Try.underlying44 rfl (by kernel_rfl) <;> rfl)); simp only [Act.put, List.setIfInBounds_toArray, List.set_cons_zero, List.set_cons_succ])
            refine held_callA 2 (by rfl) (by kernel_rfl) (by rfl) (fun KQ hKQ => ?_)
            refine wp_store_blk hr2.drew 33 (.tmp 2) (.tmp 84) (by rfl) (by rfl) (by rfl) (by rfl) (by exact hi) (by simp [Value.oneCell']) ?_
            intro wy hr6 hg6
            replace own := own.drew.kept hg6 (ownB_far own.drew (by omega))
            replace hr3 := hr3.drew.grown hg6 (by intro e; injection e with e; omega)
            have hzB := hB.size
            replace hB := below_own hB.drew hg6 hB.drew.size (by omega)
            have hk5 : ∀ _ : Unit, wy.heap[gf]? = wb.heap[gf]? := fun _ => hg6.block gf ltf (by intro e; injection e with e; omega)
            have hs8r := hk5
            refine hKQ.out _ _ hs8r ?_
            clear hKQ KQ
            try simp only [Act.put]
            refine held_callA 3 (by rfl) (by kernel_rfl) (by rfl) (fun KQ hKQ => ?_)
            refine wp_store_blk hr3 44 (.tmp 3) (.tmp 85) (by rfl) (by rfl) (by rfl) (by rfl) (by exact hj) (by simp [Value.oneCell']) ?_
            intro wz hr7 hg7
            replace own := own.kept hg7 (ownB_far own (by omega))
            have hs6 := hg6.size
            have hk6 : ∀ _ : Unit, wz.heap[gf]? = wb.heap[gf]? := fun _ => (hg7.block gf (Nat.lt_of_lt_of_le ltf hs6) (by intro e; injection e with e; omega)).trans (hk5 ())
            have hs9r := hk6
            refine hKQ.out _ _ hs9r ?_
            clear hKQ KQ
            try simp only [Act.put]
            refine wpAnyH_done (by kernel_rfl) ?_ _
            try refine NoPanic.normal ?_
            go_wp2_with fail
            try rw [Exit.noGoto_ret]
            replace hr6 := hr6.grown hg7 (by intro e; injection e with e; omega)
            replace hB := below_own hB hg7 hB.size (by omega)
            refine bodyPost_ret (results_2c rfl _ rfl rfl (load_blk hr6 Try.underlying33 rfl hi) (load_blk hr7 Try.underlying44 rfl hj)) rfl ?_
            refine ⟨hB, ?_⟩
            rw [spec.out]
            exact ⟨_, rfl, OwnB.less own (by omega)⟩
          have b5 : (x.1 != 3) = false := by simpa using h5
          by_cases h4 : 0 < l2.length
          · have h4i : (0 : Int) < l2.length := by omega
            replace h5 := Lib.hid h5
            have spec := Lib.hid (parseU_err h1x.out hq1 hq2 h3.out hA.out (.inl h4))
            clear hS1 hS2 by7 hA7 hl2b hlA hq1 hq2 h3 hA h1x
            go_upto_region 19 with (fail)
            have own := own7
            -- region 19: 0 1 2M 3M
            try refine wp_region_noPanic ?_
            have hs10r : (fun w' => ∀ _ : Unit, w'.heap[gf]? = wb.heap[gf]?) wb.drew := fun _ => rfl
            refine wp_region_held_drew (S := fun w' => ∀ _ : Unit, w'.heap[gf]? = wb.heap[gf]?) (by kernel_rfl) hs10r (fun _ => ?_)
            (refine held_takeA 0 (by rfl) ?_ (by kernel_rfl) (fun _ _ _ h => h) hs10r ?_ ?_; rotate_left; (focus (intro wq hSw; have hrd := hSw; go_simp; try with_reducible rfl; done)); try simp only [Act.put, List.setIfInBounds_toArray, List.set_cons_zero, List.set_cons_succ])
            (refine held_takeA 1 (by rfl) ?_ (by kernel_rfl) (fun _ _ _ h => h) hs10r ?_ ?_; rotate_left; (focus (intro wq hSw; refine exec_load_blk (x := .tmp 11) ?_ ?_ (show Blk wq gf 44 #[.int .i64 3, .int .i64 x.1, .slice A7 x.2.length c7] from (hSw ()).trans hf) _ Try.underlying44 rfl (by kernel_rfl) <;> rfl)); simp only [Act.put, List.setIfInBounds_toArray, List.set_cons_zero, List.set_cons_succ])
            refine held_callA 2 (by rfl) (by kernel_rfl) (by rfl) (fun KQ hKQ => ?_)
            refine wp_store_blk hr2.drew 33 (.tmp 2) (.tmp 84) (by rfl) (by rfl) (by rfl) (by rfl) (by exact hi) (by simp [Value.oneCell']) ?_
            intro wy hr6 hg6
            replace own := own.drew.kept hg6 (ownB_far own.drew (by omega))
            replace hr3 := hr3.drew.grown hg6 (by intro e; injection e with e; omega)
            have hzB := hB.size
            replace hB := below_own hB.drew hg6 hB.drew.size (by omega)
            have hk5 : ∀ _ : Unit, wy.heap[gf]? = wb.heap[gf]? := fun _ => hg6.block gf ltf (by intro e; injection e with e; omega)
            have hs11r := hk5
            refine hKQ.out _ _ hs11r ?_
            clear hKQ KQ
            try simp only [Act.put]
            refine held_callA 3 (by rfl) (by kernel_rfl) (by rfl) (fun KQ hKQ => ?_)
            refine wp_store_blk hr3 44 (.tmp 3) (.tmp 85) (by rfl) (by rfl) (by rfl) (by rfl) (by exact hj) (by simp [Value.oneCell']) ?_
            intro wz hr7 hg7
            replace own := own.kept hg7 (ownB_far own (by omega))
            have hs6 := hg6.size
            have hk6 : ∀ _ : Unit, wz.heap[gf]? = wb.heap[gf]? := fun _ => (hg7.block gf (Nat.lt_of_lt_of_le ltf hs6) (by intro e; injection e with e; omega)).trans (hk5 ())
            have hs12r := hk6
            refine hKQ.out _ _ hs12r ?_
            clear hKQ KQ
            try simp only [Act.put]
            refine wpAnyH_done (by kernel_rfl) ?_ _
            try refine NoPanic.normal ?_
            go_wp2_with fail
            try rw [Exit.noGoto_ret]
            replace hr6 := hr6.grown hg7 (by intro e; injection e with e; omega)
            replace hB := below_own hB hg7 hB.size (by omega)
            refine bodyPost_ret (results_2c rfl _ rfl rfl (load_blk hr6 Try.underlying33 rfl hi) (load_blk hr7 Try.underlying44 rfl hj)) rfl ?_
            refine ⟨hB, ?_⟩
            rw [spec.out]
            exact ⟨_, rfl, OwnB.less own (by omega)⟩
          have h4i : ¬ ((0 : Int) < l2.length) := by omega
          have spec := Lib.hid (parseU_mis h1x.out hq1 hq2 h3.out hA.out (fun q => q.elim h4 (fun q => q h5)))
          replace h5 := Lib.hid h5
          go_upto_region 22 with (fail)
          clear f0 f1 own7 by7 hA7 hf hA h3 h4 h4i b5 h5 h1x hq1 hq2 hl2b hlA ltf hgfz hgf
          go_upto_region 22 with (fail)
          go_wp2_with (refine wpList_store_blk rfl hr2 33 (.tmp 2) (.tmp 92) rfl rfl rfl rfl hi (by simp [Value.oneCell']) ?_; intro wg hr2g hg2; refine Hid.out ?_)
          refine Lib.hid ?_
          have hr3g := hr3.grown hg2 (by simp)
          go_wp2_with (refine wpList_store_blk rfl hr3g 44 (.tmp 3) (.tmp 93) rfl rfl rfl rfl hj (by simp [Value.oneCell']) ?_; intro wh hr3h hg3)
          have hr2h := hr2g.grown hg3 (by simp)
          try rw [Exit.noGoto_ret]
          refine bodyPost_ret (results_2c rfl _ rfl rfl (load_blk hr2h Try.underlying33 rfl hi) (load_blk hr3h Try.underlying44 rfl hj)) rfl ?_
          have hBg := below_own hB hg2 hB.size (Nat.le_refl _)
          have hBh := below_own hBg hg3 hBg.size (by omega)
          have hzw := hB.size
          have h0u : w.heap.size + 1 < gu := hgu1
          refine ⟨hBh, ?_⟩
          rw [spec.out]
          have t1b := ((hS1.up3 hg2 (by omega)).up3 hg3 (by omega)).more (fun b q => (q.2 : b < wh.heap.size))
          have t2b := ((hS2.up3 hg2 (by omega)).up3 hg3 (by omega)).more (fun b q => (q.2 : b < wh.heap.size))
          exact ⟨A1, c1, none, 0, 0, A2, c2, rfl, t1b, Seen.none_, t2b⟩
        | ok a =>
          rw [hA] at hP
          obtain ⟨A7, n7, c7, he7, hS7⟩ := hP
          have he8 : e = .returned (.tuple #[.agg #[.int .i64 a.o, .slice A7 n7 c7, .int .u32 a.h, .int .i64 a.m, .bool a.b], .agg #[.int .i64 0, .int .i64 0, .slice none 0 0]]) := he7
          subst he8
          clear he7
          replace hS7 := hS7.more (S' := fun b => gu < b ∧ b < wa.heap.size) fun b q => ⟨by have := q.1; omega, q.2⟩
          have hbb := ((Below.refl wa.heap.size wa).alloc (Nat.le_refl _) (.cells #[.int .i64 a.o, .slice A7 n7 c7, .int .u32 a.h, .int .i64 a.m, .bool a.b] 31)).alloc (by simp) (.cells #[.int .i64 0, .int .i64 0, .slice none 0 0] 44)
          have hat : Blk ((wa.alloc (.cells #[.int .i64 a.o, .slice A7 n7 c7, .int .u32 a.h, .int .i64 a.m, .bool a.b] 31)).alloc (.cells #[.int .i64 0, .int .i64 0, .slice none 0 0] 44)) wa.heap.size 31 #[.int .i64 a.o, .slice A7 n7 c7, .int .u32 a.h, .int .i64 a.m, .bool a.b] := (Blk.new wa 31 #[.int .i64 a.o, .slice A7 n7 c7, .int .u32 a.h, .int .i64 a.m, .bool a.b]).alloc (.cells #[.int .i64 0, .int .i64 0, .slice none 0 0] 44)
          have hf : Blk ((wa.alloc (.cells #[.int .i64 a.o, .slice A7 n7 c7, .int .u32 a.h, .int .i64 a.m, .bool a.b] 31)).alloc (.cells #[.int .i64 0, .int .i64 0, .slice none 0 0] 44)) (wa.heap.size + 1) 44 #[.int .i64 0, .int .i64 0, .slice none 0 0] := by
            have := Blk.new (wa.alloc (.cells #[.int .i64 a.o, .slice A7 n7 c7, .int .u32 a.h, .int .i64 a.m, .bool a.b] 31)) 44 #[.int .i64 0, .int .i64 0, .slice none 0 0]
            simpa using this
          replace hu := hu.below hbb hu.lt
          replace hS1 := hS1.up hbb
          replace hS2 := hS2.up hbb
          replace hS7 := hS7.up hbb
          replace hr2 := hr2.below hbb hr2.lt
          replace hr3 := hr3.below hbb hr3.lt
          replace hB := hB.trans (hbb.mono hB.size)
          go_upto_region 18 with (fail)
          generalize (wa.alloc (.cells #[.int .i64 a.o, .slice A7 n7 c7, .int .u32 a.h, .int .i64 a.m, .bool a.b] 31)).alloc (.cells #[.int .i64 0, .int .i64 0, .slice none 0 0] 44) = wb at *
          have hzb := hbb.size
          clear hbb
          have ltf := hf.lt
          have lub := hu.lt
          have lat := hat.lt
          have f0 : wb.cell? ⟨wa.heap.size + 1, 0, none⟩ = some (.int .i64 0) := hf.cellv 0 rfl
          have g0 : wb.cell? ⟨wa.heap.size, 0, none⟩ = some (.int .i64 a.o) := hat.cellv 0 rfl
          have g1 : wb.cell? ⟨wa.heap.size, 1, none⟩ = some (.slice A7 n7 c7) := hat.cellv 1 rfl
          have g2 : wb.cell? ⟨wa.heap.size, 2, none⟩ = some (.int .u32 a.h) := hat.cellv 2 rfl
          have g3 : wb.cell? ⟨wa.heap.size, 3, none⟩ = some (.int .i64 a.m) := hat.cellv 3 rfl
          have g4 : wb.cell? ⟨wa.heap.size, 4, none⟩ = some (.bool a.b) := hat.cellv 4 rfl
          replace hA := Lib.hid hA
          have u0 : wb.cell? ⟨gu, 0, none⟩ = some (.slice A1 l1.length c1) := hu.cellv 0 rfl
          have u1 : wb.cell? ⟨gu, 1, none⟩ = some (.int .i64 0) := hu.cellv 1 rfl
          have u2 : wb.cell? ⟨gu, 2, none⟩ = some (.slice none 0 0) := hu.cellv 2 rfl
          have u3 : wb.cell? ⟨gu, 3, none⟩ = some (.int .u32 0) := hu.cellv 3 rfl
          have u4 : wb.cell? ⟨gu, 4, none⟩ = some (.int .i64 0) := hu.cellv 4 rfl
          have u5 : wb.cell? ⟨gu, 5, none⟩ = some (.bool false) := hu.cellv 5 rfl
          have u6 : wb.cell? ⟨gu, 6, none⟩ = some (.slice A2 l2.length c2) := hu.cellv 6 rfl
          by_cases h4 : 0 < l2.length
          rotate_left
          · have h4i : ¬ ((0 : Int) < l2.length) := by omega
            have spec := Lib.hid (parseU_ign h1x.out hq1 hq2 h3.out hA.out h4)
            go_upto_region 22 with (fail)
            clear f0 g0 g1 g2 g3 g4 hS7 hat hf hA h3 h4 h4i h1x hq1 hq2 hl2b hlA ltf lat
            go_upto_region 22 with (fail)
            go_wp2_with (refine wpList_store_blk rfl hr2 33 (.tmp 2) (.tmp 92) rfl rfl rfl rfl hi (by simp [Value.oneCell']) ?_; intro wg hr2g hg2; refine Hid.out ?_)
            refine Lib.hid ?_
            have hr3g := hr3.grown hg2 (by simp)
            go_wp2_with (refine wpList_store_blk rfl hr3g 44 (.tmp 3) (.tmp 93) rfl rfl rfl rfl hj (by simp [Value.oneCell']) ?_; intro wh hr3h hg3)
            have hr2h := hr2g.grown hg3 (by simp)
            try rw [Exit.noGoto_ret]
            refine bodyPost_ret (results_2c rfl _ rfl rfl (load_blk hr2h Try.underlying33 rfl hi) (load_blk hr3h Try.underlying44 rfl hj)) rfl ?_
            have hBg := below_own hB hg2 hB.size (Nat.le_refl _)
            have hBh := below_own hBg hg3 hBg.size (by omega)
            have hzw := hB.size
            have h0u : w.heap.size + 1 < gu := hgu1
            refine ⟨hBh, ?_⟩
            rw [spec.out]
            have t1b := ((hS1.up3 hg2 (by omega)).up3 hg3 (by omega)).more (fun b q => (q.2 : b < wh.heap.size))
            have t2b := ((hS2.up3 hg2 (by omega)).up3 hg3 (by omega)).more (fun b q => (q.2 : b < wh.heap.size))
            exact ⟨A1, c1, none, 0, 0, A2, c2, rfl, t1b, Seen.none_, t2b⟩
          have h4i : (0 : Int) < l2.length := by omega
          have spec := Lib.hid (parseU_att h1x.out hq1 hq2 h3.out hA.out h4)
          have hthere := there_mid5 hu
          go_upto_region 21 with (fail)
          go_upto_region 22 with (refine wpList_store_mid (by rfl) 31 (.tmp 91) (.tmp 90) (by rfl) gu 1 #[.int .i64 a.o, .slice A7 n7 c7, .int .u32 a.h, .int .i64 a.m, .bool a.b] (by rfl) (by rfl) hthere hm5 (by simp [Value.oneCell']) ?_)
          obtain ⟨hu9, hg9⟩ := blk_mid5 hu (.int .i64 a.o) (.slice A7 n7 c7) (.int .u32 a.h) (.int .i64 a.m) (.bool a.b)
          generalize wb.setCells gu 1 [.int .i64 a.o, .slice A7 n7 c7, .int .u32 a.h, .int .i64 a.m, .bool a.b] = wc at *
          replace hu := hu9
          replace hS1 := hS1.up2 hg9
          replace hS2 := hS2.up2 hg9
          replace hS7 := hS7.up2 hg9
          replace hr2 := hr2.grown hg9 (by simp; omega)
          replace hr3 := hr3.grown hg9 (by simp; omega)
          have hzbb := hB.size
          replace hB := below_own hB hg9 hzbb (by omega)
          have lub := hu.lt
          clear u0 u1 u2 u3 u4 u5 u6 f0 g0 g1 g2 g3 g4 lat ltf hf hat hthere hu9 hA h3 h4 h4i h1x hq1 hq2 hl2b hlA
          have u0 : wc.cell? ⟨gu, 0, none⟩ = some (.slice A1 l1.length c1) := hu.cellv 0 rfl
          have u1 : wc.cell? ⟨gu, 1, none⟩ = some (.int .i64 a.o) := hu.cellv 1 rfl
          have u2 : wc.cell? ⟨gu, 2, none⟩ = some (.slice A7 n7 c7) := hu.cellv 2 rfl
          have u3 : wc.cell? ⟨gu, 3, none⟩ = some (.int .u32 a.h) := hu.cellv 3 rfl
          have u4 : wc.cell? ⟨gu, 4, none⟩ = some (.int .i64 a.m) := hu.cellv 4 rfl
          have u5 : wc.cell? ⟨gu, 5, none⟩ = some (.bool a.b) := hu.cellv 5 rfl
          have u6 : wc.cell? ⟨gu, 6, none⟩ = some (.slice A2 l2.length c2) := hu.cellv 6 rfl
          go_upto_region 22 with (fail)
          go_wp2_with (refine wpList_store_blk rfl hr2 33 (.tmp 2) (.tmp 92) rfl rfl rfl rfl hi (by simp [Value.oneCell']) ?_; intro wg hr2g hg2; refine Hid.out ?_)
          refine Lib.hid ?_
          have hr3g := hr3.grown hg2 (by simp)
          go_wp2_with (refine wpList_store_blk rfl hr3g 44 (.tmp 3) (.tmp 93) rfl rfl rfl rfl hj (by simp [Value.oneCell']) ?_; intro wh hr3h hg3)
          have hr2h := hr2g.grown hg3 (by simp)
          try rw [Exit.noGoto_ret]
          refine bodyPost_ret (results_2c rfl _ rfl rfl (load_blk hr2h Try.underlying33 rfl hi) (load_blk hr3h Try.underlying44 rfl hj)) rfl ?_
          have hBg := below_own hB hg2 hB.size (Nat.le_refl _)
          have hBh := below_own hBg hg3 hBg.size (by omega)
          have hzw := hB.size
          have h0u : w.heap.size + 1 < gu := hgu1
          refine ⟨hBh, ?_⟩
          rw [spec.out]
          have t1b := ((hS1.up3 hg2 (by omega)).up3 hg3 (by omega)).more (fun b q => (q.2 : b < wh.heap.size))
          have t2b := ((hS2.up3 hg2 (by omega)).up3 hg3 (by omega)).more (fun b q => (q.2 : b < wh.heap.size))
          exact ⟨A1, c1, A7, n7, c7, A2, c2, rfl, t1b, ((hS7.up3 hg2 (by omega)).up3 hg3 (by omega)).more (fun b q => (q.2 : b < wh.heap.size)), t2b⟩
end Go.Proofs.Ytfnclmacodchfaa
