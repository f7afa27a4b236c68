/- ports: Back, Bytes. -/
import Derived.Test.YthbfnppgaaeilaaDoorPrtJ
namespace Go.Proofs.YthbfnppgaaeilaaDoor
set_option linter.unusedVariables false
open Go.RowKit

theorem back_any (p s d sp dp : Int) (w : World) : Calls Tryd.prog 22 #[.agg #[.int .i64 p, .int .u32 s, .int .u32 d, .int .i64 sp, .int .i64 dp]] w fun e w' => e = .returned (.agg #[.int .i64 p, .int .u32 d, .int .u32 s, .int .i64 dp, .int .i64 sp]) ∧ Below w.heap.size w w' := by
  have hi : (Tryd.prog.info? 42).map (·.size) = some 5 := by kernel_rfl
  go_enter Tryd.func22, Tryd.ntmps22
  go_wp2_with fail
  have hk : Blk ((w.alloc (.cells (flowV p d s dp sp) 42)).alloc (.cells (flowV p d s dp sp) 42)) (w.heap.size + 1) 42 (flowV p d s dp sp) := by
    have := Blk.new (w.alloc (.cells (flowV p d s dp sp) 42)) 42 (flowV p d s dp sp)
    simpa using this
  exact bodyPost_ret (results_c rfl _ rfl (load_blk hk Tryd.underlying42 rfl hi)) rfl ⟨rfl, ((Below.refl w.heap.size w).alloc (Nat.le_refl _) _).alloc (by simp) _⟩
def flowL (p s d sp dp : Int) : List UInt8 := [byOf p] ++ ((be s 4 ++ be d 4) ++ bothL sp dp)
theorem byt_one (w : World) (x : Int) : Byt (w.alloc (.cells #[.int .u8 (IntKind.u8.wrap x)] 5)) (w.heap.size + 1) (some ⟨w.heap.size, 0, none⟩) 1 [byOf x] := by
  have h := Byt.new w [byOf x] 5 (0, 0)
  have e : byCells [byOf x] = #[.int .u8 (IntKind.u8.wrap x)] := by
    simp [byCells, byOf_val, IntKind.wrap_u8]
  rw [e] at h
  exact h
set_option maxRecDepth 100000 in
set_option maxHeartbeats 8000000 in
theorem flowBytes_any (p s d sp dp : Int) (w : World) (s0 : 0 ≤ s) (s1 : s ≤ 4294967295) (d0 : 0 ≤ d) (d1 : d ≤ 4294967295) :
    Calls Tryd.prog 20 #[.agg #[.int .i64 p, .int .u32 s, .int .u32 d, .int .i64 sp, .int .i64 dp]] w fun e w' => ∃ v, e = .returned v ∧ OwnB w' w.heap.size v (flowL p s d sp dp).length (flowL p s d sp dp) ∧ Below w.heap.size w w' := by
  have hB := (Below.refl w.heap.size w).alloc (Nat.le_refl _) (.cells (flowV p s d sp dp) 42)
  have hq := Blk.new w 42 (flowV p s d sp dp)
  unfold flowV at hB hq
  have hi : (Tryd.prog.info? 42).map (·.size) = some 5 := by kernel_rfl
  have hfl : [[byOf p], be s 4 ++ be d 4, bothL sp dp].flatten = flowL p s d sp dp := by simp [flowL]
  replace hfl := Lib.hid hfl
  go_enter Tryd.func20, Tryd.ntmps20
  go_wp2_with fail
  generalize w.alloc (.cells _ 42) = w1 at *
  have lt1 := hq.lt
  have f0 : w1.cell? ⟨w.heap.size, 0, none⟩ = some (.int .i64 p) := hq.cellv 0 rfl
  have f1 : w1.cell? ⟨w.heap.size, 1, none⟩ = some (.int .u32 s) := hq.cellv 1 rfl
  have f2 : w1.cell? ⟨w.heap.size, 2, none⟩ = some (.int .u32 d) := hq.cellv 2 rfl
  -- region 1: 0 1 2 3M 4 5 6C 7 8 9C 10 11C 12M 13C 14
  try refine wp_region_noPanic ?_
  have hs1r : Below w1.heap.size w1 w1.drew := (Below.refl _ _).drew
  refine wp_region_held_drew (S := fun w' => Below w1.heap.size w1 w') (by kernel_rfl) hs1r (fun _ => ?_)
  (refine held_takeA 0 (by rfl) ?_ (by kernel_rfl) (fun _ _ _ h => h) hs1r ?_ ?_; rotate_left; (focus (intro wq hSw; have hrd : ∀ b o, b < w1.heap.size → wq.cell? ⟨b, o, none⟩ = w1.cell? ⟨b, o, none⟩ := (fun b o h => hSw.cell (p := ⟨b, o, none⟩) h); go_simp; try with_reducible rfl; done)); try simp only [Act.put, List.setIfInBounds_toArray, List.set_cons_zero, List.set_cons_succ])
  (refine held_takeA 1 (by rfl) ?_ (by kernel_rfl) (fun _ _ _ h => h) hs1r ?_ ?_; rotate_left; (focus (intro wq hSw; have hrd : ∀ b o, b < w1.heap.size → wq.cell? ⟨b, o, none⟩ = w1.cell? ⟨b, o, none⟩ := (fun b o h => hSw.cell (p := ⟨b, o, none⟩) h); go_simp; try with_reducible rfl; done)); try simp only [Act.put, List.setIfInBounds_toArray, List.set_cons_zero, List.set_cons_succ])
  (refine held_takeA 2 (by rfl) ?_ (by kernel_rfl) (fun _ _ _ h => h) hs1r ?_ ?_; rotate_left; (focus (intro wq hSw; have hrd : ∀ b o, b < w1.heap.size → wq.cell? ⟨b, o, none⟩ = w1.cell? ⟨b, o, none⟩ := (fun b o h => hSw.cell (p := ⟨b, o, none⟩) h); go_simp; try with_reducible rfl; done)); try simp only [Act.put, List.setIfInBounds_toArray, List.set_cons_zero, List.set_cons_succ])
  (refine held_takeA 4 (by rfl) ?_ (by kernel_rfl) (fun _ _ _ h => h) hs1r ?_ ?_; rotate_left; (focus (intro wq hSw; have hrd : ∀ b o, b < w1.heap.size → wq.cell? ⟨b, o, none⟩ = w1.cell? ⟨b, o, none⟩ := (fun b o h => hSw.cell (p := ⟨b, o, none⟩) h); go_simp; try with_reducible rfl; done)); try simp only [Act.put, List.setIfInBounds_toArray, List.set_cons_zero, List.set_cons_succ])
  (refine held_takeA 5 (by rfl) ?_ (by kernel_rfl) (fun _ _ _ h => h) hs1r ?_ ?_; rotate_left; (focus (intro wq hSw; have hrd : ∀ b o, b < w1.heap.size → wq.cell? ⟨b, o, none⟩ = w1.cell? ⟨b, o, none⟩ := (fun b o h => hSw.cell (p := ⟨b, o, none⟩) h); go_simp; try with_reducible rfl; done)); try simp only [Act.put, List.setIfInBounds_toArray, List.set_cons_zero, List.set_cons_succ])
  (refine held_takeA 7 (by rfl) ?_ (by kernel_rfl) (fun _ _ _ h => h) hs1r ?_ ?_; rotate_left; (focus (intro wq hSw; have hrd : ∀ b o, b < w1.heap.size → wq.cell? ⟨b, o, none⟩ = w1.cell? ⟨b, o, none⟩ := (fun b o h => hSw.cell (p := ⟨b, o, none⟩) h); go_simp; try with_reducible rfl; done)); try simp only [Act.put, List.setIfInBounds_toArray, List.set_cons_zero, List.set_cons_succ])
  (refine held_takeA 8 (by rfl) ?_ (by kernel_rfl) (fun _ _ _ h => h) hs1r ?_ ?_; rotate_left; (focus (intro wq hSw; have hrd : ∀ b o, b < w1.heap.size → wq.cell? ⟨b, o, none⟩ = w1.cell? ⟨b, o, none⟩ := (fun b o h => hSw.cell (p := ⟨b, o, none⟩) h); go_simp; try with_reducible rfl; done)); try simp only [Act.put, List.setIfInBounds_toArray, List.set_cons_zero, List.set_cons_succ])
  (refine held_takeA 10 (by rfl) ?_ (by kernel_rfl) (fun _ _ _ h => h) hs1r ?_ ?_; rotate_left; (focus (intro wq hSw; refine exec_load_blk (x := .tmp 1) ?_ ?_ (hq.below hSw hq.lt) _ Tryd.underlying42 rfl (by kernel_rfl) <;> rfl)); simp only [Act.put, List.setIfInBounds_toArray, List.set_cons_zero, List.set_cons_succ])
  refine held_two 3 6 (by rfl) (by rfl) (by kernel_rfl) (by rfl) (by rfl) (fun KQ hKQ => ?_) (fun KQ hKQ => ?_)
  · skip
    go_simp
    have hb : Below w1.drew.heap.size w1.drew ((w1.alloc (.cells #[.int .u8 (IntKind.u8.wrap p)] 5)).drew) := (Below.refl w1.drew.heap.size w1.drew).alloc (Nat.le_refl _) (.cells #[.int .u8 (IntKind.u8.wrap p)] 5)
    have bya : Byt ((w1.alloc (.cells #[.int .u8 (IntKind.u8.wrap p)] 5)).drew) (w1.heap.size + 1) (some ⟨w1.heap.size, 0, none⟩) 1 [byOf p] := byt_one w1 p
    replace bya : Byt ((w1.alloc (.cells #[.int .u8 (IntKind.u8.wrap p)] 5)).drew) ((w1.alloc (.cells #[.int .u8 (IntKind.u8.wrap p)] 5)).drew).heap.size (some ⟨w1.heap.size, 0, none⟩) 1 [byOf p] := bya.more (by simp)
    generalize (w1.alloc (.cells #[.int .u8 (IntKind.u8.wrap p)] 5)).drew = w2 at *
    generalize w1.heap.size = ga at bya
    have hbf := ((Below.refl w1.heap.size w1).drew.trans hb)
    refine hKQ.out _ _ (hs1r.trans hb) (held_mono (S' := fun w' => Below w2.heap.size w2 w') (fun w' h => (hs1r.trans hb).trans (h.mono (hs1r.trans hb).size)) _ _ _ _ ?_)
    clear hKQ KQ
    replace hq := hq.below (hs1r.trans hb) hq.lt
    replace hB := hB.trans ((hs1r.trans hb).mono hB.size)
    have hs2r : Below w2.heap.size w2 w2 := Below.refl _ _
    try simp only [Act.put, List.setIfInBounds_toArray, List.set_cons_zero, List.set_cons_succ]
    clear hb hbf
    refine held_callA 6 (by rfl) (by kernel_rfl) (by rfl) (fun KQ hKQ => ?_)
    go_simp
    refine (put32_any w2 none 0 0 [] 0 Byt.none_ (by omega) (by omega) s s0 s1).mono ?_
    rintro e w3 ⟨vp, rfl, ownp, hb⟩
    rw [List.nil_append, Nat.zero_add] at ownp
    obtain ⟨Ax, cx, rfl, hcx, byx, _⟩ := ownp.any
    clear ownp
    have hbf := hb
    replace bya := bya.nx hbf
    refine hKQ.out _ _ (hs2r.trans hb) (held_mono (S' := fun w' => Below w3.heap.size w3 w') (fun w' h => (hs2r.trans hb).trans (h.mono (hs2r.trans hb).size)) _ _ _ _ ?_)
    clear hKQ KQ
    replace hq := hq.below (hs2r.trans hb) hq.lt
    replace hB := hB.trans ((hs2r.trans hb).mono hB.size)
    have hs3r : Below w3.heap.size w3 w3 := Below.refl _ _
    try simp only [Act.put, List.setIfInBounds_toArray, List.set_cons_zero, List.set_cons_succ]
    clear hb hbf
    refine held_callA 9 (by rfl) (by kernel_rfl) (by rfl) (fun KQ hKQ => ?_)
    go_simp
    refine (put32_any w3 Ax 4 cx (be s 4) w3.heap.size byx (by omega) (by omega) d d0 d1).mono ?_
    rintro e w4 ⟨vp, rfl, ownp, hb⟩
    obtain ⟨Ay, cy, rfl, hcy, byy, _⟩ := ownp.any
    clear ownp
    have hbf := hb
    replace bya := bya.nx hbf
    replace byx := byx.nx hbf
    refine hKQ.out _ _ (hs3r.trans hb) (held_mono (S' := fun w' => Below w4.heap.size w4 w') (fun w' h => (hs3r.trans hb).trans (h.mono (hs3r.trans hb).size)) _ _ _ _ ?_)
    clear hKQ KQ
    replace hq := hq.below (hs3r.trans hb) hq.lt
    replace hB := hB.trans ((hs3r.trans hb).mono hB.size)
    have hs4r : Below w4.heap.size w4 w4 := Below.refl _ _
    try simp only [Act.put, List.setIfInBounds_toArray, List.set_cons_zero, List.set_cons_succ]
    clear hb hbf
    refine held_callA 11 (by rfl) (by kernel_rfl) (by rfl) (fun KQ hKQ => ?_)
    go_simp
    refine (both_any p s d sp dp w4).mono ?_
    rintro e w5 ⟨vb, rfl, ownb, hb⟩
    obtain ⟨Az, cz, rfl, hcz, byz, _⟩ := ownb.any
    clear ownb
    have hbf := hb
    replace bya := bya.nx hbf
    replace byx := byx.nx hbf
    replace byy := byy.nx hbf
    refine hKQ.out _ _ (hs4r.trans hb) (held_mono (S' := fun w' => Below w5.heap.size w5 w') (fun w' h => (hs4r.trans hb).trans (h.mono (hs4r.trans hb).size)) _ _ _ _ ?_)
    clear hKQ KQ
    replace hq := hq.below (hs4r.trans hb) hq.lt
    replace hB := hB.trans ((hs4r.trans hb).mono hB.size)
    have hs5r : Below w5.heap.size w5 w5 := Below.refl _ _
    try simp only [Act.put, List.setIfInBounds_toArray, List.set_cons_zero, List.set_cons_succ]
    clear hb hbf
    refine held_callA 12 (by rfl) (by kernel_rfl) (by rfl) (fun KQ hKQ => ?_)
    go_simp
    have hb := (Below.refl w5.heap.size w5).alloc (Nat.le_refl _) (.cells #[.slice (some ⟨ga, 0, none⟩) 1 1, .slice Ay (4 + 4) cy, .slice Az 4 cz] 43)
    have hk4 := Blk.new w5 43 #[.slice (some ⟨ga, 0, none⟩) 1 1, .slice Ay (4 + 4) cy, .slice Az 4 cz]
    replace bya := bya.nx hb
    replace byx := byx.nx hb
    replace byy := byy.nx hb
    replace byz := byz.nx hb
    generalize w5.alloc (.cells #[.slice (some ⟨ga, 0, none⟩) 1 1, .slice Ay (4 + 4) cy, .slice Az 4 cz] 43) = w6 at *
    generalize w5.heap.size = g4 at hk4 ⊢
    have hparts : Parts w6 w6.heap.size (some ⟨g4, 0, none⟩) [[byOf p], be s 4 ++ be d 4, bothL sp dp] := fun _ => ⟨g4, 0, rfl, hk4.lt, fun j hj => by
      match j, hj with
      | 0, _ => exact ⟨_, 1, 1, hk4.cellv 0 rfl, Nat.le_refl _, bya⟩
      | 1, _ => exact ⟨_, 4 + 4, cy, hk4.cellv 1 rfl, hcy, byy⟩
      | 2, _ => exact ⟨_, 4, cz, hk4.cellv 2 rfl, hcz, byz⟩⟩
    refine hKQ.out _ _ (hs5r.trans hb) (held_mono (S' := fun w' => Below w6.heap.size w6 w') (fun w' h => (hs5r.trans hb).trans (h.mono (hs5r.trans hb).size)) _ _ _ _ ?_)
    clear hKQ KQ
    replace hq := hq.below (hs5r.trans hb) hq.lt
    replace hB := hB.trans ((hs5r.trans hb).mono hB.size)
    have hs6r : Below w6.heap.size w6 w6 := Below.refl _ _
    try simp only [Act.put, List.setIfInBounds_toArray, List.set_cons_zero, List.set_cons_succ]
    clear hb bya byy byz hk4
    have hz5 := hB.size
    refine held_callA 13 (by rfl) (by kernel_rfl) (by rfl) (fun KQ hKQ => ?_)
    go_simp
    refine (concat_any w6 (some ⟨g4, 0, none⟩) 3 3 _ hparts rfl (by omega) (by rw [hfl.out]; simp [flowL, bothL, be_len])).mono ?_
    rw [hfl.out]
    rintro e w7 ⟨v7, rfl, own7, hb⟩
    refine hKQ.out _ _ (hs6r.trans hb) (held_mono (S' := fun w' => Below w7.heap.size w7 w') (fun w' h => (hs6r.trans hb).trans (h.mono (hs6r.trans hb).size)) _ _ _ _ ?_)
    clear hKQ KQ
    replace hq := hq.below (hs6r.trans hb) hq.lt
    replace hB := hB.trans ((hs6r.trans hb).mono hB.size)
    have hs7r : Below w7.heap.size w7 w7 := Below.refl _ _
    try simp only [Act.put, List.setIfInBounds_toArray, List.set_cons_zero, List.set_cons_succ]
    (refine held_takeA 14 (by rfl) ?_ (by kernel_rfl) (fun _ _ _ h => h) hs7r ?_ ?_; rotate_left; (focus (intro wq hSw; have hrd : ∀ b o, b < w7.heap.size → wq.cell? ⟨b, o, none⟩ = w7.cell? ⟨b, o, none⟩ := (fun b o h => hSw.cell (p := ⟨b, o, none⟩) h); go_simp; try with_reducible rfl; done)); try simp only [Act.put, List.setIfInBounds_toArray, List.set_cons_zero, List.set_cons_succ])
    refine wpAnyH_done (by kernel_rfl) ?_ _
    try refine NoPanic.normal ?_
    go_wp2_with fail
    go_ret
    exact ⟨v7, rfl, own7.less hz5, hB⟩
  · skip
    go_simp
    refine (put32_any w1.drew none 0 0 [] 0 Byt.none_ (by omega) (by omega) s s0 s1).mono ?_
    rintro e w2 ⟨vp, rfl, ownp, hb⟩
    rw [List.nil_append, Nat.zero_add] at ownp
    obtain ⟨Ax, cx, rfl, hcx, byx, _⟩ := ownp.any
    clear ownp
    have hbf := ((Below.refl w1.heap.size w1).drew.trans hb)
    refine hKQ.out _ _ (hs1r.trans hb) (held_mono (S' := fun w' => Below w2.heap.size w2 w') (fun w' h => (hs1r.trans hb).trans (h.mono (hs1r.trans hb).size)) _ _ _ _ ?_)
    clear hKQ KQ
    replace hq := hq.below (hs1r.trans hb) hq.lt
    replace hB := hB.trans ((hs1r.trans hb).mono hB.size)
    have hs8r : Below w2.heap.size w2 w2 := Below.refl _ _
    try simp only [Act.put, List.setIfInBounds_toArray, List.set_cons_zero, List.set_cons_succ]
    clear hb hbf
    refine held_two 3 9 (by rfl) (by rfl) (by kernel_rfl) (by rfl) (by rfl) (fun KQ hKQ => ?_) (fun KQ hKQ => ?_)
    · skip
      go_simp
      have hb : Below w2.heap.size w2 ((w2.alloc (.cells #[.int .u8 (IntKind.u8.wrap p)] 5))) := (Below.refl w2.heap.size w2).alloc (Nat.le_refl _) (.cells #[.int .u8 (IntKind.u8.wrap p)] 5)
      have bya : Byt ((w2.alloc (.cells #[.int .u8 (IntKind.u8.wrap p)] 5))) (w2.heap.size + 1) (some ⟨w2.heap.size, 0, none⟩) 1 [byOf p] := byt_one w2 p
      replace bya : Byt ((w2.alloc (.cells #[.int .u8 (IntKind.u8.wrap p)] 5))) ((w2.alloc (.cells #[.int .u8 (IntKind.u8.wrap p)] 5))).heap.size (some ⟨w2.heap.size, 0, none⟩) 1 [byOf p] := bya.more (by simp)
      generalize (w2.alloc (.cells #[.int .u8 (IntKind.u8.wrap p)] 5)) = w3 at *
      generalize w2.heap.size = ga at bya
      have hbf := hb
      replace byx := byx.nx hbf
      refine hKQ.out _ _ (hs8r.trans hb) (held_mono (S' := fun w' => Below w3.heap.size w3 w') (fun w' h => (hs8r.trans hb).trans (h.mono (hs8r.trans hb).size)) _ _ _ _ ?_)
      clear hKQ KQ
      replace hq := hq.below (hs8r.trans hb) hq.lt
      replace hB := hB.trans ((hs8r.trans hb).mono hB.size)
      have hs9r : Below w3.heap.size w3 w3 := Below.refl _ _
      try simp only [Act.put, List.setIfInBounds_toArray, List.set_cons_zero, List.set_cons_succ]
      clear hb hbf
      refine held_callA 9 (by rfl) (by kernel_rfl) (by rfl) (fun KQ hKQ => ?_)
      go_simp
      refine (put32_any w3 Ax 4 cx (be s 4) w3.heap.size byx (by omega) (by omega) d d0 d1).mono ?_
      rintro e w4 ⟨vp, rfl, ownp, hb⟩
      obtain ⟨Ay, cy, rfl, hcy, byy, _⟩ := ownp.any
      clear ownp
      have hbf := hb
      replace byx := byx.nx hbf
      replace bya := bya.nx hbf
      refine hKQ.out _ _ (hs9r.trans hb) (held_mono (S' := fun w' => Below w4.heap.size w4 w') (fun w' h => (hs9r.trans hb).trans (h.mono (hs9r.trans hb).size)) _ _ _ _ ?_)
      clear hKQ KQ
      replace hq := hq.below (hs9r.trans hb) hq.lt
      replace hB := hB.trans ((hs9r.trans hb).mono hB.size)
      have hs10r : Below w4.heap.size w4 w4 := Below.refl _ _
      try simp only [Act.put, List.setIfInBounds_toArray, List.set_cons_zero, List.set_cons_succ]
      clear hb hbf
      refine held_callA 11 (by rfl) (by kernel_rfl) (by rfl) (fun KQ hKQ => ?_)
      go_simp
      refine (both_any p s d sp dp w4).mono ?_
      rintro e w5 ⟨vb, rfl, ownb, hb⟩
      obtain ⟨Az, cz, rfl, hcz, byz, _⟩ := ownb.any
      clear ownb
      have hbf := hb
      replace byx := byx.nx hbf
      replace bya := bya.nx hbf
      replace byy := byy.nx hbf
      refine hKQ.out _ _ (hs10r.trans hb) (held_mono (S' := fun w' => Below w5.heap.size w5 w') (fun w' h => (hs10r.trans hb).trans (h.mono (hs10r.trans hb).size)) _ _ _ _ ?_)
      clear hKQ KQ
      replace hq := hq.below (hs10r.trans hb) hq.lt
      replace hB := hB.trans ((hs10r.trans hb).mono hB.size)
      have hs11r : Below w5.heap.size w5 w5 := Below.refl _ _
      try simp only [Act.put, List.setIfInBounds_toArray, List.set_cons_zero, List.set_cons_succ]
      clear hb hbf
      refine held_callA 12 (by rfl) (by kernel_rfl) (by rfl) (fun KQ hKQ => ?_)
      go_simp
      have hb := (Below.refl w5.heap.size w5).alloc (Nat.le_refl _) (.cells #[.slice (some ⟨ga, 0, none⟩) 1 1, .slice Ay (4 + 4) cy, .slice Az 4 cz] 43)
      have hk4 := Blk.new w5 43 #[.slice (some ⟨ga, 0, none⟩) 1 1, .slice Ay (4 + 4) cy, .slice Az 4 cz]
      replace byx := byx.nx hb
      replace bya := bya.nx hb
      replace byy := byy.nx hb
      replace byz := byz.nx hb
      generalize w5.alloc (.cells #[.slice (some ⟨ga, 0, none⟩) 1 1, .slice Ay (4 + 4) cy, .slice Az 4 cz] 43) = w6 at *
      generalize w5.heap.size = g4 at hk4 ⊢
      have hparts : Parts w6 w6.heap.size (some ⟨g4, 0, none⟩) [[byOf p], be s 4 ++ be d 4, bothL sp dp] := fun _ => ⟨g4, 0, rfl, hk4.lt, fun j hj => by
        match j, hj with
        | 0, _ => exact ⟨_, 1, 1, hk4.cellv 0 rfl, Nat.le_refl _, bya⟩
        | 1, _ => exact ⟨_, 4 + 4, cy, hk4.cellv 1 rfl, hcy, byy⟩
        | 2, _ => exact ⟨_, 4, cz, hk4.cellv 2 rfl, hcz, byz⟩⟩
      refine hKQ.out _ _ (hs11r.trans hb) (held_mono (S' := fun w' => Below w6.heap.size w6 w') (fun w' h => (hs11r.trans hb).trans (h.mono (hs11r.trans hb).size)) _ _ _ _ ?_)
      clear hKQ KQ
      replace hq := hq.below (hs11r.trans hb) hq.lt
      replace hB := hB.trans ((hs11r.trans hb).mono hB.size)
      have hs12r : Below w6.heap.size w6 w6 := Below.refl _ _
      try simp only [Act.put, List.setIfInBounds_toArray, List.set_cons_zero, List.set_cons_succ]
      clear hb bya byy byz hk4
      have hz5 := hB.size
      refine held_callA 13 (by rfl) (by kernel_rfl) (by rfl) (fun KQ hKQ => ?_)
      go_simp
      refine (concat_any w6 (some ⟨g4, 0, none⟩) 3 3 _ hparts rfl (by omega) (by rw [hfl.out]; simp [flowL, bothL, be_len])).mono ?_
      rw [hfl.out]
      rintro e w7 ⟨v7, rfl, own7, hb⟩
      refine hKQ.out _ _ (hs12r.trans hb) (held_mono (S' := fun w' => Below w7.heap.size w7 w') (fun w' h => (hs12r.trans hb).trans (h.mono (hs12r.trans hb).size)) _ _ _ _ ?_)
      clear hKQ KQ
      replace hq := hq.below (hs12r.trans hb) hq.lt
      replace hB := hB.trans ((hs12r.trans hb).mono hB.size)
      have hs13r : Below w7.heap.size w7 w7 := Below.refl _ _
      try simp only [Act.put, List.setIfInBounds_toArray, List.set_cons_zero, List.set_cons_succ]
      (refine held_takeA 14 (by rfl) ?_ (by kernel_rfl) (fun _ _ _ h => h) hs13r ?_ ?_; rotate_left; (focus (intro wq hSw; have hrd : ∀ b o, b < w7.heap.size → wq.cell? ⟨b, o, none⟩ = w7.cell? ⟨b, o, none⟩ := (fun b o h => hSw.cell (p := ⟨b, o, none⟩) h); go_simp; try with_reducible rfl; done)); try simp only [Act.put, List.setIfInBounds_toArray, List.set_cons_zero, List.set_cons_succ])
      refine wpAnyH_done (by kernel_rfl) ?_ _
      try refine NoPanic.normal ?_
      go_wp2_with fail
      go_ret
      exact ⟨v7, rfl, own7.less hz5, hB⟩
    · skip
      go_simp
      refine (put32_any w2 Ax 4 cx (be s 4) w2.heap.size byx (by omega) (by omega) d d0 d1).mono ?_
      rintro e w3 ⟨vp, rfl, ownp, hb⟩
      obtain ⟨Ay, cy, rfl, hcy, byy, _⟩ := ownp.any
      clear ownp
      have hbf := hb
      replace byx := byx.nx hbf
      refine hKQ.out _ _ (hs8r.trans hb) (held_mono (S' := fun w' => Below w3.heap.size w3 w') (fun w' h => (hs8r.trans hb).trans (h.mono (hs8r.trans hb).size)) _ _ _ _ ?_)
      clear hKQ KQ
      replace hq := hq.below (hs8r.trans hb) hq.lt
      replace hB := hB.trans ((hs8r.trans hb).mono hB.size)
      have hs14r : Below w3.heap.size w3 w3 := Below.refl _ _
      try simp only [Act.put, List.setIfInBounds_toArray, List.set_cons_zero, List.set_cons_succ]
      clear hb hbf
      refine held_two 3 11 (by rfl) (by rfl) (by kernel_rfl) (by rfl) (by rfl) (fun KQ hKQ => ?_) (fun KQ hKQ => ?_)
      · skip
        go_simp
        have hb : Below w3.heap.size w3 ((w3.alloc (.cells #[.int .u8 (IntKind.u8.wrap p)] 5))) := (Below.refl w3.heap.size w3).alloc (Nat.le_refl _) (.cells #[.int .u8 (IntKind.u8.wrap p)] 5)
        have bya : Byt ((w3.alloc (.cells #[.int .u8 (IntKind.u8.wrap p)] 5))) (w3.heap.size + 1) (some ⟨w3.heap.size, 0, none⟩) 1 [byOf p] := byt_one w3 p
        replace bya : Byt ((w3.alloc (.cells #[.int .u8 (IntKind.u8.wrap p)] 5))) ((w3.alloc (.cells #[.int .u8 (IntKind.u8.wrap p)] 5))).heap.size (some ⟨w3.heap.size, 0, none⟩) 1 [byOf p] := bya.more (by simp)
        generalize (w3.alloc (.cells #[.int .u8 (IntKind.u8.wrap p)] 5)) = w4 at *
        generalize w3.heap.size = ga at bya
        have hbf := hb
        replace byx := byx.nx hbf
        replace byy := byy.nx hbf
        refine hKQ.out _ _ (hs14r.trans hb) (held_mono (S' := fun w' => Below w4.heap.size w4 w') (fun w' h => (hs14r.trans hb).trans (h.mono (hs14r.trans hb).size)) _ _ _ _ ?_)
        clear hKQ KQ
        replace hq := hq.below (hs14r.trans hb) hq.lt
        replace hB := hB.trans ((hs14r.trans hb).mono hB.size)
        have hs15r : Below w4.heap.size w4 w4 := Below.refl _ _
        try simp only [Act.put, List.setIfInBounds_toArray, List.set_cons_zero, List.set_cons_succ]
        clear hb hbf
        refine held_callA 11 (by rfl) (by kernel_rfl) (by rfl) (fun KQ hKQ => ?_)
        go_simp
        refine (both_any p s d sp dp w4).mono ?_
        rintro e w5 ⟨vb, rfl, ownb, hb⟩
        obtain ⟨Az, cz, rfl, hcz, byz, _⟩ := ownb.any
        clear ownb
        have hbf := hb
        replace byx := byx.nx hbf
        replace byy := byy.nx hbf
        replace bya := bya.nx hbf
        refine hKQ.out _ _ (hs15r.trans hb) (held_mono (S' := fun w' => Below w5.heap.size w5 w') (fun w' h => (hs15r.trans hb).trans (h.mono (hs15r.trans hb).size)) _ _ _ _ ?_)
        clear hKQ KQ
        replace hq := hq.below (hs15r.trans hb) hq.lt
        replace hB := hB.trans ((hs15r.trans hb).mono hB.size)
        have hs16r : Below w5.heap.size w5 w5 := Below.refl _ _
        try simp only [Act.put, List.setIfInBounds_toArray, List.set_cons_zero, List.set_cons_succ]
        clear hb hbf
        refine held_callA 12 (by rfl) (by kernel_rfl) (by rfl) (fun KQ hKQ => ?_)
        go_simp
        have hb := (Below.refl w5.heap.size w5).alloc (Nat.le_refl _) (.cells #[.slice (some ⟨ga, 0, none⟩) 1 1, .slice Ay (4 + 4) cy, .slice Az 4 cz] 43)
        have hk4 := Blk.new w5 43 #[.slice (some ⟨ga, 0, none⟩) 1 1, .slice Ay (4 + 4) cy, .slice Az 4 cz]
        replace byx := byx.nx hb
        replace byy := byy.nx hb
        replace bya := bya.nx hb
        replace byz := byz.nx hb
        generalize w5.alloc (.cells #[.slice (some ⟨ga, 0, none⟩) 1 1, .slice Ay (4 + 4) cy, .slice Az 4 cz] 43) = w6 at *
        generalize w5.heap.size = g4 at hk4 ⊢
        have hparts : Parts w6 w6.heap.size (some ⟨g4, 0, none⟩) [[byOf p], be s 4 ++ be d 4, bothL sp dp] := fun _ => ⟨g4, 0, rfl, hk4.lt, fun j hj => by
          match j, hj with
          | 0, _ => exact ⟨_, 1, 1, hk4.cellv 0 rfl, Nat.le_refl _, bya⟩
          | 1, _ => exact ⟨_, 4 + 4, cy, hk4.cellv 1 rfl, hcy, byy⟩
          | 2, _ => exact ⟨_, 4, cz, hk4.cellv 2 rfl, hcz, byz⟩⟩
        refine hKQ.out _ _ (hs16r.trans hb) (held_mono (S' := fun w' => Below w6.heap.size w6 w') (fun w' h => (hs16r.trans hb).trans (h.mono (hs16r.trans hb).size)) _ _ _ _ ?_)
        clear hKQ KQ
        replace hq := hq.below (hs16r.trans hb) hq.lt
        replace hB := hB.trans ((hs16r.trans hb).mono hB.size)
        have hs17r : Below w6.heap.size w6 w6 := Below.refl _ _
        try simp only [Act.put, List.setIfInBounds_toArray, List.set_cons_zero, List.set_cons_succ]
        clear hb bya byy byz hk4
        have hz5 := hB.size
        refine held_callA 13 (by rfl) (by kernel_rfl) (by rfl) (fun KQ hKQ => ?_)
        go_simp
        refine (concat_any w6 (some ⟨g4, 0, none⟩) 3 3 _ hparts rfl (by omega) (by rw [hfl.out]; simp [flowL, bothL, be_len])).mono ?_
        rw [hfl.out]
        rintro e w7 ⟨v7, rfl, own7, hb⟩
        refine hKQ.out _ _ (hs17r.trans hb) (held_mono (S' := fun w' => Below w7.heap.size w7 w') (fun w' h => (hs17r.trans hb).trans (h.mono (hs17r.trans hb).size)) _ _ _ _ ?_)
        clear hKQ KQ
        replace hq := hq.below (hs17r.trans hb) hq.lt
        replace hB := hB.trans ((hs17r.trans hb).mono hB.size)
        have hs18r : Below w7.heap.size w7 w7 := Below.refl _ _
        try simp only [Act.put, List.setIfInBounds_toArray, List.set_cons_zero, List.set_cons_succ]
        (refine held_takeA 14 (by rfl) ?_ (by kernel_rfl) (fun _ _ _ h => h) hs18r ?_ ?_; rotate_left; (focus (intro wq hSw; have hrd : ∀ b o, b < w7.heap.size → wq.cell? ⟨b, o, none⟩ = w7.cell? ⟨b, o, none⟩ := (fun b o h => hSw.cell (p := ⟨b, o, none⟩) h); go_simp; try with_reducible rfl; done)); try simp only [Act.put, List.setIfInBounds_toArray, List.set_cons_zero, List.set_cons_succ])
        refine wpAnyH_done (by kernel_rfl) ?_ _
        try refine NoPanic.normal ?_
        go_wp2_with fail
        go_ret
        exact ⟨v7, rfl, own7.less hz5, hB⟩
      · skip
        go_simp
        refine (both_any p s d sp dp w3).mono ?_
        rintro e w4 ⟨vb, rfl, ownb, hb⟩
        obtain ⟨Az, cz, rfl, hcz, byz, _⟩ := ownb.any
        clear ownb
        have hbf := hb
        replace byx := byx.nx hbf
        replace byy := byy.nx hbf
        refine hKQ.out _ _ (hs14r.trans hb) (held_mono (S' := fun w' => Below w4.heap.size w4 w') (fun w' h => (hs14r.trans hb).trans (h.mono (hs14r.trans hb).size)) _ _ _ _ ?_)
        clear hKQ KQ
        replace hq := hq.below (hs14r.trans hb) hq.lt
        replace hB := hB.trans ((hs14r.trans hb).mono hB.size)
        have hs19r : Below w4.heap.size w4 w4 := Below.refl _ _
        try simp only [Act.put, List.setIfInBounds_toArray, List.set_cons_zero, List.set_cons_succ]
        clear hb hbf
        refine held_callA 3 (by rfl) (by kernel_rfl) (by rfl) (fun KQ hKQ => ?_)
        go_simp
        have hb : Below w4.heap.size w4 ((w4.alloc (.cells #[.int .u8 (IntKind.u8.wrap p)] 5))) := (Below.refl w4.heap.size w4).alloc (Nat.le_refl _) (.cells #[.int .u8 (IntKind.u8.wrap p)] 5)
        have bya : Byt ((w4.alloc (.cells #[.int .u8 (IntKind.u8.wrap p)] 5))) (w4.heap.size + 1) (some ⟨w4.heap.size, 0, none⟩) 1 [byOf p] := byt_one w4 p
        replace bya : Byt ((w4.alloc (.cells #[.int .u8 (IntKind.u8.wrap p)] 5))) ((w4.alloc (.cells #[.int .u8 (IntKind.u8.wrap p)] 5))).heap.size (some ⟨w4.heap.size, 0, none⟩) 1 [byOf p] := bya.more (by simp)
        generalize (w4.alloc (.cells #[.int .u8 (IntKind.u8.wrap p)] 5)) = w5 at *
        generalize w4.heap.size = ga at bya
        have hbf := hb
        replace byx := byx.nx hbf
        replace byy := byy.nx hbf
        replace byz := byz.nx hbf
        refine hKQ.out _ _ (hs19r.trans hb) (held_mono (S' := fun w' => Below w5.heap.size w5 w') (fun w' h => (hs19r.trans hb).trans (h.mono (hs19r.trans hb).size)) _ _ _ _ ?_)
        clear hKQ KQ
        replace hq := hq.below (hs19r.trans hb) hq.lt
        replace hB := hB.trans ((hs19r.trans hb).mono hB.size)
        have hs20r : Below w5.heap.size w5 w5 := Below.refl _ _
        try simp only [Act.put, List.setIfInBounds_toArray, List.set_cons_zero, List.set_cons_succ]
        clear hb hbf
        refine held_callA 12 (by rfl) (by kernel_rfl) (by rfl) (fun KQ hKQ => ?_)
        go_simp
        have hb := (Below.refl w5.heap.size w5).alloc (Nat.le_refl _) (.cells #[.slice (some ⟨ga, 0, none⟩) 1 1, .slice Ay (4 + 4) cy, .slice Az 4 cz] 43)
        have hk4 := Blk.new w5 43 #[.slice (some ⟨ga, 0, none⟩) 1 1, .slice Ay (4 + 4) cy, .slice Az 4 cz]
        replace byx := byx.nx hb
        replace byy := byy.nx hb
        replace byz := byz.nx hb
        replace bya := bya.nx hb
        generalize w5.alloc (.cells #[.slice (some ⟨ga, 0, none⟩) 1 1, .slice Ay (4 + 4) cy, .slice Az 4 cz] 43) = w6 at *
        generalize w5.heap.size = g4 at hk4 ⊢
        have hparts : Parts w6 w6.heap.size (some ⟨g4, 0, none⟩) [[byOf p], be s 4 ++ be d 4, bothL sp dp] := fun _ => ⟨g4, 0, rfl, hk4.lt, fun j hj => by
          match j, hj with
          | 0, _ => exact ⟨_, 1, 1, hk4.cellv 0 rfl, Nat.le_refl _, bya⟩
          | 1, _ => exact ⟨_, 4 + 4, cy, hk4.cellv 1 rfl, hcy, byy⟩
          | 2, _ => exact ⟨_, 4, cz, hk4.cellv 2 rfl, hcz, byz⟩⟩
        refine hKQ.out _ _ (hs20r.trans hb) (held_mono (S' := fun w' => Below w6.heap.size w6 w') (fun w' h => (hs20r.trans hb).trans (h.mono (hs20r.trans hb).size)) _ _ _ _ ?_)
        clear hKQ KQ
        replace hq := hq.below (hs20r.trans hb) hq.lt
        replace hB := hB.trans ((hs20r.trans hb).mono hB.size)
        have hs21r : Below w6.heap.size w6 w6 := Below.refl _ _
        try simp only [Act.put, List.setIfInBounds_toArray, List.set_cons_zero, List.set_cons_succ]
        clear hb bya byy byz hk4
        have hz5 := hB.size
        refine held_callA 13 (by rfl) (by kernel_rfl) (by rfl) (fun KQ hKQ => ?_)
        go_simp
        refine (concat_any w6 (some ⟨g4, 0, none⟩) 3 3 _ hparts rfl (by omega) (by rw [hfl.out]; simp [flowL, bothL, be_len])).mono ?_
        rw [hfl.out]
        rintro e w7 ⟨v7, rfl, own7, hb⟩
        refine hKQ.out _ _ (hs21r.trans hb) (held_mono (S' := fun w' => Below w7.heap.size w7 w') (fun w' h => (hs21r.trans hb).trans (h.mono (hs21r.trans hb).size)) _ _ _ _ ?_)
        clear hKQ KQ
        replace hq := hq.below (hs21r.trans hb) hq.lt
        replace hB := hB.trans ((hs21r.trans hb).mono hB.size)
        have hs22r : Below w7.heap.size w7 w7 := Below.refl _ _
        try simp only [Act.put, List.setIfInBounds_toArray, List.set_cons_zero, List.set_cons_succ]
        (refine held_takeA 14 (by rfl) ?_ (by kernel_rfl) (fun _ _ _ h => h) hs22r ?_ ?_; rotate_left; (focus (intro wq hSw; have hrd : ∀ b o, b < w7.heap.size → wq.cell? ⟨b, o, none⟩ = w7.cell? ⟨b, o, none⟩ := (fun b o h => hSw.cell (p := ⟨b, o, none⟩) h); go_simp; try with_reducible rfl; done)); try simp only [Act.put, List.setIfInBounds_toArray, List.set_cons_zero, List.set_cons_succ])
        refine wpAnyH_done (by kernel_rfl) ?_ _
        try refine NoPanic.normal ?_
        go_wp2_with fail
        go_ret
        exact ⟨v7, rfl, own7.less hz5, hB⟩
end Go.Proofs.YthbfnppgaaeilaaDoor
