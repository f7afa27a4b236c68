/- ports: Tcp. -/
import Derived.Test.YthbfnppgaaeilaaDoorPrtG
import Derived.Test.YthbfnppgaaeilaaDoorDraw4
namespace Go.Proofs.YthbfnppgaaeilaaDoor
set_option linter.unusedVariables false
open Go.RowKit

theorem byt_mid (w : World) (fl : Int) : Byt (w.alloc (.cells #[.int .u8 80, .int .u8 (IntKind.u8.wrap fl), .int .u8 255, .int .u8 255] 5)) (w.heap.size + 1) (some ⟨w.heap.size, 0, none⟩) 4 [80, byOf fl, 255, 255] := by
  have h := Byt.new w [80, byOf fl, 255, 255] 5 (0, 0)
  have e : byCells [80, byOf fl, 255, 255] = #[.int .u8 80, .int .u8 (IntKind.u8.wrap fl), .int .u8 255, .int .u8 255] := by
    simp [byCells, byOf_val, IntKind.wrap_u8]
  rw [e] at h
  exact h
set_option maxRecDepth 100000 in
set_option maxHeartbeats 16000000 in
theorem tcp_any (w : World) (p s d sp dp fl : Int) (X : Option Addr) (m k : Nat) (pl : List UInt8) (hP : Byt w w.heap.size X m pl) (hmk : m ≤ k) (hm : m ≤ 12000) (s0 : 0 ≤ s) (s1 : s ≤ 4294967295) (d0 : 0 ≤ d) (d1 : d ≤ 4294967295) :
    Calls Tryd.prog 14 #[.agg #[.int .i64 p, .int .u32 s, .int .u32 d, .int .i64 sp, .int .i64 dp], .int .i64 fl, .slice X m k] w fun e w' => ∃ v, e = .returned v ∧ OwnB w' w.heap.size v (tcpL s d sp dp fl pl).length (tcpL s d sp dp fl pl) ∧ Below w.heap.size w w' := by
  have hB := (Below.refl w.heap.size w).alloc (Nat.le_refl _) (.cells (flowV 6 s d sp dp) 42)
  have hq := Blk.new w 42 (flowV 6 s d sp dp)
  unfold flowV at hB hq
  have hi : (Tryd.prog.info? 42).map (·.size) = some 5 := by kernel_rfl
  have hPb := (hP.below hB).more hB.size
  have hmi : (m : Int) ≤ 12000 := by omega
  have hpl := hP.1
  have hfl : [bothL sp dp, restL fl, pl].flatten = tcpB sp dp fl pl := by simp [tcpB]
  have hf3 : [[0, 0, 0, 0, 0, 0, 0, 0], [80, byOf fl, 255, 255], [0, 0, 0, 0]].flatten = restL fl := by simp [restL]
  replace hfl := Lib.hid hfl
  replace hf3 := Lib.hid hf3
  replace hpl := Lib.hid hpl
  have hmk8 : ∀ w, (Instr.makeSlice 43 (.int .i64 8) (.int .i64 8)).run Tryd.prog w = .ok (.slice (some ⟨w.heap.size, 0, none⟩) 8 8) (w.alloc (.cells #[.int .u8 0, .int .u8 0, .int .u8 0, .int .u8 0, .int .u8 0, .int .u8 0, .int .u8 0, .int .u8 0] 5)) := fun w => by
    have := run_mk 8 8 (by omega) (by omega) w
    rw [show madeCells #[.int .u8 0] 8 = #[.int .u8 0, .int .u8 0, .int .u8 0, .int .u8 0, .int .u8 0, .int .u8 0, .int .u8 0, .int .u8 0] from by unfold madeCells; rw [show Array.range 8 = #[0, 1, 2, 3, 4, 5, 6, 7] from by decide]; simp] at this
    exact this
  have hmk4 : ∀ w, (Instr.makeSlice 43 (.int .i64 4) (.int .i64 4)).run Tryd.prog w = .ok (.slice (some ⟨w.heap.size, 0, none⟩) 4 4) (w.alloc (.cells #[.int .u8 0, .int .u8 0, .int .u8 0, .int .u8 0] 5)) := fun w => by
    have := run_mk 4 4 (by omega) (by omega) w
    rw [show madeCells #[.int .u8 0] 4 = #[.int .u8 0, .int .u8 0, .int .u8 0, .int .u8 0] from by unfold madeCells; rw [show Array.range 4 = #[0, 1, 2, 3] from by decide]; simp] at this
    exact this
  go_enter Tryd.func14, Tryd.ntmps14
  go_wp2_with fail
  generalize w.alloc (.cells _ 42) = w1 at *
  have lt1 := hq.lt
  -- region 2: 0M 1 2 3M 4M 5M 6C 7
  try refine wp_region_noPanic ?_
  have hs1r : Below w1.heap.size w1 w1.drew := (Below.refl _ _).drew
  refine wp_region_held_drew (S := fun w' => Below w1.heap.size w1 w') (by kernel_rfl) hs1r (fun _ => ?_)
  (refine held_takeA 1 (by rfl) ?_ (by kernel_rfl) (fun _ _ _ h => h) hs1r ?_ ?_; rotate_left; (focus (intro wq hSw; have hrd : ∀ b o, b < w1.heap.size → wq.cell? ⟨b, o, none⟩ = w1.cell? ⟨b, o, none⟩ := (fun b o h => hSw.cell (p := ⟨b, o, none⟩) h); go_simp; try with_reducible rfl; done)); try simp only [Act.put, List.setIfInBounds_toArray, List.set_cons_zero, List.set_cons_succ])
  (refine held_takeA 2 (by rfl) ?_ (by kernel_rfl) (fun _ _ _ h => h) hs1r ?_ ?_; rotate_left; (focus (intro wq hSw; have hrd : ∀ b o, b < w1.heap.size → wq.cell? ⟨b, o, none⟩ = w1.cell? ⟨b, o, none⟩ := (fun b o h => hSw.cell (p := ⟨b, o, none⟩) h); go_simp; try with_reducible rfl; done)); try simp only [Act.put, List.setIfInBounds_toArray, List.set_cons_zero, List.set_cons_succ])
  refine held_three 0 3 4 (by rfl) (by rfl) (by rfl) (by kernel_rfl) (by rfl) (by rfl) (by rfl) (fun KQ hKQ => ?_) (fun KQ hKQ => ?_) (fun KQ hKQ => ?_)
  · skip
    go_simp
    have hb : Below w1.drew.heap.size w1.drew ((w1.alloc (.cells #[.int .u8 0, .int .u8 0, .int .u8 0, .int .u8 0, .int .u8 0, .int .u8 0, .int .u8 0, .int .u8 0] 5)).drew) := (Below.refl w1.drew.heap.size w1.drew).alloc (Nat.le_refl _) (.cells #[.int .u8 0, .int .u8 0, .int .u8 0, .int .u8 0, .int .u8 0, .int .u8 0, .int .u8 0, .int .u8 0] 5)
    have bya : Byt ((w1.alloc (.cells #[.int .u8 0, .int .u8 0, .int .u8 0, .int .u8 0, .int .u8 0, .int .u8 0, .int .u8 0, .int .u8 0] 5)).drew) (w1.heap.size + 1) (some ⟨w1.heap.size, 0, none⟩) 8 [0, 0, 0, 0, 0, 0, 0, 0] := Byt.new w1 [0, 0, 0, 0, 0, 0, 0, 0] 5 (0, 0)
    replace bya : Byt ((w1.alloc (.cells #[.int .u8 0, .int .u8 0, .int .u8 0, .int .u8 0, .int .u8 0, .int .u8 0, .int .u8 0, .int .u8 0] 5)).drew) ((w1.alloc (.cells #[.int .u8 0, .int .u8 0, .int .u8 0, .int .u8 0, .int .u8 0, .int .u8 0, .int .u8 0, .int .u8 0] 5)).drew).heap.size (some ⟨w1.heap.size, 0, none⟩) 8 [0, 0, 0, 0, 0, 0, 0, 0] := bya.more (by simp)
    generalize (w1.alloc (.cells #[.int .u8 0, .int .u8 0, .int .u8 0, .int .u8 0, .int .u8 0, .int .u8 0, .int .u8 0, .int .u8 0] 5)).drew = w2 at *
    generalize w1.heap.size = ga at bya
    have hbf := ((Below.refl w1.heap.size w1).drew.trans hb)
    replace hPb := hPb.nx hbf
    replace hq := hq.below hbf hq.lt
    refine hKQ.out _ _ (hs1r.trans hb) (held_mono (S' := fun w' => Below w2.heap.size w2 w') (fun w' h => (hs1r.trans hb).trans (h.mono (hs1r.trans hb).size)) _ _ _ _ ?_)
    clear hKQ KQ
    replace hB := hB.trans ((hs1r.trans hb).mono hB.size)
    have hs2r : Below w2.heap.size w2 w2 := Below.refl _ _
    try simp only [Act.put, List.setIfInBounds_toArray, List.set_cons_zero, List.set_cons_succ]
    clear hb hbf
    refine held_two 3 4 (by rfl) (by rfl) (by kernel_rfl) (by rfl) (by rfl) (fun KQ hKQ => ?_) (fun KQ hKQ => ?_)
    · skip
      go_simp
      have hb : Below w2.heap.size w2 ((w2.alloc (.cells #[.int .u8 80, .int .u8 (IntKind.u8.wrap fl), .int .u8 255, .int .u8 255] 5))) := (Below.refl w2.heap.size w2).alloc (Nat.le_refl _) (.cells #[.int .u8 80, .int .u8 (IntKind.u8.wrap fl), .int .u8 255, .int .u8 255] 5)
      have byb : Byt ((w2.alloc (.cells #[.int .u8 80, .int .u8 (IntKind.u8.wrap fl), .int .u8 255, .int .u8 255] 5))) (w2.heap.size + 1) (some ⟨w2.heap.size, 0, none⟩) 4 [80, byOf fl, 255, 255] := byt_mid w2 fl
      replace byb : Byt ((w2.alloc (.cells #[.int .u8 80, .int .u8 (IntKind.u8.wrap fl), .int .u8 255, .int .u8 255] 5))) ((w2.alloc (.cells #[.int .u8 80, .int .u8 (IntKind.u8.wrap fl), .int .u8 255, .int .u8 255] 5))).heap.size (some ⟨w2.heap.size, 0, none⟩) 4 [80, byOf fl, 255, 255] := byb.more (by simp)
      generalize (w2.alloc (.cells #[.int .u8 80, .int .u8 (IntKind.u8.wrap fl), .int .u8 255, .int .u8 255] 5)) = w3 at *
      generalize w2.heap.size = gb at byb
      have hbf := hb
      replace hPb := hPb.nx hbf
      replace bya := bya.nx hbf
      replace hq := hq.below hbf hq.lt
      refine hKQ.out _ _ (hs2r.trans hb) (held_mono (S' := fun w' => Below w3.heap.size w3 w') (fun w' h => (hs2r.trans hb).trans (h.mono (hs2r.trans hb).size)) _ _ _ _ ?_)
      clear hKQ KQ
      replace hB := hB.trans ((hs2r.trans hb).mono hB.size)
      have hs3r : Below w3.heap.size w3 w3 := Below.refl _ _
      try simp only [Act.put, List.setIfInBounds_toArray, List.set_cons_zero, List.set_cons_succ]
      clear hb hbf
      refine held_callA 4 (by rfl) (by kernel_rfl) (by rfl) (fun KQ hKQ => ?_)
      go_simp
      have hb : Below w3.heap.size w3 ((w3.alloc (.cells #[.int .u8 0, .int .u8 0, .int .u8 0, .int .u8 0] 5))) := (Below.refl w3.heap.size w3).alloc (Nat.le_refl _) (.cells #[.int .u8 0, .int .u8 0, .int .u8 0, .int .u8 0] 5)
      have byc : Byt ((w3.alloc (.cells #[.int .u8 0, .int .u8 0, .int .u8 0, .int .u8 0] 5))) (w3.heap.size + 1) (some ⟨w3.heap.size, 0, none⟩) 4 [0, 0, 0, 0] := Byt.new w3 [0, 0, 0, 0] 5 (0, 0)
      replace byc : Byt ((w3.alloc (.cells #[.int .u8 0, .int .u8 0, .int .u8 0, .int .u8 0] 5))) ((w3.alloc (.cells #[.int .u8 0, .int .u8 0, .int .u8 0, .int .u8 0] 5))).heap.size (some ⟨w3.heap.size, 0, none⟩) 4 [0, 0, 0, 0] := byc.more (by simp)
      generalize (w3.alloc (.cells #[.int .u8 0, .int .u8 0, .int .u8 0, .int .u8 0] 5)) = w4 at *
      generalize w3.heap.size = gc at byc
      have hbf := hb
      replace hPb := hPb.nx hbf
      replace bya := bya.nx hbf
      replace byb := byb.nx hbf
      replace hq := hq.below hbf hq.lt
      refine hKQ.out _ _ (hs3r.trans hb) (held_mono (S' := fun w' => Below w4.heap.size w4 w') (fun w' h => (hs3r.trans hb).trans (h.mono (hs3r.trans hb).size)) _ _ _ _ ?_)
      clear hKQ KQ
      replace hB := hB.trans ((hs3r.trans hb).mono hB.size)
      have hs4r : Below w4.heap.size w4 w4 := Below.refl _ _
      try simp only [Act.put, List.setIfInBounds_toArray, List.set_cons_zero, List.set_cons_succ]
      clear hb hbf
      refine held_callA 5 (by rfl) (by kernel_rfl) (by rfl) (fun KQ hKQ => ?_)
      go_simp
      have hb := (Below.refl w4.heap.size w4).alloc (Nat.le_refl _) (.cells #[.slice (some ⟨ga, 0, none⟩) 8 8, .slice (some ⟨gb, 0, none⟩) 4 4, .slice (some ⟨gc, 0, none⟩) 4 4] 43)
      have hk4 := Blk.new w4 43 #[.slice (some ⟨ga, 0, none⟩) 8 8, .slice (some ⟨gb, 0, none⟩) 4 4, .slice (some ⟨gc, 0, none⟩) 4 4]
      replace hPb := hPb.nx hb
      replace bya := bya.nx hb
      replace byb := byb.nx hb
      replace byc := byc.nx hb
      replace hq := hq.below hb hq.lt
      generalize w4.alloc (.cells #[.slice (some ⟨ga, 0, none⟩) 8 8, .slice (some ⟨gb, 0, none⟩) 4 4, .slice (some ⟨gc, 0, none⟩) 4 4] 43) = w5 at *
      generalize w4.heap.size = g4 at hk4 ⊢
      have hparts : Parts w5 w5.heap.size (some ⟨g4, 0, none⟩) [[0, 0, 0, 0, 0, 0, 0, 0], [80, byOf fl, 255, 255], [0, 0, 0, 0]] := fun _ => ⟨g4, 0, rfl, hk4.lt, fun j hj => by
        match j, hj with
        | 0, _ => exact ⟨_, 8, 8, hk4.cellv 0 rfl, Nat.le_refl _, bya⟩
        | 1, _ => exact ⟨_, 4, 4, hk4.cellv 1 rfl, Nat.le_refl _, byb⟩
        | 2, _ => exact ⟨_, 4, 4, hk4.cellv 2 rfl, Nat.le_refl _, byc⟩⟩
      refine hKQ.out _ _ (hs4r.trans hb) (held_mono (S' := fun w' => Below w5.heap.size w5 w') (fun w' h => (hs4r.trans hb).trans (h.mono (hs4r.trans hb).size)) _ _ _ _ ?_)
      clear hKQ KQ
      replace hB := hB.trans ((hs4r.trans hb).mono hB.size)
      have hs5r : Below w5.heap.size w5 w5 := Below.refl _ _
      try simp only [Act.put, List.setIfInBounds_toArray, List.set_cons_zero, List.set_cons_succ]
      clear hb bya byb byc hk4
      refine held_callA 6 (by rfl) (by kernel_rfl) (by rfl) (fun KQ hKQ => ?_)
      go_simp
      refine (concat_any w5 (some ⟨g4, 0, none⟩) 3 3 _ hparts rfl (by omega) (by rw [hf3.out]; simp [restL])).mono ?_
      rw [hf3.out]
      rintro e w6 ⟨v6, rfl, own6, hb⟩
      obtain ⟨A6, c6, rfl, hc6, by6, _⟩ := own6.any
      replace hPb := hPb.nx hb
      replace hq := hq.below hb hq.lt
      clear own6 hparts
      refine hKQ.out _ _ (hs5r.trans hb) (held_mono (S' := fun w' => Below w6.heap.size w6 w') (fun w' h => (hs5r.trans hb).trans (h.mono (hs5r.trans hb).size)) _ _ _ _ ?_)
      clear hKQ KQ
      replace hB := hB.trans ((hs5r.trans hb).mono hB.size)
      have hs6r : Below w6.heap.size w6 w6 := Below.refl _ _
      try simp only [Act.put, List.setIfInBounds_toArray, List.set_cons_zero, List.set_cons_succ]
      (refine held_takeA 7 (by rfl) ?_ (by kernel_rfl) (fun _ _ _ h => h) hs6r ?_ ?_; rotate_left; (focus (intro wq hSw; have hrd : ∀ b o, b < w6.heap.size → wq.cell? ⟨b, o, none⟩ = w6.cell? ⟨b, o, none⟩ := (fun b o h => hSw.cell (p := ⟨b, o, none⟩) h); go_simp; try with_reducible rfl; done)); try simp only [Act.put, List.setIfInBounds_toArray, List.set_cons_zero, List.set_cons_succ])
      clear hb
      refine wpAnyH_done (by kernel_rfl) ?_ _
      try refine NoPanic.normal ?_
      go_wp2_with fail
      have e16 : (restL fl).length = 16 := rfl
      rw [e16] at by6 hc6
      -- region 3: 0 1 2C 3 4 5M 6C 7
      try refine wp_region_noPanic ?_
      have hs7r : Below w6.heap.size w6 w6.drew := (Below.refl _ _).drew
      refine wp_region_held_drew (S := fun w' => Below w6.heap.size w6 w') (by kernel_rfl) hs7r (fun _ => ?_)
      (refine held_takeA 0 (by rfl) ?_ (by kernel_rfl) (fun _ _ _ h => h) hs7r ?_ ?_; rotate_left; (focus (intro wq hSw; refine exec_load_blk (x := .tmp 3) ?_ ?_ (hq.below hSw hq.lt) _ Tryd.underlying42 rfl (by kernel_rfl) <;> rfl)); simp only [Act.put, List.setIfInBounds_toArray, List.set_cons_zero, List.set_cons_succ])
      (refine held_takeA 1 (by rfl) ?_ (by kernel_rfl) (fun _ _ _ h => h) hs7r ?_ ?_; rotate_left; (focus (intro wq hSw; refine exec_load_blk (x := .tmp 3) ?_ ?_ (hq.below hSw hq.lt) _ Tryd.underlying42 rfl (by kernel_rfl) <;> rfl)); simp only [Act.put, List.setIfInBounds_toArray, List.set_cons_zero, List.set_cons_succ])
      (refine held_takeA 3 (by rfl) ?_ (by kernel_rfl) (fun _ _ _ h => h) hs7r ?_ ?_; rotate_left; (focus (intro wq hSw; have hrd : ∀ b o, b < w6.heap.size → wq.cell? ⟨b, o, none⟩ = w6.cell? ⟨b, o, none⟩ := (fun b o h => hSw.cell (p := ⟨b, o, none⟩) h); go_simp; try with_reducible rfl; done)); try simp only [Act.put, List.setIfInBounds_toArray, List.set_cons_zero, List.set_cons_succ])
      (refine held_takeA 4 (by rfl) ?_ (by kernel_rfl) (fun _ _ _ h => h) hs7r ?_ ?_; rotate_left; (focus (intro wq hSw; have hrd : ∀ b o, b < w6.heap.size → wq.cell? ⟨b, o, none⟩ = w6.cell? ⟨b, o, none⟩ := (fun b o h => hSw.cell (p := ⟨b, o, none⟩) h); go_simp; try with_reducible rfl; done)); try simp only [Act.put, List.setIfInBounds_toArray, List.set_cons_zero, List.set_cons_succ])
      refine held_callA 2 (by rfl) (by kernel_rfl) (by rfl) (fun KQ hKQ => ?_)
      go_simp
      refine (both_any 6 s d sp dp w6.drew).mono ?_
      rintro e w7 ⟨vb, rfl, ownb, hb⟩
      obtain ⟨A7, c7, rfl, hc7, by7, _⟩ := ownb.any
      clear ownb
      replace hPb := hPb.drew.nx hb
      replace by6 := by6.drew.nx hb
      refine hKQ.out _ _ (hs7r.trans hb) (held_mono (S' := fun w' => Below w7.heap.size w7 w') (fun w' h => (hs7r.trans hb).trans (h.mono (hs7r.trans hb).size)) _ _ _ _ ?_)
      clear hKQ KQ
      replace hq := hq.below (hs7r.trans hb) hq.lt
      replace hB := hB.trans ((hs7r.trans hb).mono hB.size)
      have hs8r : Below w7.heap.size w7 w7 := Below.refl _ _
      try simp only [Act.put, List.setIfInBounds_toArray, List.set_cons_zero, List.set_cons_succ]
      clear hb
      refine held_callA 5 (by rfl) (by kernel_rfl) (by rfl) (fun KQ hKQ => ?_)
      go_simp
      have hb := (Below.refl w7.heap.size w7).alloc (Nat.le_refl _) (.cells #[.slice A7 4 c7, .slice A6 16 c6, .slice X m k] 43)
      have hk4 := Blk.new w7 43 #[.slice A7 4 c7, .slice A6 16 c6, .slice X m k]
      replace hPb := hPb.nx hb
      replace by6 := by6.nx hb
      replace by7 := by7.nx hb
      generalize w7.alloc (.cells #[.slice A7 4 c7, .slice A6 16 c6, .slice X m k] 43) = w8 at *
      generalize w7.heap.size = g8 at hk4 ⊢
      have hparts : Parts w8 w8.heap.size (some ⟨g8, 0, none⟩) [bothL sp dp, restL fl, pl] := fun _ => ⟨g8, 0, rfl, hk4.lt, fun j hj => by
        match j, hj with
        | 0, _ => exact ⟨A7, 4, c7, hk4.cellv 0 rfl, hc7, by7⟩
        | 1, _ => exact ⟨A6, 16, c6, hk4.cellv 1 rfl, hc6, by6⟩
        | 2, _ => exact ⟨X, m, k, hk4.cellv 2 rfl, hmk, hPb⟩⟩
      refine hKQ.out _ _ (hs8r.trans hb) (held_mono (S' := fun w' => Below w8.heap.size w8 w') (fun w' h => (hs8r.trans hb).trans (h.mono (hs8r.trans hb).size)) _ _ _ _ ?_)
      clear hKQ KQ
      replace hq := hq.below (hs8r.trans hb) hq.lt
      replace hB := hB.trans ((hs8r.trans hb).mono hB.size)
      have hs9r : Below w8.heap.size w8 w8 := Below.refl _ _
      try simp only [Act.put, List.setIfInBounds_toArray, List.set_cons_zero, List.set_cons_succ]
      clear hb
      have hz5 := hB.size
      refine held_callA 6 (by rfl) (by kernel_rfl) (by rfl) (fun KQ hKQ => ?_)
      go_simp
      refine (packet_any w8 6 s d sp dp 16 (some ⟨g8, 0, none⟩) 3 3 _ hparts rfl (by omega) (tcpB sp dp fl pl) hfl.out (by rw [tcpB_len, hpl.out]; omega) (by rw [tcpB_len]; omega) s0 s1 d0 d1).mono ?_
      rintro e w9 ⟨v9, rfl, own9, hb⟩
      refine hKQ.out _ _ (hs9r.trans hb) (held_mono (S' := fun w' => Below w9.heap.size w9 w') (fun w' h => (hs9r.trans hb).trans (h.mono (hs9r.trans hb).size)) _ _ _ _ ?_)
      clear hKQ KQ
      replace hq := hq.below (hs9r.trans hb) hq.lt
      replace hB := hB.trans ((hs9r.trans hb).mono hB.size)
      have hs10r : Below w9.heap.size w9 w9 := Below.refl _ _
      try simp only [Act.put, List.setIfInBounds_toArray, List.set_cons_zero, List.set_cons_succ]
      (refine held_takeA 7 (by rfl) ?_ (by kernel_rfl) (fun _ _ _ h => h) hs10r ?_ ?_; rotate_left; (focus (intro wq hSw; have hrd : ∀ b o, b < w9.heap.size → wq.cell? ⟨b, o, none⟩ = w9.cell? ⟨b, o, none⟩ := (fun b o h => hSw.cell (p := ⟨b, o, none⟩) h); go_simp; try with_reducible rfl; done)); try simp only [Act.put, List.setIfInBounds_toArray, List.set_cons_zero, List.set_cons_succ])
      refine wpAnyH_done (by kernel_rfl) ?_ _
      try refine NoPanic.normal ?_
      go_wp2_with fail
      go_ret
      exact ⟨v9, rfl, own9.less hz5, hB⟩
    · skip
      go_simp
      have hb : Below w2.heap.size w2 ((w2.alloc (.cells #[.int .u8 0, .int .u8 0, .int .u8 0, .int .u8 0] 5))) := (Below.refl w2.heap.size w2).alloc (Nat.le_refl _) (.cells #[.int .u8 0, .int .u8 0, .int .u8 0, .int .u8 0] 5)
      have byc : Byt ((w2.alloc (.cells #[.int .u8 0, .int .u8 0, .int .u8 0, .int .u8 0] 5))) (w2.heap.size + 1) (some ⟨w2.heap.size, 0, none⟩) 4 [0, 0, 0, 0] := Byt.new w2 [0, 0, 0, 0] 5 (0, 0)
      replace byc : Byt ((w2.alloc (.cells #[.int .u8 0, .int .u8 0, .int .u8 0, .int .u8 0] 5))) ((w2.alloc (.cells #[.int .u8 0, .int .u8 0, .int .u8 0, .int .u8 0] 5))).heap.size (some ⟨w2.heap.size, 0, none⟩) 4 [0, 0, 0, 0] := byc.more (by simp)
      generalize (w2.alloc (.cells #[.int .u8 0, .int .u8 0, .int .u8 0, .int .u8 0] 5)) = w3 at *
      generalize w2.heap.size = gc at byc
      have hbf := hb
      replace hPb := hPb.nx hbf
      replace bya := bya.nx hbf
      replace hq := hq.below hbf hq.lt
      refine hKQ.out _ _ (hs2r.trans hb) (held_mono (S' := fun w' => Below w3.heap.size w3 w') (fun w' h => (hs2r.trans hb).trans (h.mono (hs2r.trans hb).size)) _ _ _ _ ?_)
      clear hKQ KQ
      replace hB := hB.trans ((hs2r.trans hb).mono hB.size)
      have hs11r : Below w3.heap.size w3 w3 := Below.refl _ _
      try simp only [Act.put, List.setIfInBounds_toArray, List.set_cons_zero, List.set_cons_succ]
      clear hb hbf
      refine held_callA 3 (by rfl) (by kernel_rfl) (by rfl) (fun KQ hKQ => ?_)
      go_simp
      have hb : Below w3.heap.size w3 ((w3.alloc (.cells #[.int .u8 80, .int .u8 (IntKind.u8.wrap fl), .int .u8 255, .int .u8 255] 5))) := (Below.refl w3.heap.size w3).alloc (Nat.le_refl _) (.cells #[.int .u8 80, .int .u8 (IntKind.u8.wrap fl), .int .u8 255, .int .u8 255] 5)
      have byb : Byt ((w3.alloc (.cells #[.int .u8 80, .int .u8 (IntKind.u8.wrap fl), .int .u8 255, .int .u8 255] 5))) (w3.heap.size + 1) (some ⟨w3.heap.size, 0, none⟩) 4 [80, byOf fl, 255, 255] := byt_mid w3 fl
      replace byb : Byt ((w3.alloc (.cells #[.int .u8 80, .int .u8 (IntKind.u8.wrap fl), .int .u8 255, .int .u8 255] 5))) ((w3.alloc (.cells #[.int .u8 80, .int .u8 (IntKind.u8.wrap fl), .int .u8 255, .int .u8 255] 5))).heap.size (some ⟨w3.heap.size, 0, none⟩) 4 [80, byOf fl, 255, 255] := byb.more (by simp)
      generalize (w3.alloc (.cells #[.int .u8 80, .int .u8 (IntKind.u8.wrap fl), .int .u8 255, .int .u8 255] 5)) = w4 at *
      generalize w3.heap.size = gb at byb
      have hbf := hb
      replace hPb := hPb.nx hbf
      replace bya := bya.nx hbf
      replace byc := byc.nx hbf
      replace hq := hq.below hbf hq.lt
      refine hKQ.out _ _ (hs11r.trans hb) (held_mono (S' := fun w' => Below w4.heap.size w4 w') (fun w' h => (hs11r.trans hb).trans (h.mono (hs11r.trans hb).size)) _ _ _ _ ?_)
      clear hKQ KQ
      replace hB := hB.trans ((hs11r.trans hb).mono hB.size)
      have hs12r : Below w4.heap.size w4 w4 := Below.refl _ _
      try simp only [Act.put, List.setIfInBounds_toArray, List.set_cons_zero, List.set_cons_succ]
      clear hb hbf
      refine held_callA 5 (by rfl) (by kernel_rfl) (by rfl) (fun KQ hKQ => ?_)
      go_simp
      have hb := (Below.refl w4.heap.size w4).alloc (Nat.le_refl _) (.cells #[.slice (some ⟨ga, 0, none⟩) 8 8, .slice (some ⟨gb, 0, none⟩) 4 4, .slice (some ⟨gc, 0, none⟩) 4 4] 43)
      have hk4 := Blk.new w4 43 #[.slice (some ⟨ga, 0, none⟩) 8 8, .slice (some ⟨gb, 0, none⟩) 4 4, .slice (some ⟨gc, 0, none⟩) 4 4]
      replace hPb := hPb.nx hb
      replace bya := bya.nx hb
      replace byc := byc.nx hb
      replace byb := byb.nx hb
      replace hq := hq.below hb hq.lt
      generalize w4.alloc (.cells #[.slice (some ⟨ga, 0, none⟩) 8 8, .slice (some ⟨gb, 0, none⟩) 4 4, .slice (some ⟨gc, 0, none⟩) 4 4] 43) = w5 at *
      generalize w4.heap.size = g4 at hk4 ⊢
      have hparts : Parts w5 w5.heap.size (some ⟨g4, 0, none⟩) [[0, 0, 0, 0, 0, 0, 0, 0], [80, byOf fl, 255, 255], [0, 0, 0, 0]] := fun _ => ⟨g4, 0, rfl, hk4.lt, fun j hj => by
        match j, hj with
        | 0, _ => exact ⟨_, 8, 8, hk4.cellv 0 rfl, Nat.le_refl _, bya⟩
        | 1, _ => exact ⟨_, 4, 4, hk4.cellv 1 rfl, Nat.le_refl _, byb⟩
        | 2, _ => exact ⟨_, 4, 4, hk4.cellv 2 rfl, Nat.le_refl _, byc⟩⟩
      refine hKQ.out _ _ (hs12r.trans hb) (held_mono (S' := fun w' => Below w5.heap.size w5 w') (fun w' h => (hs12r.trans hb).trans (h.mono (hs12r.trans hb).size)) _ _ _ _ ?_)
      clear hKQ KQ
      replace hB := hB.trans ((hs12r.trans hb).mono hB.size)
      have hs13r : Below w5.heap.size w5 w5 := Below.refl _ _
      try simp only [Act.put, List.setIfInBounds_toArray, List.set_cons_zero, List.set_cons_succ]
      clear hb bya byb byc hk4
      refine held_callA 6 (by rfl) (by kernel_rfl) (by rfl) (fun KQ hKQ => ?_)
      go_simp
      refine (concat_any w5 (some ⟨g4, 0, none⟩) 3 3 _ hparts rfl (by omega) (by rw [hf3.out]; simp [restL])).mono ?_
      rw [hf3.out]
      rintro e w6 ⟨v6, rfl, own6, hb⟩
      obtain ⟨A6, c6, rfl, hc6, by6, _⟩ := own6.any
      replace hPb := hPb.nx hb
      replace hq := hq.below hb hq.lt
      clear own6 hparts
      refine hKQ.out _ _ (hs13r.trans hb) (held_mono (S' := fun w' => Below w6.heap.size w6 w') (fun w' h => (hs13r.trans hb).trans (h.mono (hs13r.trans hb).size)) _ _ _ _ ?_)
      clear hKQ KQ
      replace hB := hB.trans ((hs13r.trans hb).mono hB.size)
      have hs14r : Below w6.heap.size w6 w6 := Below.refl _ _
      try simp only [Act.put, List.setIfInBounds_toArray, List.set_cons_zero, List.set_cons_succ]
      (refine held_takeA 7 (by rfl) ?_ (by kernel_rfl) (fun _ _ _ h => h) hs14r ?_ ?_; rotate_left; (focus (intro wq hSw; have hrd : ∀ b o, b < w6.heap.size → wq.cell? ⟨b, o, none⟩ = w6.cell? ⟨b, o, none⟩ := (fun b o h => hSw.cell (p := ⟨b, o, none⟩) h); go_simp; try with_reducible rfl; done)); try simp only [Act.put, List.setIfInBounds_toArray, List.set_cons_zero, List.set_cons_succ])
      clear hb
      refine wpAnyH_done (by kernel_rfl) ?_ _
      try refine NoPanic.normal ?_
      go_wp2_with fail
      have e16 : (restL fl).length = 16 := rfl
      rw [e16] at by6 hc6
      -- region 3: 0 1 2C 3 4 5M 6C 7
      try refine wp_region_noPanic ?_
      have hs15r : Below w6.heap.size w6 w6.drew := (Below.refl _ _).drew
      refine wp_region_held_drew (S := fun w' => Below w6.heap.size w6 w') (by kernel_rfl) hs15r (fun _ => ?_)
      (refine held_takeA 0 (by rfl) ?_ (by kernel_rfl) (fun _ _ _ h => h) hs15r ?_ ?_; rotate_left; (focus (intro wq hSw; refine exec_load_blk (x := .tmp 3) ?_ ?_ (hq.below hSw hq.lt) _ Tryd.underlying42 rfl (by kernel_rfl) <;> rfl)); simp only [Act.put, List.setIfInBounds_toArray, List.set_cons_zero, List.set_cons_succ])
      (refine held_takeA 1 (by rfl) ?_ (by kernel_rfl) (fun _ _ _ h => h) hs15r ?_ ?_; rotate_left; (focus (intro wq hSw; refine exec_load_blk (x := .tmp 3) ?_ ?_ (hq.below hSw hq.lt) _ Tryd.underlying42 rfl (by kernel_rfl) <;> rfl)); simp only [Act.put, List.setIfInBounds_toArray, List.set_cons_zero, List.set_cons_succ])
      (refine held_takeA 3 (by rfl) ?_ (by kernel_rfl) (fun _ _ _ h => h) hs15r ?_ ?_; rotate_left; (focus (intro wq hSw; have hrd : ∀ b o, b < w6.heap.size → wq.cell? ⟨b, o, none⟩ = w6.cell? ⟨b, o, none⟩ := (fun b o h => hSw.cell (p := ⟨b, o, none⟩) h); go_simp; try with_reducible rfl; done)); try simp only [Act.put, List.setIfInBounds_toArray, List.set_cons_zero, List.set_cons_succ])
      (refine held_takeA 4 (by rfl) ?_ (by kernel_rfl) (fun _ _ _ h => h) hs15r ?_ ?_; rotate_left; (focus (intro wq hSw; have hrd : ∀ b o, b < w6.heap.size → wq.cell? ⟨b, o, none⟩ = w6.cell? ⟨b, o, none⟩ := (fun b o h => hSw.cell (p := ⟨b, o, none⟩) h); go_simp; try with_reducible rfl; done)); try simp only [Act.put, List.setIfInBounds_toArray, List.set_cons_zero, List.set_cons_succ])
      refine held_callA 2 (by rfl) (by kernel_rfl) (by rfl) (fun KQ hKQ => ?_)
      go_simp
      refine (both_any 6 s d sp dp w6.drew).mono ?_
      rintro e w7 ⟨vb, rfl, ownb, hb⟩
      obtain ⟨A7, c7, rfl, hc7, by7, _⟩ := ownb.any
      clear ownb
      replace hPb := hPb.drew.nx hb
      replace by6 := by6.drew.nx hb
      refine hKQ.out _ _ (hs15r.trans hb) (held_mono (S' := fun w' => Below w7.heap.size w7 w') (fun w' h => (hs15r.trans hb).trans (h.mono (hs15r.trans hb).size)) _ _ _ _ ?_)
      clear hKQ KQ
      replace hq := hq.below (hs15r.trans hb) hq.lt
      replace hB := hB.trans ((hs15r.trans hb).mono hB.size)
      have hs16r : Below w7.heap.size w7 w7 := Below.refl _ _
      try simp only [Act.put, List.setIfInBounds_toArray, List.set_cons_zero, List.set_cons_succ]
      clear hb
      refine held_callA 5 (by rfl) (by kernel_rfl) (by rfl) (fun KQ hKQ => ?_)
      go_simp
      have hb := (Below.refl w7.heap.size w7).alloc (Nat.le_refl _) (.cells #[.slice A7 4 c7, .slice A6 16 c6, .slice X m k] 43)
      have hk4 := Blk.new w7 43 #[.slice A7 4 c7, .slice A6 16 c6, .slice X m k]
      replace hPb := hPb.nx hb
      replace by6 := by6.nx hb
      replace by7 := by7.nx hb
      generalize w7.alloc (.cells #[.slice A7 4 c7, .slice A6 16 c6, .slice X m k] 43) = w8 at *
      generalize w7.heap.size = g8 at hk4 ⊢
      have hparts : Parts w8 w8.heap.size (some ⟨g8, 0, none⟩) [bothL sp dp, restL fl, pl] := fun _ => ⟨g8, 0, rfl, hk4.lt, fun j hj => by
        match j, hj with
        | 0, _ => exact ⟨A7, 4, c7, hk4.cellv 0 rfl, hc7, by7⟩
        | 1, _ => exact ⟨A6, 16, c6, hk4.cellv 1 rfl, hc6, by6⟩
        | 2, _ => exact ⟨X, m, k, hk4.cellv 2 rfl, hmk, hPb⟩⟩
      refine hKQ.out _ _ (hs16r.trans hb) (held_mono (S' := fun w' => Below w8.heap.size w8 w') (fun w' h => (hs16r.trans hb).trans (h.mono (hs16r.trans hb).size)) _ _ _ _ ?_)
      clear hKQ KQ
      replace hq := hq.below (hs16r.trans hb) hq.lt
      replace hB := hB.trans ((hs16r.trans hb).mono hB.size)
      have hs17r : Below w8.heap.size w8 w8 := Below.refl _ _
      try simp only [Act.put, List.setIfInBounds_toArray, List.set_cons_zero, List.set_cons_succ]
      clear hb
      have hz5 := hB.size
      refine held_callA 6 (by rfl) (by kernel_rfl) (by rfl) (fun KQ hKQ => ?_)
      go_simp
      refine (packet_any w8 6 s d sp dp 16 (some ⟨g8, 0, none⟩) 3 3 _ hparts rfl (by omega) (tcpB sp dp fl pl) hfl.out (by rw [tcpB_len, hpl.out]; omega) (by rw [tcpB_len]; omega) s0 s1 d0 d1).mono ?_
      rintro e w9 ⟨v9, rfl, own9, hb⟩
      refine hKQ.out _ _ (hs17r.trans hb) (held_mono (S' := fun w' => Below w9.heap.size w9 w') (fun w' h => (hs17r.trans hb).trans (h.mono (hs17r.trans hb).size)) _ _ _ _ ?_)
      clear hKQ KQ
      replace hq := hq.below (hs17r.trans hb) hq.lt
      replace hB := hB.trans ((hs17r.trans hb).mono hB.size)
      have hs18r : Below w9.heap.size w9 w9 := Below.refl _ _
      try simp only [Act.put, List.setIfInBounds_toArray, List.set_cons_zero, List.set_cons_succ]
      (refine held_takeA 7 (by rfl) ?_ (by kernel_rfl) (fun _ _ _ h => h) hs18r ?_ ?_; rotate_left; (focus (intro wq hSw; have hrd : ∀ b o, b < w9.heap.size → wq.cell? ⟨b, o, none⟩ = w9.cell? ⟨b, o, none⟩ := (fun b o h => hSw.cell (p := ⟨b, o, none⟩) h); go_simp; try with_reducible rfl; done)); try simp only [Act.put, List.setIfInBounds_toArray, List.set_cons_zero, List.set_cons_succ])
      refine wpAnyH_done (by kernel_rfl) ?_ _
      try refine NoPanic.normal ?_
      go_wp2_with fail
      go_ret
      exact ⟨v9, rfl, own9.less hz5, hB⟩
  · skip
    go_simp
    have hb : Below w1.drew.heap.size w1.drew ((w1.alloc (.cells #[.int .u8 80, .int .u8 (IntKind.u8.wrap fl), .int .u8 255, .int .u8 255] 5)).drew) := (Below.refl w1.drew.heap.size w1.drew).alloc (Nat.le_refl _) (.cells #[.int .u8 80, .int .u8 (IntKind.u8.wrap fl), .int .u8 255, .int .u8 255] 5)
    have byb : Byt ((w1.alloc (.cells #[.int .u8 80, .int .u8 (IntKind.u8.wrap fl), .int .u8 255, .int .u8 255] 5)).drew) (w1.heap.size + 1) (some ⟨w1.heap.size, 0, none⟩) 4 [80, byOf fl, 255, 255] := byt_mid w1 fl
    replace byb : Byt ((w1.alloc (.cells #[.int .u8 80, .int .u8 (IntKind.u8.wrap fl), .int .u8 255, .int .u8 255] 5)).drew) ((w1.alloc (.cells #[.int .u8 80, .int .u8 (IntKind.u8.wrap fl), .int .u8 255, .int .u8 255] 5)).drew).heap.size (some ⟨w1.heap.size, 0, none⟩) 4 [80, byOf fl, 255, 255] := byb.more (by simp)
    generalize (w1.alloc (.cells #[.int .u8 80, .int .u8 (IntKind.u8.wrap fl), .int .u8 255, .int .u8 255] 5)).drew = w2 at *
    generalize w1.heap.size = gb at byb
    have hbf := ((Below.refl w1.heap.size w1).drew.trans hb)
    replace hPb := hPb.nx hbf
    replace hq := hq.below hbf hq.lt
    refine hKQ.out _ _ (hs1r.trans hb) (held_mono (S' := fun w' => Below w2.heap.size w2 w') (fun w' h => (hs1r.trans hb).trans (h.mono (hs1r.trans hb).size)) _ _ _ _ ?_)
    clear hKQ KQ
    replace hB := hB.trans ((hs1r.trans hb).mono hB.size)
    have hs19r : Below w2.heap.size w2 w2 := Below.refl _ _
    try simp only [Act.put, List.setIfInBounds_toArray, List.set_cons_zero, List.set_cons_succ]
    clear hb hbf
    refine held_two 0 4 (by rfl) (by rfl) (by kernel_rfl) (by rfl) (by rfl) (fun KQ hKQ => ?_) (fun KQ hKQ => ?_)
    · skip
      go_simp
      have hb : Below w2.heap.size w2 ((w2.alloc (.cells #[.int .u8 0, .int .u8 0, .int .u8 0, .int .u8 0, .int .u8 0, .int .u8 0, .int .u8 0, .int .u8 0] 5))) := (Below.refl w2.heap.size w2).alloc (Nat.le_refl _) (.cells #[.int .u8 0, .int .u8 0, .int .u8 0, .int .u8 0, .int .u8 0, .int .u8 0, .int .u8 0, .int .u8 0] 5)
      have bya : Byt ((w2.alloc (.cells #[.int .u8 0, .int .u8 0, .int .u8 0, .int .u8 0, .int .u8 0, .int .u8 0, .int .u8 0, .int .u8 0] 5))) (w2.heap.size + 1) (some ⟨w2.heap.size, 0, none⟩) 8 [0, 0, 0, 0, 0, 0, 0, 0] := Byt.new w2 [0, 0, 0, 0, 0, 0, 0, 0] 5 (0, 0)
      replace bya : Byt ((w2.alloc (.cells #[.int .u8 0, .int .u8 0, .int .u8 0, .int .u8 0, .int .u8 0, .int .u8 0, .int .u8 0, .int .u8 0] 5))) ((w2.alloc (.cells #[.int .u8 0, .int .u8 0, .int .u8 0, .int .u8 0, .int .u8 0, .int .u8 0, .int .u8 0, .int .u8 0] 5))).heap.size (some ⟨w2.heap.size, 0, none⟩) 8 [0, 0, 0, 0, 0, 0, 0, 0] := bya.more (by simp)
      generalize (w2.alloc (.cells #[.int .u8 0, .int .u8 0, .int .u8 0, .int .u8 0, .int .u8 0, .int .u8 0, .int .u8 0, .int .u8 0] 5)) = w3 at *
      generalize w2.heap.size = ga at bya
      have hbf := hb
      replace hPb := hPb.nx hbf
      replace byb := byb.nx hbf
      replace hq := hq.below hbf hq.lt
      refine hKQ.out _ _ (hs19r.trans hb) (held_mono (S' := fun w' => Below w3.heap.size w3 w') (fun w' h => (hs19r.trans hb).trans (h.mono (hs19r.trans hb).size)) _ _ _ _ ?_)
      clear hKQ KQ
      replace hB := hB.trans ((hs19r.trans hb).mono hB.size)
      have hs20r : Below w3.heap.size w3 w3 := Below.refl _ _
      try simp only [Act.put, List.setIfInBounds_toArray, List.set_cons_zero, List.set_cons_succ]
      clear hb hbf
      refine held_callA 4 (by rfl) (by kernel_rfl) (by rfl) (fun KQ hKQ => ?_)
      go_simp
      have hb : Below w3.heap.size w3 ((w3.alloc (.cells #[.int .u8 0, .int .u8 0, .int .u8 0, .int .u8 0] 5))) := (Below.refl w3.heap.size w3).alloc (Nat.le_refl _) (.cells #[.int .u8 0, .int .u8 0, .int .u8 0, .int .u8 0] 5)
      have byc : Byt ((w3.alloc (.cells #[.int .u8 0, .int .u8 0, .int .u8 0, .int .u8 0] 5))) (w3.heap.size + 1) (some ⟨w3.heap.size, 0, none⟩) 4 [0, 0, 0, 0] := Byt.new w3 [0, 0, 0, 0] 5 (0, 0)
      replace byc : Byt ((w3.alloc (.cells #[.int .u8 0, .int .u8 0, .int .u8 0, .int .u8 0] 5))) ((w3.alloc (.cells #[.int .u8 0, .int .u8 0, .int .u8 0, .int .u8 0] 5))).heap.size (some ⟨w3.heap.size, 0, none⟩) 4 [0, 0, 0, 0] := byc.more (by simp)
      generalize (w3.alloc (.cells #[.int .u8 0, .int .u8 0, .int .u8 0, .int .u8 0] 5)) = w4 at *
      generalize w3.heap.size = gc at byc
      have hbf := hb
      replace hPb := hPb.nx hbf
      replace byb := byb.nx hbf
      replace bya := bya.nx hbf
      replace hq := hq.below hbf hq.lt
      refine hKQ.out _ _ (hs20r.trans hb) (held_mono (S' := fun w' => Below w4.heap.size w4 w') (fun w' h => (hs20r.trans hb).trans (h.mono (hs20r.trans hb).size)) _ _ _ _ ?_)
      clear hKQ KQ
      replace hB := hB.trans ((hs20r.trans hb).mono hB.size)
      have hs21r : Below w4.heap.size w4 w4 := Below.refl _ _
      try simp only [Act.put, List.setIfInBounds_toArray, List.set_cons_zero, List.set_cons_succ]
      clear hb hbf
      refine held_callA 5 (by rfl) (by kernel_rfl) (by rfl) (fun KQ hKQ => ?_)
      go_simp
      have hb := (Below.refl w4.heap.size w4).alloc (Nat.le_refl _) (.cells #[.slice (some ⟨ga, 0, none⟩) 8 8, .slice (some ⟨gb, 0, none⟩) 4 4, .slice (some ⟨gc, 0, none⟩) 4 4] 43)
      have hk4 := Blk.new w4 43 #[.slice (some ⟨ga, 0, none⟩) 8 8, .slice (some ⟨gb, 0, none⟩) 4 4, .slice (some ⟨gc, 0, none⟩) 4 4]
      replace hPb := hPb.nx hb
      replace byb := byb.nx hb
      replace bya := bya.nx hb
      replace byc := byc.nx hb
      replace hq := hq.below hb hq.lt
      generalize w4.alloc (.cells #[.slice (some ⟨ga, 0, none⟩) 8 8, .slice (some ⟨gb, 0, none⟩) 4 4, .slice (some ⟨gc, 0, none⟩) 4 4] 43) = w5 at *
      generalize w4.heap.size = g4 at hk4 ⊢
      have hparts : Parts w5 w5.heap.size (some ⟨g4, 0, none⟩) [[0, 0, 0, 0, 0, 0, 0, 0], [80, byOf fl, 255, 255], [0, 0, 0, 0]] := fun _ => ⟨g4, 0, rfl, hk4.lt, fun j hj => by
        match j, hj with
        | 0, _ => exact ⟨_, 8, 8, hk4.cellv 0 rfl, Nat.le_refl _, bya⟩
        | 1, _ => exact ⟨_, 4, 4, hk4.cellv 1 rfl, Nat.le_refl _, byb⟩
        | 2, _ => exact ⟨_, 4, 4, hk4.cellv 2 rfl, Nat.le_refl _, byc⟩⟩
      refine hKQ.out _ _ (hs21r.trans hb) (held_mono (S' := fun w' => Below w5.heap.size w5 w') (fun w' h => (hs21r.trans hb).trans (h.mono (hs21r.trans hb).size)) _ _ _ _ ?_)
      clear hKQ KQ
      replace hB := hB.trans ((hs21r.trans hb).mono hB.size)
      have hs22r : Below w5.heap.size w5 w5 := Below.refl _ _
      try simp only [Act.put, List.setIfInBounds_toArray, List.set_cons_zero, List.set_cons_succ]
      clear hb bya byb byc hk4
      refine held_callA 6 (by rfl) (by kernel_rfl) (by rfl) (fun KQ hKQ => ?_)
      go_simp
      refine (concat_any w5 (some ⟨g4, 0, none⟩) 3 3 _ hparts rfl (by omega) (by rw [hf3.out]; simp [restL])).mono ?_
      rw [hf3.out]
      rintro e w6 ⟨v6, rfl, own6, hb⟩
      obtain ⟨A6, c6, rfl, hc6, by6, _⟩ := own6.any
      replace hPb := hPb.nx hb
      replace hq := hq.below hb hq.lt
      clear own6 hparts
      refine hKQ.out _ _ (hs22r.trans hb) (held_mono (S' := fun w' => Below w6.heap.size w6 w') (fun w' h => (hs22r.trans hb).trans (h.mono (hs22r.trans hb).size)) _ _ _ _ ?_)
      clear hKQ KQ
      replace hB := hB.trans ((hs22r.trans hb).mono hB.size)
      have hs23r : Below w6.heap.size w6 w6 := Below.refl _ _
      try simp only [Act.put, List.setIfInBounds_toArray, List.set_cons_zero, List.set_cons_succ]
      (refine held_takeA 7 (by rfl) ?_ (by kernel_rfl) (fun _ _ _ h => h) hs23r ?_ ?_; rotate_left; (focus (intro wq hSw; have hrd : ∀ b o, b < w6.heap.size → wq.cell? ⟨b, o, none⟩ = w6.cell? ⟨b, o, none⟩ := (fun b o h => hSw.cell (p := ⟨b, o, none⟩) h); go_simp; try with_reducible rfl; done)); try simp only [Act.put, List.setIfInBounds_toArray, List.set_cons_zero, List.set_cons_succ])
      clear hb
      refine wpAnyH_done (by kernel_rfl) ?_ _
      try refine NoPanic.normal ?_
      go_wp2_with fail
      have e16 : (restL fl).length = 16 := rfl
      rw [e16] at by6 hc6
      -- region 3: 0 1 2C 3 4 5M 6C 7
      try refine wp_region_noPanic ?_
      have hs24r : Below w6.heap.size w6 w6.drew := (Below.refl _ _).drew
      refine wp_region_held_drew (S := fun w' => Below w6.heap.size w6 w') (by kernel_rfl) hs24r (fun _ => ?_)
      (refine held_takeA 0 (by rfl) ?_ (by kernel_rfl) (fun _ _ _ h => h) hs24r ?_ ?_; rotate_left; (focus (intro wq hSw; refine exec_load_blk (x := .tmp 3) ?_ ?_ (hq.below hSw hq.lt) _ Tryd.underlying42 rfl (by kernel_rfl) <;> rfl)); simp only [Act.put, List.setIfInBounds_toArray, List.set_cons_zero, List.set_cons_succ])
      (refine held_takeA 1 (by rfl) ?_ (by kernel_rfl) (fun _ _ _ h => h) hs24r ?_ ?_; rotate_left; (focus (intro wq hSw; refine exec_load_blk (x := .tmp 3) ?_ ?_ (hq.below hSw hq.lt) _ Tryd.underlying42 rfl (by kernel_rfl) <;> rfl)); simp only [Act.put, List.setIfInBounds_toArray, List.set_cons_zero, List.set_cons_succ])
      (refine held_takeA 3 (by rfl) ?_ (by kernel_rfl) (fun _ _ _ h => h) hs24r ?_ ?_; rotate_left; (focus (intro wq hSw; have hrd : ∀ b o, b < w6.heap.size → wq.cell? ⟨b, o, none⟩ = w6.cell? ⟨b, o, none⟩ := (fun b o h => hSw.cell (p := ⟨b, o, none⟩) h); go_simp; try with_reducible rfl; done)); try simp only [Act.put, List.setIfInBounds_toArray, List.set_cons_zero, List.set_cons_succ])
      (refine held_takeA 4 (by rfl) ?_ (by kernel_rfl) (fun _ _ _ h => h) hs24r ?_ ?_; rotate_left; (focus (intro wq hSw; have hrd : ∀ b o, b < w6.heap.size → wq.cell? ⟨b, o, none⟩ = w6.cell? ⟨b, o, none⟩ := (fun b o h => hSw.cell (p := ⟨b, o, none⟩) h); go_simp; try with_reducible rfl; done)); try simp only [Act.put, List.setIfInBounds_toArray, List.set_cons_zero, List.set_cons_succ])
      refine held_callA 2 (by rfl) (by kernel_rfl) (by rfl) (fun KQ hKQ => ?_)
      go_simp
      refine (both_any 6 s d sp dp w6.drew).mono ?_
      rintro e w7 ⟨vb, rfl, ownb, hb⟩
      obtain ⟨A7, c7, rfl, hc7, by7, _⟩ := ownb.any
      clear ownb
      replace hPb := hPb.drew.nx hb
      replace by6 := by6.drew.nx hb
      refine hKQ.out _ _ (hs24r.trans hb) (held_mono (S' := fun w' => Below w7.heap.size w7 w') (fun w' h => (hs24r.trans hb).trans (h.mono (hs24r.trans hb).size)) _ _ _ _ ?_)
      clear hKQ KQ
      replace hq := hq.below (hs24r.trans hb) hq.lt
      replace hB := hB.trans ((hs24r.trans hb).mono hB.size)
      have hs25r : Below w7.heap.size w7 w7 := Below.refl _ _
      try simp only [Act.put, List.setIfInBounds_toArray, List.set_cons_zero, List.set_cons_succ]
      clear hb
      refine held_callA 5 (by rfl) (by kernel_rfl) (by rfl) (fun KQ hKQ => ?_)
      go_simp
      have hb := (Below.refl w7.heap.size w7).alloc (Nat.le_refl _) (.cells #[.slice A7 4 c7, .slice A6 16 c6, .slice X m k] 43)
      have hk4 := Blk.new w7 43 #[.slice A7 4 c7, .slice A6 16 c6, .slice X m k]
      replace hPb := hPb.nx hb
      replace by6 := by6.nx hb
      replace by7 := by7.nx hb
      generalize w7.alloc (.cells #[.slice A7 4 c7, .slice A6 16 c6, .slice X m k] 43) = w8 at *
      generalize w7.heap.size = g8 at hk4 ⊢
      have hparts : Parts w8 w8.heap.size (some ⟨g8, 0, none⟩) [bothL sp dp, restL fl, pl] := fun _ => ⟨g8, 0, rfl, hk4.lt, fun j hj => by
        match j, hj with
        | 0, _ => exact ⟨A7, 4, c7, hk4.cellv 0 rfl, hc7, by7⟩
        | 1, _ => exact ⟨A6, 16, c6, hk4.cellv 1 rfl, hc6, by6⟩
        | 2, _ => exact ⟨X, m, k, hk4.cellv 2 rfl, hmk, hPb⟩⟩
      refine hKQ.out _ _ (hs25r.trans hb) (held_mono (S' := fun w' => Below w8.heap.size w8 w') (fun w' h => (hs25r.trans hb).trans (h.mono (hs25r.trans hb).size)) _ _ _ _ ?_)
      clear hKQ KQ
      replace hq := hq.below (hs25r.trans hb) hq.lt
      replace hB := hB.trans ((hs25r.trans hb).mono hB.size)
      have hs26r : Below w8.heap.size w8 w8 := Below.refl _ _
      try simp only [Act.put, List.setIfInBounds_toArray, List.set_cons_zero, List.set_cons_succ]
      clear hb
      have hz5 := hB.size
      refine held_callA 6 (by rfl) (by kernel_rfl) (by rfl) (fun KQ hKQ => ?_)
      go_simp
      refine (packet_any w8 6 s d sp dp 16 (some ⟨g8, 0, none⟩) 3 3 _ hparts rfl (by omega) (tcpB sp dp fl pl) hfl.out (by rw [tcpB_len, hpl.out]; omega) (by rw [tcpB_len]; omega) s0 s1 d0 d1).mono ?_
      rintro e w9 ⟨v9, rfl, own9, hb⟩
      refine hKQ.out _ _ (hs26r.trans hb) (held_mono (S' := fun w' => Below w9.heap.size w9 w') (fun w' h => (hs26r.trans hb).trans (h.mono (hs26r.trans hb).size)) _ _ _ _ ?_)
      clear hKQ KQ
      replace hq := hq.below (hs26r.trans hb) hq.lt
      replace hB := hB.trans ((hs26r.trans hb).mono hB.size)
      have hs27r : Below w9.heap.size w9 w9 := Below.refl _ _
      try simp only [Act.put, List.setIfInBounds_toArray, List.set_cons_zero, List.set_cons_succ]
      (refine held_takeA 7 (by rfl) ?_ (by kernel_rfl) (fun _ _ _ h => h) hs27r ?_ ?_; rotate_left; (focus (intro wq hSw; have hrd : ∀ b o, b < w9.heap.size → wq.cell? ⟨b, o, none⟩ = w9.cell? ⟨b, o, none⟩ := (fun b o h => hSw.cell (p := ⟨b, o, none⟩) h); go_simp; try with_reducible rfl; done)); try simp only [Act.put, List.setIfInBounds_toArray, List.set_cons_zero, List.set_cons_succ])
      refine wpAnyH_done (by kernel_rfl) ?_ _
      try refine NoPanic.normal ?_
      go_wp2_with fail
      go_ret
      exact ⟨v9, rfl, own9.less hz5, hB⟩
    · skip
      go_simp
      have hb : Below w2.heap.size w2 ((w2.alloc (.cells #[.int .u8 0, .int .u8 0, .int .u8 0, .int .u8 0] 5))) := (Below.refl w2.heap.size w2).alloc (Nat.le_refl _) (.cells #[.int .u8 0, .int .u8 0, .int .u8 0, .int .u8 0] 5)
      have byc : Byt ((w2.alloc (.cells #[.int .u8 0, .int .u8 0, .int .u8 0, .int .u8 0] 5))) (w2.heap.size + 1) (some ⟨w2.heap.size, 0, none⟩) 4 [0, 0, 0, 0] := Byt.new w2 [0, 0, 0, 0] 5 (0, 0)
      replace byc : Byt ((w2.alloc (.cells #[.int .u8 0, .int .u8 0, .int .u8 0, .int .u8 0] 5))) ((w2.alloc (.cells #[.int .u8 0, .int .u8 0, .int .u8 0, .int .u8 0] 5))).heap.size (some ⟨w2.heap.size, 0, none⟩) 4 [0, 0, 0, 0] := byc.more (by simp)
      generalize (w2.alloc (.cells #[.int .u8 0, .int .u8 0, .int .u8 0, .int .u8 0] 5)) = w3 at *
      generalize w2.heap.size = gc at byc
      have hbf := hb
      replace hPb := hPb.nx hbf
      replace byb := byb.nx hbf
      replace hq := hq.below hbf hq.lt
      refine hKQ.out _ _ (hs19r.trans hb) (held_mono (S' := fun w' => Below w3.heap.size w3 w') (fun w' h => (hs19r.trans hb).trans (h.mono (hs19r.trans hb).size)) _ _ _ _ ?_)
      clear hKQ KQ
      replace hB := hB.trans ((hs19r.trans hb).mono hB.size)
      have hs28r : Below w3.heap.size w3 w3 := Below.refl _ _
      try simp only [Act.put, List.setIfInBounds_toArray, List.set_cons_zero, List.set_cons_succ]
      clear hb hbf
      refine held_callA 0 (by rfl) (by kernel_rfl) (by rfl) (fun KQ hKQ => ?_)
      go_simp
      have hb : Below w3.heap.size w3 ((w3.alloc (.cells #[.int .u8 0, .int .u8 0, .int .u8 0, .int .u8 0, .int .u8 0, .int .u8 0, .int .u8 0, .int .u8 0] 5))) := (Below.refl w3.heap.size w3).alloc (Nat.le_refl _) (.cells #[.int .u8 0, .int .u8 0, .int .u8 0, .int .u8 0, .int .u8 0, .int .u8 0, .int .u8 0, .int .u8 0] 5)
      have bya : Byt ((w3.alloc (.cells #[.int .u8 0, .int .u8 0, .int .u8 0, .int .u8 0, .int .u8 0, .int .u8 0, .int .u8 0, .int .u8 0] 5))) (w3.heap.size + 1) (some ⟨w3.heap.size, 0, none⟩) 8 [0, 0, 0, 0, 0, 0, 0, 0] := Byt.new w3 [0, 0, 0, 0, 0, 0, 0, 0] 5 (0, 0)
      replace bya : Byt ((w3.alloc (.cells #[.int .u8 0, .int .u8 0, .int .u8 0, .int .u8 0, .int .u8 0, .int .u8 0, .int .u8 0, .int .u8 0] 5))) ((w3.alloc (.cells #[.int .u8 0, .int .u8 0, .int .u8 0, .int .u8 0, .int .u8 0, .int .u8 0, .int .u8 0, .int .u8 0] 5))).heap.size (some ⟨w3.heap.size, 0, none⟩) 8 [0, 0, 0, 0, 0, 0, 0, 0] := bya.more (by simp)
      generalize (w3.alloc (.cells #[.int .u8 0, .int .u8 0, .int .u8 0, .int .u8 0, .int .u8 0, .int .u8 0, .int .u8 0, .int .u8 0] 5)) = w4 at *
      generalize w3.heap.size = ga at bya
      have hbf := hb
      replace hPb := hPb.nx hbf
      replace byb := byb.nx hbf
      replace byc := byc.nx hbf
      replace hq := hq.below hbf hq.lt
      refine hKQ.out _ _ (hs28r.trans hb) (held_mono (S' := fun w' => Below w4.heap.size w4 w') (fun w' h => (hs28r.trans hb).trans (h.mono (hs28r.trans hb).size)) _ _ _ _ ?_)
      clear hKQ KQ
      replace hB := hB.trans ((hs28r.trans hb).mono hB.size)
      have hs29r : Below w4.heap.size w4 w4 := Below.refl _ _
      try simp only [Act.put, List.setIfInBounds_toArray, List.set_cons_zero, List.set_cons_succ]
      clear hb hbf
      refine held_callA 5 (by rfl) (by kernel_rfl) (by rfl) (fun KQ hKQ => ?_)
      go_simp
      have hb := (Below.refl w4.heap.size w4).alloc (Nat.le_refl _) (.cells #[.slice (some ⟨ga, 0, none⟩) 8 8, .slice (some ⟨gb, 0, none⟩) 4 4, .slice (some ⟨gc, 0, none⟩) 4 4] 43)
      have hk4 := Blk.new w4 43 #[.slice (some ⟨ga, 0, none⟩) 8 8, .slice (some ⟨gb, 0, none⟩) 4 4, .slice (some ⟨gc, 0, none⟩) 4 4]
      replace hPb := hPb.nx hb
      replace byb := byb.nx hb
      replace byc := byc.nx hb
      replace bya := bya.nx hb
      replace hq := hq.below hb hq.lt
      generalize w4.alloc (.cells #[.slice (some ⟨ga, 0, none⟩) 8 8, .slice (some ⟨gb, 0, none⟩) 4 4, .slice (some ⟨gc, 0, none⟩) 4 4] 43) = w5 at *
      generalize w4.heap.size = g4 at hk4 ⊢
      have hparts : Parts w5 w5.heap.size (some ⟨g4, 0, none⟩) [[0, 0, 0, 0, 0, 0, 0, 0], [80, byOf fl, 255, 255], [0, 0, 0, 0]] := fun _ => ⟨g4, 0, rfl, hk4.lt, fun j hj => by
        match j, hj with
        | 0, _ => exact ⟨_, 8, 8, hk4.cellv 0 rfl, Nat.le_refl _, bya⟩
        | 1, _ => exact ⟨_, 4, 4, hk4.cellv 1 rfl, Nat.le_refl _, byb⟩
        | 2, _ => exact ⟨_, 4, 4, hk4.cellv 2 rfl, Nat.le_refl _, byc⟩⟩
      refine hKQ.out _ _ (hs29r.trans hb) (held_mono (S' := fun w' => Below w5.heap.size w5 w') (fun w' h => (hs29r.trans hb).trans (h.mono (hs29r.trans hb).size)) _ _ _ _ ?_)
      clear hKQ KQ
      replace hB := hB.trans ((hs29r.trans hb).mono hB.size)
      have hs30r : Below w5.heap.size w5 w5 := Below.refl _ _
      try simp only [Act.put, List.setIfInBounds_toArray, List.set_cons_zero, List.set_cons_succ]
      clear hb bya byb byc hk4
      refine held_callA 6 (by rfl) (by kernel_rfl) (by rfl) (fun KQ hKQ => ?_)
      go_simp
      refine (concat_any w5 (some ⟨g4, 0, none⟩) 3 3 _ hparts rfl (by omega) (by rw [hf3.out]; simp [restL])).mono ?_
      rw [hf3.out]
      rintro e w6 ⟨v6, rfl, own6, hb⟩
      obtain ⟨A6, c6, rfl, hc6, by6, _⟩ := own6.any
      replace hPb := hPb.nx hb
      replace hq := hq.below hb hq.lt
      clear own6 hparts
      refine hKQ.out _ _ (hs30r.trans hb) (held_mono (S' := fun w' => Below w6.heap.size w6 w') (fun w' h => (hs30r.trans hb).trans (h.mono (hs30r.trans hb).size)) _ _ _ _ ?_)
      clear hKQ KQ
      replace hB := hB.trans ((hs30r.trans hb).mono hB.size)
      have hs31r : Below w6.heap.size w6 w6 := Below.refl _ _
      try simp only [Act.put, List.setIfInBounds_toArray, List.set_cons_zero, List.set_cons_succ]
      (refine held_takeA 7 (by rfl) ?_ (by kernel_rfl) (fun _ _ _ h => h) hs31r ?_ ?_; rotate_left; (focus (intro wq hSw; have hrd : ∀ b o, b < w6.heap.size → wq.cell? ⟨b, o, none⟩ = w6.cell? ⟨b, o, none⟩ := (fun b o h => hSw.cell (p := ⟨b, o, none⟩) h); go_simp; try with_reducible rfl; done)); try simp only [Act.put, List.setIfInBounds_toArray, List.set_cons_zero, List.set_cons_succ])
      clear hb
      refine wpAnyH_done (by kernel_rfl) ?_ _
      try refine NoPanic.normal ?_
      go_wp2_with fail
      have e16 : (restL fl).length = 16 := rfl
      rw [e16] at by6 hc6
      -- region 3: 0 1 2C 3 4 5M 6C 7
      try refine wp_region_noPanic ?_
      have hs32r : Below w6.heap.size w6 w6.drew := (Below.refl _ _).drew
      refine wp_region_held_drew (S := fun w' => Below w6.heap.size w6 w') (by kernel_rfl) hs32r (fun _ => ?_)
      (refine held_takeA 0 (by rfl) ?_ (by kernel_rfl) (fun _ _ _ h => h) hs32r ?_ ?_; rotate_left; (focus (intro wq hSw; refine exec_load_blk (x := .tmp 3) ?_ ?_ (hq.below hSw hq.lt) _ Tryd.underlying42 rfl (by kernel_rfl) <;> rfl)); simp only [Act.put, List.setIfInBounds_toArray, List.set_cons_zero, List.set_cons_succ])
      (refine held_takeA 1 (by rfl) ?_ (by kernel_rfl) (fun _ _ _ h => h) hs32r ?_ ?_; rotate_left; (focus (intro wq hSw; refine exec_load_blk (x := .tmp 3) ?_ ?_ (hq.below hSw hq.lt) _ Tryd.underlying42 rfl (by kernel_rfl) <;> rfl)); simp only [Act.put, List.setIfInBounds_toArray, List.set_cons_zero, List.set_cons_succ])
      (refine held_takeA 3 (by rfl) ?_ (by kernel_rfl) (fun _ _ _ h => h) hs32r ?_ ?_; rotate_left; (focus (intro wq hSw; have hrd : ∀ b o, b < w6.heap.size → wq.cell? ⟨b, o, none⟩ = w6.cell? ⟨b, o, none⟩ := (fun b o h => hSw.cell (p := ⟨b, o, none⟩) h); go_simp; try with_reducible rfl; done)); try simp only [Act.put, List.setIfInBounds_toArray, List.set_cons_zero, List.set_cons_succ])
      (refine held_takeA 4 (by rfl) ?_ (by kernel_rfl) (fun _ _ _ h => h) hs32r ?_ ?_; rotate_left; (focus (intro wq hSw; have hrd : ∀ b o, b < w6.heap.size → wq.cell? ⟨b, o, none⟩ = w6.cell? ⟨b, o, none⟩ := (fun b o h => hSw.cell (p := ⟨b, o, none⟩) h); go_simp; try with_reducible rfl; done)); try simp only [Act.put, List.setIfInBounds_toArray, List.set_cons_zero, List.set_cons_succ])
      refine held_callA 2 (by rfl) (by kernel_rfl) (by rfl) (fun KQ hKQ => ?_)
      go_simp
      refine (both_any 6 s d sp dp w6.drew).mono ?_
      rintro e w7 ⟨vb, rfl, ownb, hb⟩
      obtain ⟨A7, c7, rfl, hc7, by7, _⟩ := ownb.any
      clear ownb
      replace hPb := hPb.drew.nx hb
      replace by6 := by6.drew.nx hb
      refine hKQ.out _ _ (hs32r.trans hb) (held_mono (S' := fun w' => Below w7.heap.size w7 w') (fun w' h => (hs32r.trans hb).trans (h.mono (hs32r.trans hb).size)) _ _ _ _ ?_)
      clear hKQ KQ
      replace hq := hq.below (hs32r.trans hb) hq.lt
      replace hB := hB.trans ((hs32r.trans hb).mono hB.size)
      have hs33r : Below w7.heap.size w7 w7 := Below.refl _ _
      try simp only [Act.put, List.setIfInBounds_toArray, List.set_cons_zero, List.set_cons_succ]
      clear hb
      refine held_callA 5 (by rfl) (by kernel_rfl) (by rfl) (fun KQ hKQ => ?_)
      go_simp
      have hb := (Below.refl w7.heap.size w7).alloc (Nat.le_refl _) (.cells #[.slice A7 4 c7, .slice A6 16 c6, .slice X m k] 43)
      have hk4 := Blk.new w7 43 #[.slice A7 4 c7, .slice A6 16 c6, .slice X m k]
      replace hPb := hPb.nx hb
      replace by6 := by6.nx hb
      replace by7 := by7.nx hb
      generalize w7.alloc (.cells #[.slice A7 4 c7, .slice A6 16 c6, .slice X m k] 43) = w8 at *
      generalize w7.heap.size = g8 at hk4 ⊢
      have hparts : Parts w8 w8.heap.size (some ⟨g8, 0, none⟩) [bothL sp dp, restL fl, pl] := fun _ => ⟨g8, 0, rfl, hk4.lt, fun j hj => by
        match j, hj with
        | 0, _ => exact ⟨A7, 4, c7, hk4.cellv 0 rfl, hc7, by7⟩
        | 1, _ => exact ⟨A6, 16, c6, hk4.cellv 1 rfl, hc6, by6⟩
        | 2, _ => exact ⟨X, m, k, hk4.cellv 2 rfl, hmk, hPb⟩⟩
      refine hKQ.out _ _ (hs33r.trans hb) (held_mono (S' := fun w' => Below w8.heap.size w8 w') (fun w' h => (hs33r.trans hb).trans (h.mono (hs33r.trans hb).size)) _ _ _ _ ?_)
      clear hKQ KQ
      replace hq := hq.below (hs33r.trans hb) hq.lt
      replace hB := hB.trans ((hs33r.trans hb).mono hB.size)
      have hs34r : Below w8.heap.size w8 w8 := Below.refl _ _
      try simp only [Act.put, List.setIfInBounds_toArray, List.set_cons_zero, List.set_cons_succ]
      clear hb
      have hz5 := hB.size
      refine held_callA 6 (by rfl) (by kernel_rfl) (by rfl) (fun KQ hKQ => ?_)
      go_simp
      refine (packet_any w8 6 s d sp dp 16 (some ⟨g8, 0, none⟩) 3 3 _ hparts rfl (by omega) (tcpB sp dp fl pl) hfl.out (by rw [tcpB_len, hpl.out]; omega) (by rw [tcpB_len]; omega) s0 s1 d0 d1).mono ?_
      rintro e w9 ⟨v9, rfl, own9, hb⟩
      refine hKQ.out _ _ (hs34r.trans hb) (held_mono (S' := fun w' => Below w9.heap.size w9 w') (fun w' h => (hs34r.trans hb).trans (h.mono (hs34r.trans hb).size)) _ _ _ _ ?_)
      clear hKQ KQ
      replace hq := hq.below (hs34r.trans hb) hq.lt
      replace hB := hB.trans ((hs34r.trans hb).mono hB.size)
      have hs35r : Below w9.heap.size w9 w9 := Below.refl _ _
      try simp only [Act.put, List.setIfInBounds_toArray, List.set_cons_zero, List.set_cons_succ]
      (refine held_takeA 7 (by rfl) ?_ (by kernel_rfl) (fun _ _ _ h => h) hs35r ?_ ?_; rotate_left; (focus (intro wq hSw; have hrd : ∀ b o, b < w9.heap.size → wq.cell? ⟨b, o, none⟩ = w9.cell? ⟨b, o, none⟩ := (fun b o h => hSw.cell (p := ⟨b, o, none⟩) h); go_simp; try with_reducible rfl; done)); try simp only [Act.put, List.setIfInBounds_toArray, List.set_cons_zero, List.set_cons_succ])
      refine wpAnyH_done (by kernel_rfl) ?_ _
      try refine NoPanic.normal ?_
      go_wp2_with fail
      go_ret
      exact ⟨v9, rfl, own9.less hz5, hB⟩
  · skip
    go_simp
    have hb : Below w1.drew.heap.size w1.drew ((w1.alloc (.cells #[.int .u8 0, .int .u8 0, .int .u8 0, .int .u8 0] 5)).drew) := (Below.refl w1.drew.heap.size w1.drew).alloc (Nat.le_refl _) (.cells #[.int .u8 0, .int .u8 0, .int .u8 0, .int .u8 0] 5)
    have byc : Byt ((w1.alloc (.cells #[.int .u8 0, .int .u8 0, .int .u8 0, .int .u8 0] 5)).drew) (w1.heap.size + 1) (some ⟨w1.heap.size, 0, none⟩) 4 [0, 0, 0, 0] := Byt.new w1 [0, 0, 0, 0] 5 (0, 0)
    replace byc : Byt ((w1.alloc (.cells #[.int .u8 0, .int .u8 0, .int .u8 0, .int .u8 0] 5)).drew) ((w1.alloc (.cells #[.int .u8 0, .int .u8 0, .int .u8 0, .int .u8 0] 5)).drew).heap.size (some ⟨w1.heap.size, 0, none⟩) 4 [0, 0, 0, 0] := byc.more (by simp)
    generalize (w1.alloc (.cells #[.int .u8 0, .int .u8 0, .int .u8 0, .int .u8 0] 5)).drew = w2 at *
    generalize w1.heap.size = gc at byc
    have hbf := ((Below.refl w1.heap.size w1).drew.trans hb)
    replace hPb := hPb.nx hbf
    replace hq := hq.below hbf hq.lt
    refine hKQ.out _ _ (hs1r.trans hb) (held_mono (S' := fun w' => Below w2.heap.size w2 w') (fun w' h => (hs1r.trans hb).trans (h.mono (hs1r.trans hb).size)) _ _ _ _ ?_)
    clear hKQ KQ
    replace hB := hB.trans ((hs1r.trans hb).mono hB.size)
    have hs36r : Below w2.heap.size w2 w2 := Below.refl _ _
    try simp only [Act.put, List.setIfInBounds_toArray, List.set_cons_zero, List.set_cons_succ]
    clear hb hbf
    refine held_two 0 3 (by rfl) (by rfl) (by kernel_rfl) (by rfl) (by rfl) (fun KQ hKQ => ?_) (fun KQ hKQ => ?_)
    · skip
      go_simp
      have hb : Below w2.heap.size w2 ((w2.alloc (.cells #[.int .u8 0, .int .u8 0, .int .u8 0, .int .u8 0, .int .u8 0, .int .u8 0, .int .u8 0, .int .u8 0] 5))) := (Below.refl w2.heap.size w2).alloc (Nat.le_refl _) (.cells #[.int .u8 0, .int .u8 0, .int .u8 0, .int .u8 0, .int .u8 0, .int .u8 0, .int .u8 0, .int .u8 0] 5)
      have bya : Byt ((w2.alloc (.cells #[.int .u8 0, .int .u8 0, .int .u8 0, .int .u8 0, .int .u8 0, .int .u8 0, .int .u8 0, .int .u8 0] 5))) (w2.heap.size + 1) (some ⟨w2.heap.size, 0, none⟩) 8 [0, 0, 0, 0, 0, 0, 0, 0] := Byt.new w2 [0, 0, 0, 0, 0, 0, 0, 0] 5 (0, 0)
      replace bya : Byt ((w2.alloc (.cells #[.int .u8 0, .int .u8 0, .int .u8 0, .int .u8 0, .int .u8 0, .int .u8 0, .int .u8 0, .int .u8 0] 5))) ((w2.alloc (.cells #[.int .u8 0, .int .u8 0, .int .u8 0, .int .u8 0, .int .u8 0, .int .u8 0, .int .u8 0, .int .u8 0] 5))).heap.size (some ⟨w2.heap.size, 0, none⟩) 8 [0, 0, 0, 0, 0, 0, 0, 0] := bya.more (by simp)
      generalize (w2.alloc (.cells #[.int .u8 0, .int .u8 0, .int .u8 0, .int .u8 0, .int .u8 0, .int .u8 0, .int .u8 0, .int .u8 0] 5)) = w3 at *
      generalize w2.heap.size = ga at bya
      have hbf := hb
      replace hPb := hPb.nx hbf
      replace byc := byc.nx hbf
      replace hq := hq.below hbf hq.lt
      refine hKQ.out _ _ (hs36r.trans hb) (held_mono (S' := fun w' => Below w3.heap.size w3 w') (fun w' h => (hs36r.trans hb).trans (h.mono (hs36r.trans hb).size)) _ _ _ _ ?_)
      clear hKQ KQ
      replace hB := hB.trans ((hs36r.trans hb).mono hB.size)
      have hs37r : Below w3.heap.size w3 w3 := Below.refl _ _
      try simp only [Act.put, List.setIfInBounds_toArray, List.set_cons_zero, List.set_cons_succ]
      clear hb hbf
      refine held_callA 3 (by rfl) (by kernel_rfl) (by rfl) (fun KQ hKQ => ?_)
      go_simp
      have hb : Below w3.heap.size w3 ((w3.alloc (.cells #[.int .u8 80, .int .u8 (IntKind.u8.wrap fl), .int .u8 255, .int .u8 255] 5))) := (Below.refl w3.heap.size w3).alloc (Nat.le_refl _) (.cells #[.int .u8 80, .int .u8 (IntKind.u8.wrap fl), .int .u8 255, .int .u8 255] 5)
      have byb : Byt ((w3.alloc (.cells #[.int .u8 80, .int .u8 (IntKind.u8.wrap fl), .int .u8 255, .int .u8 255] 5))) (w3.heap.size + 1) (some ⟨w3.heap.size, 0, none⟩) 4 [80, byOf fl, 255, 255] := byt_mid w3 fl
      replace byb : Byt ((w3.alloc (.cells #[.int .u8 80, .int .u8 (IntKind.u8.wrap fl), .int .u8 255, .int .u8 255] 5))) ((w3.alloc (.cells #[.int .u8 80, .int .u8 (IntKind.u8.wrap fl), .int .u8 255, .int .u8 255] 5))).heap.size (some ⟨w3.heap.size, 0, none⟩) 4 [80, byOf fl, 255, 255] := byb.more (by simp)
      generalize (w3.alloc (.cells #[.int .u8 80, .int .u8 (IntKind.u8.wrap fl), .int .u8 255, .int .u8 255] 5)) = w4 at *
      generalize w3.heap.size = gb at byb
      have hbf := hb
      replace hPb := hPb.nx hbf
      replace byc := byc.nx hbf
      replace bya := bya.nx hbf
      replace hq := hq.below hbf hq.lt
      refine hKQ.out _ _ (hs37r.trans hb) (held_mono (S' := fun w' => Below w4.heap.size w4 w') (fun w' h => (hs37r.trans hb).trans (h.mono (hs37r.trans hb).size)) _ _ _ _ ?_)
      clear hKQ KQ
      replace hB := hB.trans ((hs37r.trans hb).mono hB.size)
      have hs38r : Below w4.heap.size w4 w4 := Below.refl _ _
      try simp only [Act.put, List.setIfInBounds_toArray, List.set_cons_zero, List.set_cons_succ]
      clear hb hbf
      refine held_callA 5 (by rfl) (by kernel_rfl) (by rfl) (fun KQ hKQ => ?_)
      go_simp
      have hb := (Below.refl w4.heap.size w4).alloc (Nat.le_refl _) (.cells #[.slice (some ⟨ga, 0, none⟩) 8 8, .slice (some ⟨gb, 0, none⟩) 4 4, .slice (some ⟨gc, 0, none⟩) 4 4] 43)
      have hk4 := Blk.new w4 43 #[.slice (some ⟨ga, 0, none⟩) 8 8, .slice (some ⟨gb, 0, none⟩) 4 4, .slice (some ⟨gc, 0, none⟩) 4 4]
      replace hPb := hPb.nx hb
      replace byc := byc.nx hb
      replace bya := bya.nx hb
      replace byb := byb.nx hb
      replace hq := hq.below hb hq.lt
      generalize w4.alloc (.cells #[.slice (some ⟨ga, 0, none⟩) 8 8, .slice (some ⟨gb, 0, none⟩) 4 4, .slice (some ⟨gc, 0, none⟩) 4 4] 43) = w5 at *
      generalize w4.heap.size = g4 at hk4 ⊢
      have hparts : Parts w5 w5.heap.size (some ⟨g4, 0, none⟩) [[0, 0, 0, 0, 0, 0, 0, 0], [80, byOf fl, 255, 255], [0, 0, 0, 0]] := fun _ => ⟨g4, 0, rfl, hk4.lt, fun j hj => by
        match j, hj with
        | 0, _ => exact ⟨_, 8, 8, hk4.cellv 0 rfl, Nat.le_refl _, bya⟩
        | 1, _ => exact ⟨_, 4, 4, hk4.cellv 1 rfl, Nat.le_refl _, byb⟩
        | 2, _ => exact ⟨_, 4, 4, hk4.cellv 2 rfl, Nat.le_refl _, byc⟩⟩
      refine hKQ.out _ _ (hs38r.trans hb) (held_mono (S' := fun w' => Below w5.heap.size w5 w') (fun w' h => (hs38r.trans hb).trans (h.mono (hs38r.trans hb).size)) _ _ _ _ ?_)
      clear hKQ KQ
      replace hB := hB.trans ((hs38r.trans hb).mono hB.size)
      have hs39r : Below w5.heap.size w5 w5 := Below.refl _ _
      try simp only [Act.put, List.setIfInBounds_toArray, List.set_cons_zero, List.set_cons_succ]
      clear hb bya byb byc hk4
      refine held_callA 6 (by rfl) (by kernel_rfl) (by rfl) (fun KQ hKQ => ?_)
      go_simp
      refine (concat_any w5 (some ⟨g4, 0, none⟩) 3 3 _ hparts rfl (by omega) (by rw [hf3.out]; simp [restL])).mono ?_
      rw [hf3.out]
      rintro e w6 ⟨v6, rfl, own6, hb⟩
      obtain ⟨A6, c6, rfl, hc6, by6, _⟩ := own6.any
      replace hPb := hPb.nx hb
      replace hq := hq.below hb hq.lt
      clear own6 hparts
      refine hKQ.out _ _ (hs39r.trans hb) (held_mono (S' := fun w' => Below w6.heap.size w6 w') (fun w' h => (hs39r.trans hb).trans (h.mono (hs39r.trans hb).size)) _ _ _ _ ?_)
      clear hKQ KQ
      replace hB := hB.trans ((hs39r.trans hb).mono hB.size)
      have hs40r : Below w6.heap.size w6 w6 := Below.refl _ _
      try simp only [Act.put, List.setIfInBounds_toArray, List.set_cons_zero, List.set_cons_succ]
      (refine held_takeA 7 (by rfl) ?_ (by kernel_rfl) (fun _ _ _ h => h) hs40r ?_ ?_; rotate_left; (focus (intro wq hSw; have hrd : ∀ b o, b < w6.heap.size → wq.cell? ⟨b, o, none⟩ = w6.cell? ⟨b, o, none⟩ := (fun b o h => hSw.cell (p := ⟨b, o, none⟩) h); go_simp; try with_reducible rfl; done)); try simp only [Act.put, List.setIfInBounds_toArray, List.set_cons_zero, List.set_cons_succ])
      clear hb
      refine wpAnyH_done (by kernel_rfl) ?_ _
      try refine NoPanic.normal ?_
      go_wp2_with fail
      have e16 : (restL fl).length = 16 := rfl
      rw [e16] at by6 hc6
      -- region 3: 0 1 2C 3 4 5M 6C 7
      try refine wp_region_noPanic ?_
      have hs41r : Below w6.heap.size w6 w6.drew := (Below.refl _ _).drew
      refine wp_region_held_drew (S := fun w' => Below w6.heap.size w6 w') (by kernel_rfl) hs41r (fun _ => ?_)
      (refine held_takeA 0 (by rfl) ?_ (by kernel_rfl) (fun _ _ _ h => h) hs41r ?_ ?_; rotate_left; (focus (intro wq hSw; refine exec_load_blk (x := .tmp 3) ?_ ?_ (hq.below hSw hq.lt) _ Tryd.underlying42 rfl (by kernel_rfl) <;> rfl)); simp only [Act.put, List.setIfInBounds_toArray, List.set_cons_zero, List.set_cons_succ])
      (refine held_takeA 1 (by rfl) ?_ (by kernel_rfl) (fun _ _ _ h => h) hs41r ?_ ?_; rotate_left; (focus (intro wq hSw; refine exec_load_blk (x := .tmp 3) ?_ ?_ (hq.below hSw hq.lt) _ Tryd.underlying42 rfl (by kernel_rfl) <;> rfl)); simp only [Act.put, List.setIfInBounds_toArray, List.set_cons_zero, List.set_cons_succ])
      (refine held_takeA 3 (by rfl) ?_ (by kernel_rfl) (fun _ _ _ h => h) hs41r ?_ ?_; rotate_left; (focus (intro wq hSw; have hrd : ∀ b o, b < w6.heap.size → wq.cell? ⟨b, o, none⟩ = w6.cell? ⟨b, o, none⟩ := (fun b o h => hSw.cell (p := ⟨b, o, none⟩) h); go_simp; try with_reducible rfl; done)); try simp only [Act.put, List.setIfInBounds_toArray, List.set_cons_zero, List.set_cons_succ])
      (refine held_takeA 4 (by rfl) ?_ (by kernel_rfl) (fun _ _ _ h => h) hs41r ?_ ?_; rotate_left; (focus (intro wq hSw; have hrd : ∀ b o, b < w6.heap.size → wq.cell? ⟨b, o, none⟩ = w6.cell? ⟨b, o, none⟩ := (fun b o h => hSw.cell (p := ⟨b, o, none⟩) h); go_simp; try with_reducible rfl; done)); try simp only [Act.put, List.setIfInBounds_toArray, List.set_cons_zero, List.set_cons_succ])
      refine held_callA 2 (by rfl) (by kernel_rfl) (by rfl) (fun KQ hKQ => ?_)
      go_simp
      refine (both_any 6 s d sp dp w6.drew).mono ?_
      rintro e w7 ⟨vb, rfl, ownb, hb⟩
      obtain ⟨A7, c7, rfl, hc7, by7, _⟩ := ownb.any
      clear ownb
      replace hPb := hPb.drew.nx hb
      replace by6 := by6.drew.nx hb
      refine hKQ.out _ _ (hs41r.trans hb) (held_mono (S' := fun w' => Below w7.heap.size w7 w') (fun w' h => (hs41r.trans hb).trans (h.mono (hs41r.trans hb).size)) _ _ _ _ ?_)
      clear hKQ KQ
      replace hq := hq.below (hs41r.trans hb) hq.lt
      replace hB := hB.trans ((hs41r.trans hb).mono hB.size)
      have hs42r : Below w7.heap.size w7 w7 := Below.refl _ _
      try simp only [Act.put, List.setIfInBounds_toArray, List.set_cons_zero, List.set_cons_succ]
      clear hb
      refine held_callA 5 (by rfl) (by kernel_rfl) (by rfl) (fun KQ hKQ => ?_)
      go_simp
      have hb := (Below.refl w7.heap.size w7).alloc (Nat.le_refl _) (.cells #[.slice A7 4 c7, .slice A6 16 c6, .slice X m k] 43)
      have hk4 := Blk.new w7 43 #[.slice A7 4 c7, .slice A6 16 c6, .slice X m k]
      replace hPb := hPb.nx hb
      replace by6 := by6.nx hb
      replace by7 := by7.nx hb
      generalize w7.alloc (.cells #[.slice A7 4 c7, .slice A6 16 c6, .slice X m k] 43) = w8 at *
      generalize w7.heap.size = g8 at hk4 ⊢
      have hparts : Parts w8 w8.heap.size (some ⟨g8, 0, none⟩) [bothL sp dp, restL fl, pl] := fun _ => ⟨g8, 0, rfl, hk4.lt, fun j hj => by
        match j, hj with
        | 0, _ => exact ⟨A7, 4, c7, hk4.cellv 0 rfl, hc7, by7⟩
        | 1, _ => exact ⟨A6, 16, c6, hk4.cellv 1 rfl, hc6, by6⟩
        | 2, _ => exact ⟨X, m, k, hk4.cellv 2 rfl, hmk, hPb⟩⟩
      refine hKQ.out _ _ (hs42r.trans hb) (held_mono (S' := fun w' => Below w8.heap.size w8 w') (fun w' h => (hs42r.trans hb).trans (h.mono (hs42r.trans hb).size)) _ _ _ _ ?_)
      clear hKQ KQ
      replace hq := hq.below (hs42r.trans hb) hq.lt
      replace hB := hB.trans ((hs42r.trans hb).mono hB.size)
      have hs43r : Below w8.heap.size w8 w8 := Below.refl _ _
      try simp only [Act.put, List.setIfInBounds_toArray, List.set_cons_zero, List.set_cons_succ]
      clear hb
      have hz5 := hB.size
      refine held_callA 6 (by rfl) (by kernel_rfl) (by rfl) (fun KQ hKQ => ?_)
      go_simp
      refine (packet_any w8 6 s d sp dp 16 (some ⟨g8, 0, none⟩) 3 3 _ hparts rfl (by omega) (tcpB sp dp fl pl) hfl.out (by rw [tcpB_len, hpl.out]; omega) (by rw [tcpB_len]; omega) s0 s1 d0 d1).mono ?_
      rintro e w9 ⟨v9, rfl, own9, hb⟩
      refine hKQ.out _ _ (hs43r.trans hb) (held_mono (S' := fun w' => Below w9.heap.size w9 w') (fun w' h => (hs43r.trans hb).trans (h.mono (hs43r.trans hb).size)) _ _ _ _ ?_)
      clear hKQ KQ
      replace hq := hq.below (hs43r.trans hb) hq.lt
      replace hB := hB.trans ((hs43r.trans hb).mono hB.size)
      have hs44r : Below w9.heap.size w9 w9 := Below.refl _ _
      try simp only [Act.put, List.setIfInBounds_toArray, List.set_cons_zero, List.set_cons_succ]
      (refine held_takeA 7 (by rfl) ?_ (by kernel_rfl) (fun _ _ _ h => h) hs44r ?_ ?_; rotate_left; (focus (intro wq hSw; have hrd : ∀ b o, b < w9.heap.size → wq.cell? ⟨b, o, none⟩ = w9.cell? ⟨b, o, none⟩ := (fun b o h => hSw.cell (p := ⟨b, o, none⟩) h); go_simp; try with_reducible rfl; done)); try simp only [Act.put, List.setIfInBounds_toArray, List.set_cons_zero, List.set_cons_succ])
      refine wpAnyH_done (by kernel_rfl) ?_ _
      try refine NoPanic.normal ?_
      go_wp2_with fail
      go_ret
      exact ⟨v9, rfl, own9.less hz5, hB⟩
    · skip
      go_simp
      have hb : Below w2.heap.size w2 ((w2.alloc (.cells #[.int .u8 80, .int .u8 (IntKind.u8.wrap fl), .int .u8 255, .int .u8 255] 5))) := (Below.refl w2.heap.size w2).alloc (Nat.le_refl _) (.cells #[.int .u8 80, .int .u8 (IntKind.u8.wrap fl), .int .u8 255, .int .u8 255] 5)
      have byb : Byt ((w2.alloc (.cells #[.int .u8 80, .int .u8 (IntKind.u8.wrap fl), .int .u8 255, .int .u8 255] 5))) (w2.heap.size + 1) (some ⟨w2.heap.size, 0, none⟩) 4 [80, byOf fl, 255, 255] := byt_mid w2 fl
      replace byb : Byt ((w2.alloc (.cells #[.int .u8 80, .int .u8 (IntKind.u8.wrap fl), .int .u8 255, .int .u8 255] 5))) ((w2.alloc (.cells #[.int .u8 80, .int .u8 (IntKind.u8.wrap fl), .int .u8 255, .int .u8 255] 5))).heap.size (some ⟨w2.heap.size, 0, none⟩) 4 [80, byOf fl, 255, 255] := byb.more (by simp)
      generalize (w2.alloc (.cells #[.int .u8 80, .int .u8 (IntKind.u8.wrap fl), .int .u8 255, .int .u8 255] 5)) = w3 at *
      generalize w2.heap.size = gb at byb
      have hbf := hb
      replace hPb := hPb.nx hbf
      replace byc := byc.nx hbf
      replace hq := hq.below hbf hq.lt
      refine hKQ.out _ _ (hs36r.trans hb) (held_mono (S' := fun w' => Below w3.heap.size w3 w') (fun w' h => (hs36r.trans hb).trans (h.mono (hs36r.trans hb).size)) _ _ _ _ ?_)
      clear hKQ KQ
      replace hB := hB.trans ((hs36r.trans hb).mono hB.size)
      have hs45r : Below w3.heap.size w3 w3 := Below.refl _ _
      try simp only [Act.put, List.setIfInBounds_toArray, List.set_cons_zero, List.set_cons_succ]
      clear hb hbf
      refine held_callA 0 (by rfl) (by kernel_rfl) (by rfl) (fun KQ hKQ => ?_)
      go_simp
      have hb : Below w3.heap.size w3 ((w3.alloc (.cells #[.int .u8 0, .int .u8 0, .int .u8 0, .int .u8 0, .int .u8 0, .int .u8 0, .int .u8 0, .int .u8 0] 5))) := (Below.refl w3.heap.size w3).alloc (Nat.le_refl _) (.cells #[.int .u8 0, .int .u8 0, .int .u8 0, .int .u8 0, .int .u8 0, .int .u8 0, .int .u8 0, .int .u8 0] 5)
      have bya : Byt ((w3.alloc (.cells #[.int .u8 0, .int .u8 0, .int .u8 0, .int .u8 0, .int .u8 0, .int .u8 0, .int .u8 0, .int .u8 0] 5))) (w3.heap.size + 1) (some ⟨w3.heap.size, 0, none⟩) 8 [0, 0, 0, 0, 0, 0, 0, 0] := Byt.new w3 [0, 0, 0, 0, 0, 0, 0, 0] 5 (0, 0)
      replace bya : Byt ((w3.alloc (.cells #[.int .u8 0, .int .u8 0, .int .u8 0, .int .u8 0, .int .u8 0, .int .u8 0, .int .u8 0, .int .u8 0] 5))) ((w3.alloc (.cells #[.int .u8 0, .int .u8 0, .int .u8 0, .int .u8 0, .int .u8 0, .int .u8 0, .int .u8 0, .int .u8 0] 5))).heap.size (some ⟨w3.heap.size, 0, none⟩) 8 [0, 0, 0, 0, 0, 0, 0, 0] := bya.more (by simp)
      generalize (w3.alloc (.cells #[.int .u8 0, .int .u8 0, .int .u8 0, .int .u8 0, .int .u8 0, .int .u8 0, .int .u8 0, .int .u8 0] 5)) = w4 at *
      generalize w3.heap.size = ga at bya
      have hbf := hb
      replace hPb := hPb.nx hbf
      replace byc := byc.nx hbf
      replace byb := byb.nx hbf
      replace hq := hq.below hbf hq.lt
      refine hKQ.out _ _ (hs45r.trans hb) (held_mono (S' := fun w' => Below w4.heap.size w4 w') (fun w' h => (hs45r.trans hb).trans (h.mono (hs45r.trans hb).size)) _ _ _ _ ?_)
      clear hKQ KQ
      replace hB := hB.trans ((hs45r.trans hb).mono hB.size)
      have hs46r : Below w4.heap.size w4 w4 := Below.refl _ _
      try simp only [Act.put, List.setIfInBounds_toArray, List.set_cons_zero, List.set_cons_succ]
      clear hb hbf
      refine held_callA 5 (by rfl) (by kernel_rfl) (by rfl) (fun KQ hKQ => ?_)
      go_simp
      have hb := (Below.refl w4.heap.size w4).alloc (Nat.le_refl _) (.cells #[.slice (some ⟨ga, 0, none⟩) 8 8, .slice (some ⟨gb, 0, none⟩) 4 4, .slice (some ⟨gc, 0, none⟩) 4 4] 43)
      have hk4 := Blk.new w4 43 #[.slice (some ⟨ga, 0, none⟩) 8 8, .slice (some ⟨gb, 0, none⟩) 4 4, .slice (some ⟨gc, 0, none⟩) 4 4]
      replace hPb := hPb.nx hb
      replace byc := byc.nx hb
      replace byb := byb.nx hb
      replace bya := bya.nx hb
      replace hq := hq.below hb hq.lt
      generalize w4.alloc (.cells #[.slice (some ⟨ga, 0, none⟩) 8 8, .slice (some ⟨gb, 0, none⟩) 4 4, .slice (some ⟨gc, 0, none⟩) 4 4] 43) = w5 at *
      generalize w4.heap.size = g4 at hk4 ⊢
      have hparts : Parts w5 w5.heap.size (some ⟨g4, 0, none⟩) [[0, 0, 0, 0, 0, 0, 0, 0], [80, byOf fl, 255, 255], [0, 0, 0, 0]] := fun _ => ⟨g4, 0, rfl, hk4.lt, fun j hj => by
        match j, hj with
        | 0, _ => exact ⟨_, 8, 8, hk4.cellv 0 rfl, Nat.le_refl _, bya⟩
        | 1, _ => exact ⟨_, 4, 4, hk4.cellv 1 rfl, Nat.le_refl _, byb⟩
        | 2, _ => exact ⟨_, 4, 4, hk4.cellv 2 rfl, Nat.le_refl _, byc⟩⟩
      refine hKQ.out _ _ (hs46r.trans hb) (held_mono (S' := fun w' => Below w5.heap.size w5 w') (fun w' h => (hs46r.trans hb).trans (h.mono (hs46r.trans hb).size)) _ _ _ _ ?_)
      clear hKQ KQ
      replace hB := hB.trans ((hs46r.trans hb).mono hB.size)
      have hs47r : Below w5.heap.size w5 w5 := Below.refl _ _
      try simp only [Act.put, List.setIfInBounds_toArray, List.set_cons_zero, List.set_cons_succ]
      clear hb bya byb byc hk4
      refine held_callA 6 (by rfl) (by kernel_rfl) (by rfl) (fun KQ hKQ => ?_)
      go_simp
      refine (concat_any w5 (some ⟨g4, 0, none⟩) 3 3 _ hparts rfl (by omega) (by rw [hf3.out]; simp [restL])).mono ?_
      rw [hf3.out]
      rintro e w6 ⟨v6, rfl, own6, hb⟩
      obtain ⟨A6, c6, rfl, hc6, by6, _⟩ := own6.any
      replace hPb := hPb.nx hb
      replace hq := hq.below hb hq.lt
      clear own6 hparts
      refine hKQ.out _ _ (hs47r.trans hb) (held_mono (S' := fun w' => Below w6.heap.size w6 w') (fun w' h => (hs47r.trans hb).trans (h.mono (hs47r.trans hb).size)) _ _ _ _ ?_)
      clear hKQ KQ
      replace hB := hB.trans ((hs47r.trans hb).mono hB.size)
      have hs48r : Below w6.heap.size w6 w6 := Below.refl _ _
      try simp only [Act.put, List.setIfInBounds_toArray, List.set_cons_zero, List.set_cons_succ]
      (refine held_takeA 7 (by rfl) ?_ (by kernel_rfl) (fun _ _ _ h => h) hs48r ?_ ?_; rotate_left; (focus (intro wq hSw; have hrd : ∀ b o, b < w6.heap.size → wq.cell? ⟨b, o, none⟩ = w6.cell? ⟨b, o, none⟩ := (fun b o h => hSw.cell (p := ⟨b, o, none⟩) h); go_simp; try with_reducible rfl; done)); try simp only [Act.put, List.setIfInBounds_toArray, List.set_cons_zero, List.set_cons_succ])
      clear hb
      refine wpAnyH_done (by kernel_rfl) ?_ _
      try refine NoPanic.normal ?_
      go_wp2_with fail
      have e16 : (restL fl).length = 16 := rfl
      rw [e16] at by6 hc6
      -- region 3: 0 1 2C 3 4 5M 6C 7
      try refine wp_region_noPanic ?_
      have hs49r : Below w6.heap.size w6 w6.drew := (Below.refl _ _).drew
      refine wp_region_held_drew (S := fun w' => Below w6.heap.size w6 w') (by kernel_rfl) hs49r (fun _ => ?_)
      (refine held_takeA 0 (by rfl) ?_ (by kernel_rfl) (fun _ _ _ h => h) hs49r ?_ ?_; rotate_left; (focus (intro wq hSw; refine exec_load_blk (x := .tmp 3) ?_ ?_ (hq.below hSw hq.lt) _ Tryd.underlying42 rfl (by kernel_rfl) <;> rfl)); simp only [Act.put, List.setIfInBounds_toArray, List.set_cons_zero, List.set_cons_succ])
      (refine held_takeA 1 (by rfl) ?_ (by kernel_rfl) (fun _ _ _ h => h) hs49r ?_ ?_; rotate_left; (focus (intro wq hSw; refine exec_load_blk (x := .tmp 3) ?_ ?_ (hq.below hSw hq.lt) _ Tryd.underlying42 rfl (by kernel_rfl) <;> rfl)); simp only [Act.put, List.setIfInBounds_toArray, List.set_cons_zero, List.set_cons_succ])
      (refine held_takeA 3 (by rfl) ?_ (by kernel_rfl) (fun _ _ _ h => h) hs49r ?_ ?_; rotate_left; (focus (intro wq hSw; have hrd : ∀ b o, b < w6.heap.size → wq.cell? ⟨b, o, none⟩ = w6.cell? ⟨b, o, none⟩ := (fun b o h => hSw.cell (p := ⟨b, o, none⟩) h); go_simp; try with_reducible rfl; done)); try simp only [Act.put, List.setIfInBounds_toArray, List.set_cons_zero, List.set_cons_succ])
      (refine held_takeA 4 (by rfl) ?_ (by kernel_rfl) (fun _ _ _ h => h) hs49r ?_ ?_; rotate_left; (focus (intro wq hSw; have hrd : ∀ b o, b < w6.heap.size → wq.cell? ⟨b, o, none⟩ = w6.cell? ⟨b, o, none⟩ := (fun b o h => hSw.cell (p := ⟨b, o, none⟩) h); go_simp; try with_reducible rfl; done)); try simp only [Act.put, List.setIfInBounds_toArray, List.set_cons_zero, List.set_cons_succ])
      refine held_callA 2 (by rfl) (by kernel_rfl) (by rfl) (fun KQ hKQ => ?_)
      go_simp
      refine (both_any 6 s d sp dp w6.drew).mono ?_
      rintro e w7 ⟨vb, rfl, ownb, hb⟩
      obtain ⟨A7, c7, rfl, hc7, by7, _⟩ := ownb.any
      clear ownb
      replace hPb := hPb.drew.nx hb
      replace by6 := by6.drew.nx hb
      refine hKQ.out _ _ (hs49r.trans hb) (held_mono (S' := fun w' => Below w7.heap.size w7 w') (fun w' h => (hs49r.trans hb).trans (h.mono (hs49r.trans hb).size)) _ _ _ _ ?_)
      clear hKQ KQ
      replace hq := hq.below (hs49r.trans hb) hq.lt
      replace hB := hB.trans ((hs49r.trans hb).mono hB.size)
      have hs50r : Below w7.heap.size w7 w7 := Below.refl _ _
      try simp only [Act.put, List.setIfInBounds_toArray, List.set_cons_zero, List.set_cons_succ]
      clear hb
      refine held_callA 5 (by rfl) (by kernel_rfl) (by rfl) (fun KQ hKQ => ?_)
      go_simp
      have hb := (Below.refl w7.heap.size w7).alloc (Nat.le_refl _) (.cells #[.slice A7 4 c7, .slice A6 16 c6, .slice X m k] 43)
      have hk4 := Blk.new w7 43 #[.slice A7 4 c7, .slice A6 16 c6, .slice X m k]
      replace hPb := hPb.nx hb
      replace by6 := by6.nx hb
      replace by7 := by7.nx hb
      generalize w7.alloc (.cells #[.slice A7 4 c7, .slice A6 16 c6, .slice X m k] 43) = w8 at *
      generalize w7.heap.size = g8 at hk4 ⊢
      have hparts : Parts w8 w8.heap.size (some ⟨g8, 0, none⟩) [bothL sp dp, restL fl, pl] := fun _ => ⟨g8, 0, rfl, hk4.lt, fun j hj => by
        match j, hj with
        | 0, _ => exact ⟨A7, 4, c7, hk4.cellv 0 rfl, hc7, by7⟩
        | 1, _ => exact ⟨A6, 16, c6, hk4.cellv 1 rfl, hc6, by6⟩
        | 2, _ => exact ⟨X, m, k, hk4.cellv 2 rfl, hmk, hPb⟩⟩
      refine hKQ.out _ _ (hs50r.trans hb) (held_mono (S' := fun w' => Below w8.heap.size w8 w') (fun w' h => (hs50r.trans hb).trans (h.mono (hs50r.trans hb).size)) _ _ _ _ ?_)
      clear hKQ KQ
      replace hq := hq.below (hs50r.trans hb) hq.lt
      replace hB := hB.trans ((hs50r.trans hb).mono hB.size)
      have hs51r : Below w8.heap.size w8 w8 := Below.refl _ _
      try simp only [Act.put, List.setIfInBounds_toArray, List.set_cons_zero, List.set_cons_succ]
      clear hb
      have hz5 := hB.size
      refine held_callA 6 (by rfl) (by kernel_rfl) (by rfl) (fun KQ hKQ => ?_)
      go_simp
      refine (packet_any w8 6 s d sp dp 16 (some ⟨g8, 0, none⟩) 3 3 _ hparts rfl (by omega) (tcpB sp dp fl pl) hfl.out (by rw [tcpB_len, hpl.out]; omega) (by rw [tcpB_len]; omega) s0 s1 d0 d1).mono ?_
      rintro e w9 ⟨v9, rfl, own9, hb⟩
      refine hKQ.out _ _ (hs51r.trans hb) (held_mono (S' := fun w' => Below w9.heap.size w9 w') (fun w' h => (hs51r.trans hb).trans (h.mono (hs51r.trans hb).size)) _ _ _ _ ?_)
      clear hKQ KQ
      replace hq := hq.below (hs51r.trans hb) hq.lt
      replace hB := hB.trans ((hs51r.trans hb).mono hB.size)
      have hs52r : Below w9.heap.size w9 w9 := Below.refl _ _
      try simp only [Act.put, List.setIfInBounds_toArray, List.set_cons_zero, List.set_cons_succ]
      (refine held_takeA 7 (by rfl) ?_ (by kernel_rfl) (fun _ _ _ h => h) hs52r ?_ ?_; rotate_left; (focus (intro wq hSw; have hrd : ∀ b o, b < w9.heap.size → wq.cell? ⟨b, o, none⟩ = w9.cell? ⟨b, o, none⟩ := (fun b o h => hSw.cell (p := ⟨b, o, none⟩) h); go_simp; try with_reducible rfl; done)); try simp only [Act.put, List.setIfInBounds_toArray, List.set_cons_zero, List.set_cons_succ])
      refine wpAnyH_done (by kernel_rfl) ?_ _
      try refine NoPanic.normal ?_
      go_wp2_with fail
      go_ret
      exact ⟨v9, rfl, own9.less hz5, hB⟩
end Go.Proofs.YthbfnppgaaeilaaDoor
