/- ports: Udp. -/
import Derived.Test.YthbfnppgaaeilaaDoorPrtB
import Derived.Test.YthbfnppgaaeilaaDoorDraw3
namespace Go.Proofs.YthbfnppgaaeilaaDoor
set_option linter.unusedVariables false
open Go.RowKit

def udpB (sp dp : Int) (pl : List UInt8) : List UInt8 := bothL sp dp ++ (be (8 + (pl.length : Int)) 2 ++ ([0, 0] ++ pl))
theorem udpB_len (sp dp : Int) (pl : List UInt8) : (udpB sp dp pl).length = 8 + pl.length := by simp [udpB, bothL, be_len]; omega
def udpL (s d sp dp : Int) (pl : List UInt8) : List UInt8 := pktL 17 s d sp dp 6 (udpB sp dp pl)
set_option maxRecDepth 100000 in
set_option maxHeartbeats 8000000 in
theorem udp_any (w : World) (p s d sp dp : Int) (X : Option Addr) (m k : Nat) (pl : List UInt8) (hP : Byt w w.heap.size X m pl) (hmk : m ≤ k) (hm : m ≤ 12000) (s0 : 0 ≤ s) (s1 : s ≤ 4294967295) (d0 : 0 ≤ d) (d1 : d ≤ 4294967295) :
    Calls Tryd.prog 16 #[.agg #[.int .i64 p, .int .u32 s, .int .u32 d, .int .i64 sp, .int .i64 dp], .slice X m k] w fun e w' => ∃ v, e = .returned v ∧ OwnB w' w.heap.size v (udpL s d sp dp pl).length (udpL s d sp dp pl) ∧ Below w.heap.size w w' := by
  have hB := (Below.refl w.heap.size w).alloc (Nat.le_refl _) (.cells (flowV 17 s d sp dp) 42)
  have hq := Blk.new w 42 (flowV 17 s d sp dp)
  unfold flowV at hB hq
  have hi : (Tryd.prog.info? 42).map (·.size) = some 5 := by kernel_rfl
  have hPb := (hP.below hB).more hB.size
  have hmi : (m : Int) ≤ 12000 := by omega
  have hpl := hP.1
  have hfl : [bothL sp dp, be (8 + (m : Int)) 2, [0, 0], pl].flatten = udpB sp dp pl := by simp [udpB, hpl]
  replace hfl := Lib.hid hfl
  replace hpl := Lib.hid hpl
  have hw8 : IntKind.i64.wrap (8 + (m : Int)) = 8 + (m : Int) := IntWalk.i64_in _ (by omega)
  have hmk2 : ∀ w, (Instr.makeSlice 43 (.int .i64 2) (.int .i64 2)).run Tryd.prog w = .ok (.slice (some ⟨w.heap.size, 0, none⟩) 2 2) (w.alloc (.cells #[.int .u8 0, .int .u8 0] 5)) := fun w => by
    have := run_mk 2 2 (by omega) (by omega) w
    rw [show madeCells #[.int .u8 0] 2 = #[.int .u8 0, .int .u8 0] from by unfold madeCells; rw [show Array.range 2 = #[0, 1] from by decide]; simp] at this
    exact this
  go_enter Tryd.func16, Tryd.ntmps16
  go_wp2_with fail
  generalize w.alloc (.cells _ 42) = w1 at *
  have lt1 := hq.lt
  -- region 2: 0 1 2C 3 4 5 6C 7M 8 9M 10C 11
  try refine wp_region_noPanic ?_
  have hs1r : Below w1.heap.size w1 w1.drew := (Below.refl _ _).drew
  refine wp_region_held_drew (S := fun w' => Below w1.heap.size w1 w') (by kernel_rfl) hs1r (fun _ => ?_)
  (refine held_takeA 0 (by rfl) ?_ (by kernel_rfl) (fun _ _ _ h => h) hs1r ?_ ?_; rotate_left; (focus (intro wq hSw; refine exec_load_blk (x := .tmp 2) ?_ ?_ (hq.below hSw hq.lt) _ Tryd.underlying42 rfl (by kernel_rfl) <;> rfl)); simp only [Act.put, List.setIfInBounds_toArray, List.set_cons_zero, List.set_cons_succ])
  (refine held_takeA 1 (by rfl) ?_ (by kernel_rfl) (fun _ _ _ h => h) hs1r ?_ ?_; rotate_left; (focus (intro wq hSw; refine exec_load_blk (x := .tmp 2) ?_ ?_ (hq.below hSw hq.lt) _ Tryd.underlying42 rfl (by kernel_rfl) <;> rfl)); simp only [Act.put, List.setIfInBounds_toArray, List.set_cons_zero, List.set_cons_succ])
  (refine held_takeA 3 (by rfl) ?_ (by kernel_rfl) (fun _ _ _ h => h) hs1r ?_ ?_; rotate_left; (focus (intro wq hSw; have hrd : ∀ b o, b < w1.heap.size → wq.cell? ⟨b, o, none⟩ = w1.cell? ⟨b, o, none⟩ := (fun b o h => hSw.cell (p := ⟨b, o, none⟩) h); go_simp; try with_reducible rfl; done)); try simp only [Act.put, List.setIfInBounds_toArray, List.set_cons_zero, List.set_cons_succ])
  (refine held_takeA 4 (by rfl) ?_ (by kernel_rfl) (fun _ _ _ h => h) hs1r ?_ ?_; rotate_left; (focus (intro wq hSw; have hrd : ∀ b o, b < w1.heap.size → wq.cell? ⟨b, o, none⟩ = w1.cell? ⟨b, o, none⟩ := (fun b o h => hSw.cell (p := ⟨b, o, none⟩) h); go_simp; try with_reducible rfl; done)); try simp only [Act.put, List.setIfInBounds_toArray, List.set_cons_zero, List.set_cons_succ])
  (refine held_takeA 5 (by rfl) ?_ (by kernel_rfl) (fun _ _ _ h => h) hs1r ?_ ?_; rotate_left; (focus (intro wq hSw; have hrd : ∀ b o, b < w1.heap.size → wq.cell? ⟨b, o, none⟩ = w1.cell? ⟨b, o, none⟩ := (fun b o h => hSw.cell (p := ⟨b, o, none⟩) h); go_simp; try with_reducible rfl; done)); try simp only [Act.put, List.setIfInBounds_toArray, List.set_cons_zero, List.set_cons_succ])
  (refine held_takeA 8 (by rfl) ?_ (by kernel_rfl) (fun _ _ _ h => h) hs1r ?_ ?_; rotate_left; (focus (intro wq hSw; have hrd : ∀ b o, b < w1.heap.size → wq.cell? ⟨b, o, none⟩ = w1.cell? ⟨b, o, none⟩ := (fun b o h => hSw.cell (p := ⟨b, o, none⟩) h); go_simp; try with_reducible rfl; done)); try simp only [Act.put, List.setIfInBounds_toArray, List.set_cons_zero, List.set_cons_succ])
  refine held_two 2 7 (by rfl) (by rfl) (by kernel_rfl) (by rfl) (by rfl) (fun KQ hKQ => ?_) (fun KQ hKQ => ?_)
  · skip
    go_simp
    refine (both_any 17 s d sp dp w1.drew).mono ?_
    rintro e w2 ⟨vb, rfl, ownb, hb⟩
    obtain ⟨A2, c2, rfl, hc2, byb, _⟩ := ownb.any
    clear ownb
    have hbf := ((Below.refl w1.heap.size w1).drew.trans hb)
    replace hPb := hPb.nx hbf
    refine hKQ.out _ _ (hs1r.trans hb) (held_mono (S' := fun w' => Below w2.heap.size w2 w') (fun w' h => (hs1r.trans hb).trans (h.mono (hs1r.trans hb).size)) _ _ _ _ ?_)
    clear hKQ KQ
    replace hq := hq.below (hs1r.trans hb) hq.lt
    replace hB := hB.trans ((hs1r.trans hb).mono hB.size)
    have hs2r : Below w2.heap.size w2 w2 := Below.refl _ _
    try simp only [Act.put, List.setIfInBounds_toArray, List.set_cons_zero, List.set_cons_succ]
    clear hb hbf
    refine held_two 6 7 (by rfl) (by rfl) (by kernel_rfl) (by rfl) (by rfl) (fun KQ hKQ => ?_) (fun KQ hKQ => ?_)
    · skip
      go_simp
      refine (put16_any w2 none 0 0 [] 0 Byt.none_ (by omega) (by omega) (8 + (m : Int))).mono ?_
      rintro e w3 ⟨vp, rfl, ownp, hb⟩
      rw [List.nil_append, Int.emod_eq_of_lt (a := 8 + (m : Int)) (by omega) (by omega)] at ownp
      obtain ⟨A3, c3, rfl, hc3, byp, _⟩ := ownp.any
      clear ownp
      have hbf := hb
      replace hPb := hPb.nx hbf
      replace byb := byb.nx hbf
      refine hKQ.out _ _ (hs2r.trans hb) (held_mono (S' := fun w' => Below w3.heap.size w3 w') (fun w' h => (hs2r.trans hb).trans (h.mono (hs2r.trans hb).size)) _ _ _ _ ?_)
      clear hKQ KQ
      replace hq := hq.below (hs2r.trans hb) hq.lt
      replace hB := hB.trans ((hs2r.trans hb).mono hB.size)
      have hs3r : Below w3.heap.size w3 w3 := Below.refl _ _
      try simp only [Act.put, List.setIfInBounds_toArray, List.set_cons_zero, List.set_cons_succ]
      clear hb hbf
      refine held_callA 7 (by rfl) (by kernel_rfl) (by rfl) (fun KQ hKQ => ?_)
      go_simp
      have hb : Below w3.heap.size w3 ((w3.alloc (.cells #[.int .u8 0, .int .u8 0] 5))) := (Below.refl w3.heap.size w3).alloc (Nat.le_refl _) (.cells #[.int .u8 0, .int .u8 0] 5)
      have byz : Byt ((w3.alloc (.cells #[.int .u8 0, .int .u8 0] 5))) (w3.heap.size + 1) (some ⟨w3.heap.size, 0, none⟩) 2 [0, 0] := Byt.new w3 [0, 0] 5 (0, 0)
      replace byz : Byt ((w3.alloc (.cells #[.int .u8 0, .int .u8 0] 5))) ((w3.alloc (.cells #[.int .u8 0, .int .u8 0] 5))).heap.size (some ⟨w3.heap.size, 0, none⟩) 2 [0, 0] := byz.more (by simp)
      generalize (w3.alloc (.cells #[.int .u8 0, .int .u8 0] 5)) = w4 at *
      generalize w3.heap.size = gz at byz
      have hbf := hb
      replace hPb := hPb.nx hbf
      replace byb := byb.nx hbf
      replace byp := byp.nx hbf
      refine hKQ.out _ _ (hs3r.trans hb) (held_mono (S' := fun w' => Below w4.heap.size w4 w') (fun w' h => (hs3r.trans hb).trans (h.mono (hs3r.trans hb).size)) _ _ _ _ ?_)
      clear hKQ KQ
      replace hq := hq.below (hs3r.trans hb) hq.lt
      replace hB := hB.trans ((hs3r.trans hb).mono hB.size)
      have hs4r : Below w4.heap.size w4 w4 := Below.refl _ _
      try simp only [Act.put, List.setIfInBounds_toArray, List.set_cons_zero, List.set_cons_succ]
      clear hb hbf
      refine held_callA 9 (by rfl) (by kernel_rfl) (by rfl) (fun KQ hKQ => ?_)
      go_simp
      have hb := (Below.refl w4.heap.size w4).alloc (Nat.le_refl _) (.cells #[.slice A2 4 c2, .slice A3 2 c3, .slice (some ⟨gz, 0, none⟩) 2 2, .slice X m k] 43)
      have hk4 := Blk.new w4 43 #[.slice A2 4 c2, .slice A3 2 c3, .slice (some ⟨gz, 0, none⟩) 2 2, .slice X m k]
      replace hPb := hPb.nx hb
      replace byb := byb.nx hb
      replace byp := byp.nx hb
      replace byz := byz.nx hb
      generalize w4.alloc (.cells #[.slice A2 4 c2, .slice A3 2 c3, .slice (some ⟨gz, 0, none⟩) 2 2, .slice X m k] 43) = w5 at *
      generalize w4.heap.size = g4 at hk4 ⊢
      have hparts : Parts w5 w5.heap.size (some ⟨g4, 0, none⟩) [bothL sp dp, be (8 + (m : Int)) 2, [0, 0], pl] := fun _ => ⟨g4, 0, rfl, hk4.lt, fun j hj => by
        match j, hj with
        | 0, _ => exact ⟨A2, 4, c2, hk4.cellv 0 rfl, hc2, byb⟩
        | 1, _ => exact ⟨A3, 2, c3, hk4.cellv 1 rfl, hc3, byp⟩
        | 2, _ => exact ⟨_, 2, 2, hk4.cellv 2 rfl, Nat.le_refl _, byz⟩
        | 3, _ => exact ⟨X, m, k, hk4.cellv 3 rfl, hmk, hPb⟩⟩
      refine hKQ.out _ _ (hs4r.trans hb) (held_mono (S' := fun w' => Below w5.heap.size w5 w') (fun w' h => (hs4r.trans hb).trans (h.mono (hs4r.trans hb).size)) _ _ _ _ ?_)
      clear hKQ KQ
      replace hq := hq.below (hs4r.trans hb) hq.lt
      replace hB := hB.trans ((hs4r.trans hb).mono hB.size)
      have hs5r : Below w5.heap.size w5 w5 := Below.refl _ _
      try simp only [Act.put, List.setIfInBounds_toArray, List.set_cons_zero, List.set_cons_succ]
      have hz5 := hB.size
      refine held_callA 10 (by rfl) (by kernel_rfl) (by rfl) (fun KQ hKQ => ?_)
      go_simp
      refine (packet_any w5 17 s d sp dp 6 (some ⟨g4, 0, none⟩) 4 4 _ hparts rfl (by omega) (udpB sp dp pl) hfl.out (by rw [udpB_len, hpl.out]; omega) (by rw [udpB_len]; omega) s0 s1 d0 d1).mono ?_
      rintro e w6 ⟨v6, rfl, own6, hb6⟩
      refine hKQ.out _ _ (hs5r.trans hb6) (held_mono (S' := fun w' => Below w6.heap.size w6 w') (fun w' h => (hs5r.trans hb6).trans (h.mono (hs5r.trans hb6).size)) _ _ _ _ ?_)
      clear hKQ KQ
      replace hq := hq.below (hs5r.trans hb6) hq.lt
      replace hB := hB.trans ((hs5r.trans hb6).mono hB.size)
      have hs6r : Below w6.heap.size w6 w6 := Below.refl _ _
      try simp only [Act.put, List.setIfInBounds_toArray, List.set_cons_zero, List.set_cons_succ]
      (refine held_takeA 11 (by rfl) ?_ (by kernel_rfl) (fun _ _ _ h => h) hs6r ?_ ?_; rotate_left; (focus (intro wq hSw; have hrd : ∀ b o, b < w6.heap.size → wq.cell? ⟨b, o, none⟩ = w6.cell? ⟨b, o, none⟩ := (fun b o h => hSw.cell (p := ⟨b, o, none⟩) h); go_simp; try with_reducible rfl; done)); try simp only [Act.put, List.setIfInBounds_toArray, List.set_cons_zero, List.set_cons_succ])
      refine wpAnyH_done (by kernel_rfl) ?_ _
      try refine NoPanic.normal ?_
      go_wp2_with fail
      go_ret
      exact ⟨v6, rfl, own6.less hz5, hB⟩
    · skip
      go_simp
      have hb : Below w2.heap.size w2 ((w2.alloc (.cells #[.int .u8 0, .int .u8 0] 5))) := (Below.refl w2.heap.size w2).alloc (Nat.le_refl _) (.cells #[.int .u8 0, .int .u8 0] 5)
      have byz : Byt ((w2.alloc (.cells #[.int .u8 0, .int .u8 0] 5))) (w2.heap.size + 1) (some ⟨w2.heap.size, 0, none⟩) 2 [0, 0] := Byt.new w2 [0, 0] 5 (0, 0)
      replace byz : Byt ((w2.alloc (.cells #[.int .u8 0, .int .u8 0] 5))) ((w2.alloc (.cells #[.int .u8 0, .int .u8 0] 5))).heap.size (some ⟨w2.heap.size, 0, none⟩) 2 [0, 0] := byz.more (by simp)
      generalize (w2.alloc (.cells #[.int .u8 0, .int .u8 0] 5)) = w3 at *
      generalize w2.heap.size = gz at byz
      have hbf := hb
      replace hPb := hPb.nx hbf
      replace byb := byb.nx hbf
      refine hKQ.out _ _ (hs2r.trans hb) (held_mono (S' := fun w' => Below w3.heap.size w3 w') (fun w' h => (hs2r.trans hb).trans (h.mono (hs2r.trans hb).size)) _ _ _ _ ?_)
      clear hKQ KQ
      replace hq := hq.below (hs2r.trans hb) hq.lt
      replace hB := hB.trans ((hs2r.trans hb).mono hB.size)
      have hs7r : Below w3.heap.size w3 w3 := Below.refl _ _
      try simp only [Act.put, List.setIfInBounds_toArray, List.set_cons_zero, List.set_cons_succ]
      clear hb hbf
      refine held_callA 6 (by rfl) (by kernel_rfl) (by rfl) (fun KQ hKQ => ?_)
      go_simp
      refine (put16_any w3 none 0 0 [] 0 Byt.none_ (by omega) (by omega) (8 + (m : Int))).mono ?_
      rintro e w4 ⟨vp, rfl, ownp, hb⟩
      rw [List.nil_append, Int.emod_eq_of_lt (a := 8 + (m : Int)) (by omega) (by omega)] at ownp
      obtain ⟨A3, c3, rfl, hc3, byp, _⟩ := ownp.any
      clear ownp
      have hbf := hb
      replace hPb := hPb.nx hbf
      replace byb := byb.nx hbf
      replace byz := byz.nx hbf
      refine hKQ.out _ _ (hs7r.trans hb) (held_mono (S' := fun w' => Below w4.heap.size w4 w') (fun w' h => (hs7r.trans hb).trans (h.mono (hs7r.trans hb).size)) _ _ _ _ ?_)
      clear hKQ KQ
      replace hq := hq.below (hs7r.trans hb) hq.lt
      replace hB := hB.trans ((hs7r.trans hb).mono hB.size)
      have hs8r : Below w4.heap.size w4 w4 := Below.refl _ _
      try simp only [Act.put, List.setIfInBounds_toArray, List.set_cons_zero, List.set_cons_succ]
      clear hb hbf
      refine held_callA 9 (by rfl) (by kernel_rfl) (by rfl) (fun KQ hKQ => ?_)
      go_simp
      have hb := (Below.refl w4.heap.size w4).alloc (Nat.le_refl _) (.cells #[.slice A2 4 c2, .slice A3 2 c3, .slice (some ⟨gz, 0, none⟩) 2 2, .slice X m k] 43)
      have hk4 := Blk.new w4 43 #[.slice A2 4 c2, .slice A3 2 c3, .slice (some ⟨gz, 0, none⟩) 2 2, .slice X m k]
      replace hPb := hPb.nx hb
      replace byb := byb.nx hb
      replace byz := byz.nx hb
      replace byp := byp.nx hb
      generalize w4.alloc (.cells #[.slice A2 4 c2, .slice A3 2 c3, .slice (some ⟨gz, 0, none⟩) 2 2, .slice X m k] 43) = w5 at *
      generalize w4.heap.size = g4 at hk4 ⊢
      have hparts : Parts w5 w5.heap.size (some ⟨g4, 0, none⟩) [bothL sp dp, be (8 + (m : Int)) 2, [0, 0], pl] := fun _ => ⟨g4, 0, rfl, hk4.lt, fun j hj => by
        match j, hj with
        | 0, _ => exact ⟨A2, 4, c2, hk4.cellv 0 rfl, hc2, byb⟩
        | 1, _ => exact ⟨A3, 2, c3, hk4.cellv 1 rfl, hc3, byp⟩
        | 2, _ => exact ⟨_, 2, 2, hk4.cellv 2 rfl, Nat.le_refl _, byz⟩
        | 3, _ => exact ⟨X, m, k, hk4.cellv 3 rfl, hmk, hPb⟩⟩
      refine hKQ.out _ _ (hs8r.trans hb) (held_mono (S' := fun w' => Below w5.heap.size w5 w') (fun w' h => (hs8r.trans hb).trans (h.mono (hs8r.trans hb).size)) _ _ _ _ ?_)
      clear hKQ KQ
      replace hq := hq.below (hs8r.trans hb) hq.lt
      replace hB := hB.trans ((hs8r.trans hb).mono hB.size)
      have hs9r : Below w5.heap.size w5 w5 := Below.refl _ _
      try simp only [Act.put, List.setIfInBounds_toArray, List.set_cons_zero, List.set_cons_succ]
      have hz5 := hB.size
      refine held_callA 10 (by rfl) (by kernel_rfl) (by rfl) (fun KQ hKQ => ?_)
      go_simp
      refine (packet_any w5 17 s d sp dp 6 (some ⟨g4, 0, none⟩) 4 4 _ hparts rfl (by omega) (udpB sp dp pl) hfl.out (by rw [udpB_len, hpl.out]; omega) (by rw [udpB_len]; omega) s0 s1 d0 d1).mono ?_
      rintro e w6 ⟨v6, rfl, own6, hb6⟩
      refine hKQ.out _ _ (hs9r.trans hb6) (held_mono (S' := fun w' => Below w6.heap.size w6 w') (fun w' h => (hs9r.trans hb6).trans (h.mono (hs9r.trans hb6).size)) _ _ _ _ ?_)
      clear hKQ KQ
      replace hq := hq.below (hs9r.trans hb6) hq.lt
      replace hB := hB.trans ((hs9r.trans hb6).mono hB.size)
      have hs10r : Below w6.heap.size w6 w6 := Below.refl _ _
      try simp only [Act.put, List.setIfInBounds_toArray, List.set_cons_zero, List.set_cons_succ]
      (refine held_takeA 11 (by rfl) ?_ (by kernel_rfl) (fun _ _ _ h => h) hs10r ?_ ?_; rotate_left; (focus (intro wq hSw; have hrd : ∀ b o, b < w6.heap.size → wq.cell? ⟨b, o, none⟩ = w6.cell? ⟨b, o, none⟩ := (fun b o h => hSw.cell (p := ⟨b, o, none⟩) h); go_simp; try with_reducible rfl; done)); try simp only [Act.put, List.setIfInBounds_toArray, List.set_cons_zero, List.set_cons_succ])
      refine wpAnyH_done (by kernel_rfl) ?_ _
      try refine NoPanic.normal ?_
      go_wp2_with fail
      go_ret
      exact ⟨v6, rfl, own6.less hz5, hB⟩
  · skip
    go_simp
    have hb : Below w1.drew.heap.size w1.drew ((w1.alloc (.cells #[.int .u8 0, .int .u8 0] 5)).drew) := (Below.refl w1.drew.heap.size w1.drew).alloc (Nat.le_refl _) (.cells #[.int .u8 0, .int .u8 0] 5)
    have byz : Byt ((w1.alloc (.cells #[.int .u8 0, .int .u8 0] 5)).drew) (w1.heap.size + 1) (some ⟨w1.heap.size, 0, none⟩) 2 [0, 0] := Byt.new w1 [0, 0] 5 (0, 0)
    replace byz : Byt ((w1.alloc (.cells #[.int .u8 0, .int .u8 0] 5)).drew) ((w1.alloc (.cells #[.int .u8 0, .int .u8 0] 5)).drew).heap.size (some ⟨w1.heap.size, 0, none⟩) 2 [0, 0] := byz.more (by simp)
    generalize (w1.alloc (.cells #[.int .u8 0, .int .u8 0] 5)).drew = w2 at *
    generalize w1.heap.size = gz at byz
    have hbf := ((Below.refl w1.heap.size w1).drew.trans hb)
    replace hPb := hPb.nx hbf
    refine hKQ.out _ _ (hs1r.trans hb) (held_mono (S' := fun w' => Below w2.heap.size w2 w') (fun w' h => (hs1r.trans hb).trans (h.mono (hs1r.trans hb).size)) _ _ _ _ ?_)
    clear hKQ KQ
    replace hq := hq.below (hs1r.trans hb) hq.lt
    replace hB := hB.trans ((hs1r.trans hb).mono hB.size)
    have hs11r : Below w2.heap.size w2 w2 := Below.refl _ _
    try simp only [Act.put, List.setIfInBounds_toArray, List.set_cons_zero, List.set_cons_succ]
    clear hb hbf
    refine held_callA 2 (by rfl) (by kernel_rfl) (by rfl) (fun KQ hKQ => ?_)
    go_simp
    refine (both_any 17 s d sp dp w2).mono ?_
    rintro e w3 ⟨vb, rfl, ownb, hb⟩
    obtain ⟨A2, c2, rfl, hc2, byb, _⟩ := ownb.any
    clear ownb
    have hbf := hb
    replace hPb := hPb.nx hbf
    replace byz := byz.nx hbf
    refine hKQ.out _ _ (hs11r.trans hb) (held_mono (S' := fun w' => Below w3.heap.size w3 w') (fun w' h => (hs11r.trans hb).trans (h.mono (hs11r.trans hb).size)) _ _ _ _ ?_)
    clear hKQ KQ
    replace hq := hq.below (hs11r.trans hb) hq.lt
    replace hB := hB.trans ((hs11r.trans hb).mono hB.size)
    have hs12r : Below w3.heap.size w3 w3 := Below.refl _ _
    try simp only [Act.put, List.setIfInBounds_toArray, List.set_cons_zero, List.set_cons_succ]
    clear hb hbf
    refine held_callA 6 (by rfl) (by kernel_rfl) (by rfl) (fun KQ hKQ => ?_)
    go_simp
    refine (put16_any w3 none 0 0 [] 0 Byt.none_ (by omega) (by omega) (8 + (m : Int))).mono ?_
    rintro e w4 ⟨vp, rfl, ownp, hb⟩
    rw [List.nil_append, Int.emod_eq_of_lt (a := 8 + (m : Int)) (by omega) (by omega)] at ownp
    obtain ⟨A3, c3, rfl, hc3, byp, _⟩ := ownp.any
    clear ownp
    have hbf := hb
    replace hPb := hPb.nx hbf
    replace byz := byz.nx hbf
    replace byb := byb.nx hbf
    refine hKQ.out _ _ (hs12r.trans hb) (held_mono (S' := fun w' => Below w4.heap.size w4 w') (fun w' h => (hs12r.trans hb).trans (h.mono (hs12r.trans hb).size)) _ _ _ _ ?_)
    clear hKQ KQ
    replace hq := hq.below (hs12r.trans hb) hq.lt
    replace hB := hB.trans ((hs12r.trans hb).mono hB.size)
    have hs13r : Below w4.heap.size w4 w4 := Below.refl _ _
    try simp only [Act.put, List.setIfInBounds_toArray, List.set_cons_zero, List.set_cons_succ]
    clear hb hbf
    refine held_callA 9 (by rfl) (by kernel_rfl) (by rfl) (fun KQ hKQ => ?_)
    go_simp
    have hb := (Below.refl w4.heap.size w4).alloc (Nat.le_refl _) (.cells #[.slice A2 4 c2, .slice A3 2 c3, .slice (some ⟨gz, 0, none⟩) 2 2, .slice X m k] 43)
    have hk4 := Blk.new w4 43 #[.slice A2 4 c2, .slice A3 2 c3, .slice (some ⟨gz, 0, none⟩) 2 2, .slice X m k]
    replace hPb := hPb.nx hb
    replace byz := byz.nx hb
    replace byb := byb.nx hb
    replace byp := byp.nx hb
    generalize w4.alloc (.cells #[.slice A2 4 c2, .slice A3 2 c3, .slice (some ⟨gz, 0, none⟩) 2 2, .slice X m k] 43) = w5 at *
    generalize w4.heap.size = g4 at hk4 ⊢
    have hparts : Parts w5 w5.heap.size (some ⟨g4, 0, none⟩) [bothL sp dp, be (8 + (m : Int)) 2, [0, 0], pl] := fun _ => ⟨g4, 0, rfl, hk4.lt, fun j hj => by
      match j, hj with
      | 0, _ => exact ⟨A2, 4, c2, hk4.cellv 0 rfl, hc2, byb⟩
      | 1, _ => exact ⟨A3, 2, c3, hk4.cellv 1 rfl, hc3, byp⟩
      | 2, _ => exact ⟨_, 2, 2, hk4.cellv 2 rfl, Nat.le_refl _, byz⟩
      | 3, _ => exact ⟨X, m, k, hk4.cellv 3 rfl, hmk, hPb⟩⟩
    refine hKQ.out _ _ (hs13r.trans hb) (held_mono (S' := fun w' => Below w5.heap.size w5 w') (fun w' h => (hs13r.trans hb).trans (h.mono (hs13r.trans hb).size)) _ _ _ _ ?_)
    clear hKQ KQ
    replace hq := hq.below (hs13r.trans hb) hq.lt
    replace hB := hB.trans ((hs13r.trans hb).mono hB.size)
    have hs14r : Below w5.heap.size w5 w5 := Below.refl _ _
    try simp only [Act.put, List.setIfInBounds_toArray, List.set_cons_zero, List.set_cons_succ]
    have hz5 := hB.size
    refine held_callA 10 (by rfl) (by kernel_rfl) (by rfl) (fun KQ hKQ => ?_)
    go_simp
    refine (packet_any w5 17 s d sp dp 6 (some ⟨g4, 0, none⟩) 4 4 _ hparts rfl (by omega) (udpB sp dp pl) hfl.out (by rw [udpB_len, hpl.out]; omega) (by rw [udpB_len]; omega) s0 s1 d0 d1).mono ?_
    rintro e w6 ⟨v6, rfl, own6, hb6⟩
    refine hKQ.out _ _ (hs14r.trans hb6) (held_mono (S' := fun w' => Below w6.heap.size w6 w') (fun w' h => (hs14r.trans hb6).trans (h.mono (hs14r.trans hb6).size)) _ _ _ _ ?_)
    clear hKQ KQ
    replace hq := hq.below (hs14r.trans hb6) hq.lt
    replace hB := hB.trans ((hs14r.trans hb6).mono hB.size)
    have hs15r : Below w6.heap.size w6 w6 := Below.refl _ _
    try simp only [Act.put, List.setIfInBounds_toArray, List.set_cons_zero, List.set_cons_succ]
    (refine held_takeA 11 (by rfl) ?_ (by kernel_rfl) (fun _ _ _ h => h) hs15r ?_ ?_; rotate_left; (focus (intro wq hSw; have hrd : ∀ b o, b < w6.heap.size → wq.cell? ⟨b, o, none⟩ = w6.cell? ⟨b, o, none⟩ := (fun b o h => hSw.cell (p := ⟨b, o, none⟩) h); go_simp; try with_reducible rfl; done)); try simp only [Act.put, List.setIfInBounds_toArray, List.set_cons_zero, List.set_cons_succ])
    refine wpAnyH_done (by kernel_rfl) ?_ _
    try refine NoPanic.normal ?_
    go_wp2_with fail
    go_ret
    exact ⟨v6, rfl, own6.less hz5, hB⟩
end Go.Proofs.YthbfnppgaaeilaaDoor
