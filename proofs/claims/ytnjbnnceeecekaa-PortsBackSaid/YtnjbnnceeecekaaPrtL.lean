/- ports: PortsBack. -/
import Derived.Test.YtnjbnnceeecekaaPrtK
namespace Go.Proofs.Ytnjbnnceeecekaa
set_option linter.unusedVariables false
open Go.RowKit

theorem strB_list (l : List UInt8) : (strB l).toList = l := by
  rw [Lib.toList_data]; simp [strB]
theorem flowL_inj {p s d sp dp p' s' d' sp' dp' : Int} (hg : goodF p sp dp = true) (hg' : goodF p' sp' dp' = true) (s0 : 0 ≤ s) (s1 : s ≤ 4294967295) (d0 : 0 ≤ d) (d1 : d ≤ 4294967295)
    (s0' : 0 ≤ s') (s1' : s' ≤ 4294967295) (d0' : 0 ≤ d') (d1' : d' ≤ 4294967295) (h : flowL p s d sp dp = flowL p' s' d' sp' dp') : p = p' ∧ s = s' ∧ d = d' ∧ sp = sp' ∧ dp = dp' := by
  obtain ⟨g1, g2, g3⟩ := goodF_ports hg
  obtain ⟨k1, k2, k3⟩ := goodF_ports hg'
  have e : ∀ j, byAt (flowL p s d sp dp) j = byAt (flowL p' s' d' sp' dp') j := fun j => by rw [h]
  have be4 : ∀ x : Int, be x 4 = [byOf (x / 16777216), byOf (x / 65536), byOf (x / 256), byOf x] := fun x => by simp [be]
  have e0 := e 0
  have e1 := e 1
  have e2 := e 2
  have e3 := e 3
  have e4 := e 4
  have e5 := e 5
  have e6 := e 6
  have e7 := e 7
  have e8 := e 8
  have e9 := e 9
  have e10 := e 10
  have e11 := e 11
  have e12 := e 12
  simp only [flowL, bothL, be2, be4, List.cons_append, List.nil_append, byAt_cons0, byAt_consS, byOf_val] at e0 e1 e2 e3 e4 e5 e6 e7 e8 e9 e10 e11 e12
  refine ⟨by omega, by omega, by omega, by omega, by omega⟩
theorem flow_ne {α : Type} {p s d sp dp gp gs gd gq gr : Int} {x y : α} (h : ¬ (p = gp ∧ s = gs ∧ d = gd ∧ sp = gq ∧ dp = gr)) :
    (if p = gp then if s = gs then if d = gd then if sp = gq then if dp = gr then x else y else y else y else y else y) = y := by
  by_cases h1 : p = gp
  · by_cases h2 : s = gs
    · by_cases h3 : d = gd
      · by_cases h4 : sp = gq
        · rw [if_pos h1, if_pos h2, if_pos h3, if_pos h4, if_neg (fun h5 => h ⟨h1, h2, h3, h4, h5⟩)]
        · rw [if_pos h1, if_pos h2, if_pos h3, if_neg h4]
      · rw [if_pos h1, if_pos h2, if_neg h3]
    · rw [if_pos h1, if_neg h2]
  · rw [if_neg h1]
set_option maxRecDepth 100000 in
set_option maxHeartbeats 16000000 in
theorem back5_walk (p s d sp dp gp gs gd gq gr : Int) (A : Option Addr) (n c : Nat) (l : List UInt8) (w : World) (w0 : (Lit.int .i64 p).wf = true) (w1 : (Lit.int .u32 s).wf = true) (w2 : (Lit.int .u32 d).wf = true) (w3 : (Lit.int .i64 sp).wf = true) (w4 : (Lit.int .i64 dp).wf = true)
    (v0 : (Lit.int .i64 gp).wf = true) (v1 : (Lit.int .u32 gs).wf = true) (v2 : (Lit.int .u32 gd).wf = true) (v3 : (Lit.int .i64 gq).wf = true) (v4 : (Lit.int .i64 gr).wf = true) (hc : n ≤ c) (hc2 : c ≤ maxLen) (hI : Byt w w.heap.size A n l) :
    Calls Try.prog 5 #[.agg #[.int .i64 p, .int .u32 s, .int .u32 d, .int .i64 sp, .int .i64 dp], .agg #[.int .i64 gp, .int .u32 gs, .int .u32 gd, .int .i64 gq, .int .i64 gr], .slice A n c] w fun e w' => e = .returned (.bool true) ∧ Below w.heap.size w w' := by
  obtain ⟨s0, s1⟩ := bounds_u32 w1
  obtain ⟨d0, d1⟩ := bounds_u32 w2
  obtain ⟨s0', s1'⟩ := bounds_u32 v1
  obtain ⟨d0', d1'⟩ := bounds_u32 v2
  clear w0 w1 w2 w3 w4 v0 v1 v2 v3 v4
  have hi : (Try.prog.info? 31).map (·.size) = some 5 := by kernel_rfl
  have hB0 := (Below.refl w.heap.size w).alloc (Nat.le_refl _) (.cells #[.int .i64 p, .int .u32 s, .int .u32 d, .int .i64 sp, .int .i64 dp] 31)
  have hq0 := Blk.new w 31 #[.int .i64 p, .int .u32 s, .int .u32 d, .int .i64 sp, .int .i64 dp]
  generalize hx0 : w.alloc (.cells #[.int .i64 p, .int .u32 s, .int .u32 d, .int .i64 sp, .int .i64 dp] 31) = x0 at hB0 hq0
  have hB := hB0.alloc hB0.size (.cells #[.int .i64 gp, .int .u32 gs, .int .u32 gd, .int .i64 gq, .int .i64 gr] 31)
  have hq := hq0.alloc (.cells #[.int .i64 gp, .int .u32 gs, .int .u32 gd, .int .i64 gq, .int .i64 gr] 31)
  have hr := Blk.new x0 31 #[.int .i64 gp, .int .u32 gs, .int .u32 gd, .int .i64 gq, .int .i64 gr]
  have hz0 : x0.heap.size = w.heap.size + 1 := by rw [← hx0]; simp
  rw [hz0] at hr
  have hI1 := hI.nx hB
  have hpl := hI.1
  generalize hx1 : x0.alloc (.cells #[.int .i64 gp, .int .u32 gs, .int .u32 gd, .int .i64 gq, .int .i64 gr] 31) = x1 at hB hq hr hI1
  by_cases hbig : 3000 < n
  · have i1 : (3000 : Int) < n := by omega
    go_enter Try.func5, Try.ntmps5
    go_wp2_with fail
    refine (lives5_any _).mono ?_
    rintro e w9 ⟨rfl, hb⟩
    go_wp2_with fail
    go_ret
    exact ⟨rfl, hB.trans (hb.mono hB.size)⟩
  have i1 : (n : Int) ≤ 3000 := by omega
  replace hbig : n ≤ 3000 := by omega
  clear hI hq0 hB0
  go_enter Try.func5, Try.ntmps5
  go_wp2_with fail
  clear hx0 hx1 hz0 x0
  -- region 3: 0 1C 2C 3 4
  try refine wp_region_noPanic ?_
  have hs1r : Below x1.heap.size x1 x1.drew := (Below.refl _ _).drew
  refine wp_region_held_drew (S := fun w' => Below x1.heap.size x1 w') (by kernel_rfl) hs1r (fun _ => ?_)
  (refine held_takeA 0 (by rfl) ?_ (by kernel_rfl) (fun _ _ _ h => h) hs1r ?_ ?_; rotate_left; (focus (intro wq hSw; refine exec_load_blk (x := .tmp 3) ?_ ?_ (hq.below hSw hq.lt) _ Try.underlying31 rfl (by kernel_rfl) <;> rfl)); simp only [Act.put, List.setIfInBounds_toArray, List.set_cons_zero, List.set_cons_succ])
  (refine held_takeA 3 (by rfl) ?_ (by kernel_rfl) (fun _ _ _ h => h) hs1r ?_ ?_; rotate_left; (focus (intro wq hSw; refine exec_load_blk (x := .tmp 3) ?_ ?_ (hq.below hSw hq.lt) _ Try.underlying31 rfl (by kernel_rfl) <;> rfl)); simp only [Act.put, List.setIfInBounds_toArray, List.set_cons_zero, List.set_cons_succ])
  refine held_callA 1 (by rfl) (by kernel_rfl) (by rfl) (fun KQ hKQ => ?_)
  go_simp
  refine (back_any p s d sp dp x1.drew).mono ?_
  rintro e x2 ⟨rfl, hb⟩
  replace hI1 := hI1.drew.nx hb
  refine hKQ.out _ _ (hs1r.trans hb) (held_mono (S' := fun w' => Below x2.heap.size x2 w') (fun w' h => (hs1r.trans hb).trans (h.mono (hs1r.trans hb).size)) _ _ _ _ ?_)
  clear hKQ KQ
  replace hq := hq.below (hs1r.trans hb) hq.lt
  replace hr := hr.below (hs1r.trans hb) hr.lt
  replace hB := hB.trans ((hs1r.trans hb).mono hB.size)
  have hs2r : Below x2.heap.size x2 x2 := Below.refl _ _
  try simp only [Act.put, List.setIfInBounds_toArray, List.set_cons_zero, List.set_cons_succ]
  clear hb
  refine held_callA 2 (by rfl) (by kernel_rfl) (by rfl) (fun KQ hKQ => ?_)
  go_simp
  refine (back_any p d s dp sp x2).mono ?_
  rintro e x3 ⟨rfl, hb⟩
  replace hI1 := hI1.nx hb
  refine hKQ.out _ _ (hs2r.trans hb) (held_mono (S' := fun w' => Below x3.heap.size x3 w') (fun w' h => (hs2r.trans hb).trans (h.mono (hs2r.trans hb).size)) _ _ _ _ ?_)
  clear hKQ KQ
  replace hq := hq.below (hs2r.trans hb) hq.lt
  replace hr := hr.below (hs2r.trans hb) hr.lt
  replace hB := hB.trans ((hs2r.trans hb).mono hB.size)
  have hs3r : Below x3.heap.size x3 x3 := Below.refl _ _
  try simp only [Act.put, List.setIfInBounds_toArray, List.set_cons_zero, List.set_cons_succ]
  (refine held_takeA 4 (by rfl) ?_ (by kernel_rfl) (fun _ _ _ h => h) hs3r ?_ ?_; rotate_left; (focus (intro wq hSw; have hrd : ∀ b o, b < x3.heap.size → wq.cell? ⟨b, o, none⟩ = x3.cell? ⟨b, o, none⟩ := (fun b o h => hSw.cell (p := ⟨b, o, none⟩) h); go_simp; try with_reducible rfl; done)); try simp only [Act.put, List.setIfInBounds_toArray, List.set_cons_zero, List.set_cons_succ])
  clear hb
  refine wpAnyH_done (by kernel_rfl) ?_ _
  try refine NoPanic.normal ?_
  have f0 : x3.cell? ⟨w.heap.size, 0, none⟩ = some (.int .i64 p) := hq.cellv 0 rfl
  have f1 : x3.cell? ⟨w.heap.size, 1, none⟩ = some (.int .u32 s) := hq.cellv 1 rfl
  have f2 : x3.cell? ⟨w.heap.size, 2, none⟩ = some (.int .u32 d) := hq.cellv 2 rfl
  have f3 : x3.cell? ⟨w.heap.size, 3, none⟩ = some (.int .i64 sp) := hq.cellv 3 rfl
  have f4 : x3.cell? ⟨w.heap.size, 4, none⟩ = some (.int .i64 dp) := hq.cellv 4 rfl
  have g0 : x3.cell? ⟨w.heap.size + 1, 0, none⟩ = some (.int .i64 gp) := hr.cellv 0 rfl
  have g1 : x3.cell? ⟨w.heap.size + 1, 1, none⟩ = some (.int .u32 gs) := hr.cellv 1 rfl
  have g2 : x3.cell? ⟨w.heap.size + 1, 2, none⟩ = some (.int .u32 gd) := hr.cellv 2 rfl
  have g3 : x3.cell? ⟨w.heap.size + 1, 3, none⟩ = some (.int .i64 gq) := hr.cellv 3 rfl
  have g4 : x3.cell? ⟨w.heap.size + 1, 4, none⟩ = some (.int .i64 gr) := hr.cellv 4 rfl
  go_wp2_with fail
  refine (portsGood_any p s d sp dp x3).mono ?_
  rintro e x4 ⟨rfl, hb⟩
  replace hI1 := hI1.nx hb
  replace hq := hq.below hb hq.lt
  replace hr := hr.below hb hr.lt
  replace hB := hB.trans (hb.mono hB.size)
  clear hb
  by_cases hg : goodF p sp dp = true
  rotate_left
  · have hg2 : goodF p sp dp = false := by simpa using hg
    rw [hg2]
    clear hg hg2
    go_wp2_with fail
    refine (lives5_any _).mono ?_
    rintro e w9 ⟨rfl, hb⟩
    go_wp2_with fail
    go_ret
    exact ⟨rfl, hB.trans (hb.mono hB.size)⟩
  rw [hg]
  obtain ⟨gpp, gg1, gg2⟩ := goodF_ports hg
  have hgU := goodF_mk (.inr rfl) gg1 gg2
  have hgT := goodF_mk (.inl rfl) gg1 gg2
  have hgB := goodF_mk (.inr rfl) gg2 gg1
  have qU := seg_udp (s := s) (d := d) (pl := l) hgU (by omega) s0 s1 d0 d1
  have qT := seg_tcp (s := s) (d := d) (fl := 2) (pl := l) hgT (by omega) s0 s1 d0 d1
  have qB := seg_udp (s := d) (d := s) (pl := l) hgB (by omega) d0 d1 s0 s1
  have nU := (udp_len (s := s) (d := d) (pl := l) hgU (by omega)).1
  have nT := (tcp_len (s := s) (d := d) (fl := 2) (pl := l) hgT (by omega)).1
  have nB := (udp_len (s := d) (d := s) (pl := l) hgB (by omega)).1
  rw [hpl] at nU nT nB qU qT qB
  clear gg1 gg2 hgU hgT hgB
  generalize hLU : udpL s d sp dp l = LU at *
  generalize hLT : tcpL s d sp dp 2 l = LT at *
  generalize hLB : udpL d s dp sp l = LB at *
  replace hg := Lib.hid hg
  replace qU := Lib.hid qU
  replace qT := Lib.hid qT
  replace qB := Lib.hid qB
  replace nU := Lib.hid nU
  replace nT := Lib.hid nT
  replace nB := Lib.hid nB
  replace hpl := Lib.hid hpl
  replace hLU := Lib.hid hLU
  replace hLT := Lib.hid hLT
  replace hLB := Lib.hid hLB
  have f0 : x4.cell? ⟨w.heap.size, 0, none⟩ = some (.int .i64 p) := hq.cellv 0 rfl
  have f1 : x4.cell? ⟨w.heap.size, 1, none⟩ = some (.int .u32 s) := hq.cellv 1 rfl
  have f2 : x4.cell? ⟨w.heap.size, 2, none⟩ = some (.int .u32 d) := hq.cellv 2 rfl
  have f3 : x4.cell? ⟨w.heap.size, 3, none⟩ = some (.int .i64 sp) := hq.cellv 3 rfl
  have f4 : x4.cell? ⟨w.heap.size, 4, none⟩ = some (.int .i64 dp) := hq.cellv 4 rfl
  have g0 : x4.cell? ⟨w.heap.size + 1, 0, none⟩ = some (.int .i64 gp) := hr.cellv 0 rfl
  have g1 : x4.cell? ⟨w.heap.size + 1, 1, none⟩ = some (.int .u32 gs) := hr.cellv 1 rfl
  have g2 : x4.cell? ⟨w.heap.size + 1, 2, none⟩ = some (.int .u32 gd) := hr.cellv 2 rfl
  have g3 : x4.cell? ⟨w.heap.size + 1, 3, none⟩ = some (.int .i64 gq) := hr.cellv 3 rfl
  have g4 : x4.cell? ⟨w.heap.size + 1, 4, none⟩ = some (.int .i64 gr) := hr.cellv 4 rfl
  go_wp2_with fail
  refine (udp_any x4 p s d sp dp A n c l hI1 hc (by omega) s0 s1 d0 d1).mono ?_
  rintro e x5 ⟨vu, rfl, ownu, hb⟩
  rw [hLU.out, nU.out] at ownu
  obtain ⟨Au, cu, rfl, hcu, hcmu, byu, _⟩ := ownu.any2
  replace hI1 := hI1.nx hb
  replace hq := hq.below hb hq.lt
  replace hr := hr.below hb hr.lt
  replace hB := hB.trans (hb.mono hB.size)
  clear hb ownu
  by_cases hp : p = 6
  · subst hp
    have f0 : x5.cell? ⟨w.heap.size, 0, none⟩ = some (.int .i64 6) := hq.cellv 0 rfl
    have f1 : x5.cell? ⟨w.heap.size, 1, none⟩ = some (.int .u32 s) := hq.cellv 1 rfl
    have f2 : x5.cell? ⟨w.heap.size, 2, none⟩ = some (.int .u32 d) := hq.cellv 2 rfl
    have f3 : x5.cell? ⟨w.heap.size, 3, none⟩ = some (.int .i64 sp) := hq.cellv 3 rfl
    have f4 : x5.cell? ⟨w.heap.size, 4, none⟩ = some (.int .i64 dp) := hq.cellv 4 rfl
    have g0 : x5.cell? ⟨w.heap.size + 1, 0, none⟩ = some (.int .i64 gp) := hr.cellv 0 rfl
    have g1 : x5.cell? ⟨w.heap.size + 1, 1, none⟩ = some (.int .u32 gs) := hr.cellv 1 rfl
    have g2 : x5.cell? ⟨w.heap.size + 1, 2, none⟩ = some (.int .u32 gd) := hr.cellv 2 rfl
    have g3 : x5.cell? ⟨w.heap.size + 1, 3, none⟩ = some (.int .i64 gq) := hr.cellv 3 rfl
    have g4 : x5.cell? ⟨w.heap.size + 1, 4, none⟩ = some (.int .i64 gr) := hr.cellv 4 rfl
    go_wp2_with fail
    refine (tcp_any x5 6 s d sp dp 2 A n c l hI1 hc (by omega) s0 s1 d0 d1).mono ?_
    rintro e x6 ⟨vt, rfl, ownt, hb⟩
    rw [hLT.out, nT.out] at ownt
    obtain ⟨At, ct, rfl, hct, hcmt, byt, _⟩ := ownt.any2
    replace hI1 := hI1.nx hb
    replace hq := hq.below hb hq.lt
    replace hr := hr.below hb hr.lt
    replace hB := hB.trans (hb.mono hB.size)
    clear hb ownt
    have f0 : x6.cell? ⟨w.heap.size, 0, none⟩ = some (.int .i64 6) := hq.cellv 0 rfl
    have f1 : x6.cell? ⟨w.heap.size, 1, none⟩ = some (.int .u32 s) := hq.cellv 1 rfl
    have f2 : x6.cell? ⟨w.heap.size, 2, none⟩ = some (.int .u32 d) := hq.cellv 2 rfl
    have f3 : x6.cell? ⟨w.heap.size, 3, none⟩ = some (.int .i64 sp) := hq.cellv 3 rfl
    have f4 : x6.cell? ⟨w.heap.size, 4, none⟩ = some (.int .i64 dp) := hq.cellv 4 rfl
    have g0 : x6.cell? ⟨w.heap.size + 1, 0, none⟩ = some (.int .i64 gp) := hr.cellv 0 rfl
    have g1 : x6.cell? ⟨w.heap.size + 1, 1, none⟩ = some (.int .u32 gs) := hr.cellv 1 rfl
    have g2 : x6.cell? ⟨w.heap.size + 1, 2, none⟩ = some (.int .u32 gd) := hr.cellv 2 rfl
    have g3 : x6.cell? ⟨w.heap.size + 1, 3, none⟩ = some (.int .i64 gq) := hr.cellv 3 rfl
    have g4 : x6.cell? ⟨w.heap.size + 1, 4, none⟩ = some (.int .i64 gr) := hr.cellv 4 rfl
    go_wp2_with fail
    refine (back_any 6 s d sp dp x6).mono ?_
    rintro e x7 ⟨rfl, hb⟩
    replace hI1 := hI1.nx hb
    replace byt := byt.nx hb
    replace hq := hq.below hb hq.lt
    replace hr := hr.below hb hr.lt
    replace hB := hB.trans (hb.mono hB.size)
    clear hb
    go_wp2_with fail
    refine (udp_any x7 6 d s dp sp A n c l hI1 hc (by omega) d0 d1 s0 s1).mono ?_
    rintro e x8 ⟨vc, rfl, ownc, hb⟩
    rw [hLB.out, nB.out] at ownc
    obtain ⟨Ac, cc, rfl, hcc, hcmc, byc, _⟩ := ownc.any2
    replace byt := byt.nx hb
    replace hq := hq.below hb hq.lt
    replace hr := hr.below hb hr.lt
    replace hB := hB.trans (hb.mono hB.size)
    clear hb ownc hI1
    go_wp2_with fail
    refine (of_yes x8 At _ ct LT byt (by omega) (by omega) (by omega) qT.out.e).mono ?_
    rintro e x9 ⟨rfl, hb⟩
    rw [qT.out.a_, qT.out.b_, qT.out.f_, qT.out.m_, qT.out.p_, qT.out.s_, qT.out.d_]
    rw [show (((20 + n : Nat)) : Int) = 20 + (n : Int) from by omega]
    rw [show ((2 : Int) % 256) = 2 from rfl]
    replace byc := byc.nx hb
    replace hq := hq.below hb hq.lt
    replace hr := hr.below hb hr.lt
    replace hB := hB.trans (hb.mono hB.size)
    clear hb
    have hb := (Below.refl x9.heap.size x9).alloc (Nat.le_refl _) (.cells #[.int .i64 6, .int .u32 s, .int .u32 d, .int .i64 sp, .int .i64 dp, .int .i64 2, .int .i64 (20 + (n : Int))] 33)
    have h9 := Blk.new x9 33 #[.int .i64 6, .int .u32 s, .int .u32 d, .int .i64 sp, .int .i64 dp, .int .i64 2, .int .i64 (20 + (n : Int))]
    replace byc := byc.nx hb
    replace hq := hq.below hb hq.lt
    replace hr := hr.below hb hr.lt
    replace hB := hB.trans (hb.mono hB.size)
    clear hb
    
    go_wp2_with fail
    generalize hG9 : x9.heap.size = G9 at *
    generalize hy9 : x9.alloc (.cells #[.int .i64 6, .int .u32 s, .int .u32 d, .int .i64 sp, .int .i64 dp, .int .i64 2, .int .i64 (20 + (n : Int))] 33) = y9 at *
    clear hG9 hy9
    refine (of_yes y9 Ac _ cc LB byc (by omega) (by omega) (by omega) qB.out.e).mono ?_
    rintro e x10 ⟨rfl, hb⟩
    rw [qB.out.a_, qB.out.b_, qB.out.f_, qB.out.m_, qB.out.p_, qB.out.s_, qB.out.d_]
    rw [show (((8 + n : Nat)) : Int) = 8 + (n : Int) from by omega]
    replace hq := hq.below hb hq.lt
    replace hr := hr.below hb hr.lt
    replace hB := hB.trans (hb.mono hB.size)
    replace h9 := h9.below hb h9.lt
    clear hb
    have hb := (Below.refl x10.heap.size x10).alloc (Nat.le_refl _) (.cells #[.int .i64 17, .int .u32 d, .int .u32 s, .int .i64 dp, .int .i64 sp, .int .i64 0, .int .i64 (8 + (n : Int))] 33)
    have h10 := Blk.new x10 33 #[.int .i64 17, .int .u32 d, .int .u32 s, .int .i64 dp, .int .i64 sp, .int .i64 0, .int .i64 (8 + (n : Int))]
    replace hq := hq.below hb hq.lt
    replace hr := hr.below hb hr.lt
    replace hB := hB.trans (hb.mono hB.size)
    replace h9 := h9.below hb h9.lt
    clear hb
    generalize hy10 : x10.alloc (.cells #[.int .i64 17, .int .u32 d, .int .u32 s, .int .i64 dp, .int .i64 sp, .int .i64 0, .int .i64 (8 + (n : Int))] 33) = y10 at *
    generalize hG10 : x10.heap.size = G10 at *
    have f0 : y10.cell? ⟨w.heap.size, 0, none⟩ = some (.int .i64 6) := hq.cellv 0 rfl
    have f1 : y10.cell? ⟨w.heap.size, 1, none⟩ = some (.int .u32 s) := hq.cellv 1 rfl
    have f2 : y10.cell? ⟨w.heap.size, 2, none⟩ = some (.int .u32 d) := hq.cellv 2 rfl
    have f3 : y10.cell? ⟨w.heap.size, 3, none⟩ = some (.int .i64 sp) := hq.cellv 3 rfl
    have f4 : y10.cell? ⟨w.heap.size, 4, none⟩ = some (.int .i64 dp) := hq.cellv 4 rfl
    have g0 : y10.cell? ⟨w.heap.size + 1, 0, none⟩ = some (.int .i64 gp) := hr.cellv 0 rfl
    have g1 : y10.cell? ⟨w.heap.size + 1, 1, none⟩ = some (.int .u32 gs) := hr.cellv 1 rfl
    have g2 : y10.cell? ⟨w.heap.size + 1, 2, none⟩ = some (.int .u32 gd) := hr.cellv 2 rfl
    have g3 : y10.cell? ⟨w.heap.size + 1, 3, none⟩ = some (.int .i64 gq) := hr.cellv 3 rfl
    have g4 : y10.cell? ⟨w.heap.size + 1, 4, none⟩ = some (.int .i64 gr) := hr.cellv 4 rfl
    
    go_wp2_with fail
    clear hG10 hy10
    refine (back_any 6 s d sp dp y10).mono ?_
    rintro e x11 ⟨rfl, hb⟩
    replace hq := hq.below hb hq.lt
    replace hr := hr.below hb hr.lt
    replace hB := hB.trans (hb.mono hB.size)
    replace h9 := h9.below hb h9.lt
    replace h10 := h10.below hb h10.lt
    clear hb
    have f0 : x11.cell? ⟨w.heap.size, 0, none⟩ = some (.int .i64 6) := hq.cellv 0 rfl
    have f1 : x11.cell? ⟨w.heap.size, 1, none⟩ = some (.int .u32 s) := hq.cellv 1 rfl
    have f2 : x11.cell? ⟨w.heap.size, 2, none⟩ = some (.int .u32 d) := hq.cellv 2 rfl
    have f3 : x11.cell? ⟨w.heap.size, 3, none⟩ = some (.int .i64 sp) := hq.cellv 3 rfl
    have f4 : x11.cell? ⟨w.heap.size, 4, none⟩ = some (.int .i64 dp) := hq.cellv 4 rfl
    have g0 : x11.cell? ⟨w.heap.size + 1, 0, none⟩ = some (.int .i64 gp) := hr.cellv 0 rfl
    have g1 : x11.cell? ⟨w.heap.size + 1, 1, none⟩ = some (.int .u32 gs) := hr.cellv 1 rfl
    have g2 : x11.cell? ⟨w.heap.size + 1, 2, none⟩ = some (.int .u32 gd) := hr.cellv 2 rfl
    have g3 : x11.cell? ⟨w.heap.size + 1, 3, none⟩ = some (.int .i64 gq) := hr.cellv 3 rfl
    have g4 : x11.cell? ⟨w.heap.size + 1, 4, none⟩ = some (.int .i64 gr) := hr.cellv 4 rfl
    have k0 : x11.cell? ⟨G9, 0, none⟩ = some (.int .i64 6) := h9.cellv 0 rfl
    have k1 : x11.cell? ⟨G9, 1, none⟩ = some (.int .u32 s) := h9.cellv 1 rfl
    have k2 : x11.cell? ⟨G9, 2, none⟩ = some (.int .u32 d) := h9.cellv 2 rfl
    have k3 : x11.cell? ⟨G9, 3, none⟩ = some (.int .i64 sp) := h9.cellv 3 rfl
    have k4 : x11.cell? ⟨G9, 4, none⟩ = some (.int .i64 dp) := h9.cellv 4 rfl
    have k5 : x11.cell? ⟨G9, 5, none⟩ = some (.int .i64 2) := h9.cellv 5 rfl
    have m0 : x11.cell? ⟨G10, 0, none⟩ = some (.int .i64 17) := h10.cellv 0 rfl
    have m1 : x11.cell? ⟨G10, 1, none⟩ = some (.int .u32 d) := h10.cellv 1 rfl
    have m2 : x11.cell? ⟨G10, 2, none⟩ = some (.int .u32 s) := h10.cellv 2 rfl
    have m3 : x11.cell? ⟨G10, 3, none⟩ = some (.int .i64 dp) := h10.cellv 3 rfl
    have m4 : x11.cell? ⟨G10, 4, none⟩ = some (.int .i64 sp) := h10.cellv 4 rfl
    have m5 : x11.cell? ⟨G10, 5, none⟩ = some (.int .i64 0) := h10.cellv 5 rfl
    have hxr : bits .xor .i64 0 1 = 1 := by decide
    have l1 := hq.lt
    have l2 := hr.lt
    have l3 := h9.lt
    have l4 := h10.lt
    go_wp2_with fail
    clear k0 k1 k2 k3 k4 k5 m0 m1 m2 m3 m4 m5 h9 h10 l3 l4
    have hb := (Below.refl x11.heap.size x11).alloc (Nat.le_refl _) (.cells #[.int .i64 17, .int .u32 d, .int .u32 s, .int .i64 dp, .int .i64 sp] 31)
    replace hq := hq.below hb hq.lt
    replace hr := hr.below hb hr.lt
    replace hB := hB.trans (hb.mono hB.size)
    clear hb
    generalize x11.alloc (.cells #[.int .i64 17, .int .u32 d, .int .u32 s, .int .i64 dp, .int .i64 sp] 31) = x12 at *
    have f0 : x12.cell? ⟨w.heap.size, 0, none⟩ = some (.int .i64 6) := hq.cellv 0 rfl
    have f1 : x12.cell? ⟨w.heap.size, 1, none⟩ = some (.int .u32 s) := hq.cellv 1 rfl
    have f2 : x12.cell? ⟨w.heap.size, 2, none⟩ = some (.int .u32 d) := hq.cellv 2 rfl
    have f3 : x12.cell? ⟨w.heap.size, 3, none⟩ = some (.int .i64 sp) := hq.cellv 3 rfl
    have f4 : x12.cell? ⟨w.heap.size, 4, none⟩ = some (.int .i64 dp) := hq.cellv 4 rfl
    have g0 : x12.cell? ⟨w.heap.size + 1, 0, none⟩ = some (.int .i64 gp) := hr.cellv 0 rfl
    have g1 : x12.cell? ⟨w.heap.size + 1, 1, none⟩ = some (.int .u32 gs) := hr.cellv 1 rfl
    have g2 : x12.cell? ⟨w.heap.size + 1, 2, none⟩ = some (.int .u32 gd) := hr.cellv 2 rfl
    have g3 : x12.cell? ⟨w.heap.size + 1, 3, none⟩ = some (.int .i64 gq) := hr.cellv 3 rfl
    have g4 : x12.cell? ⟨w.heap.size + 1, 4, none⟩ = some (.int .i64 gr) := hr.cellv 4 rfl
    replace l1 := hq.lt
    replace l2 := hr.lt
    by_cases hgg : goodF gp gq gr = true
    rotate_left
    · have hgg2 : goodF gp gq gr = false := by simpa using hgg
      -- region 17: 0 1C 2 3 4 5C 6 7 8C 9 10 11 12 13 14 15 16 17C 18 19
      try refine wp_region_noPanic ?_
      have hs4r : Below x12.heap.size x12 x12.drew := (Below.refl _ _).drew
      refine wp_region_held_drew (S := fun w' => Below x12.heap.size x12 w') (by kernel_rfl) hs4r (fun _ => ?_)
      (refine held_takeA 0 (by rfl) ?_ (by kernel_rfl) (fun _ _ _ h => h) hs4r ?_ ?_; rotate_left; (focus (intro wq hSw; refine exec_load_blk (x := .tmp 4) ?_ ?_ (hr.below hSw hr.lt) _ Try.underlying31 rfl (by kernel_rfl) <;> rfl)); simp only [Act.put, List.setIfInBounds_toArray, List.set_cons_zero, List.set_cons_succ])
      refine held_callA 1 (by rfl) (by kernel_rfl) (by rfl) (fun KQ hKQ => ?_)
      go_simp
      refine (portsGood_any gp gs gd gq gr x12.drew).mono ?_
      rw [hgg2]
      rintro e x13 ⟨rfl, hb⟩
      refine hKQ.out _ _ (hs4r.trans hb) (held_mono (S' := fun w' => Below x13.heap.size x13 w') (fun w' h => (hs4r.trans hb).trans (h.mono (hs4r.trans hb).size)) _ _ _ _ ?_)
      clear hKQ KQ
      replace hq := hq.below (hs4r.trans hb) hq.lt
      replace hr := hr.below (hs4r.trans hb) hr.lt
      replace hB := hB.trans ((hs4r.trans hb).mono hB.size)
      have hs5r : Below x13.heap.size x13 x13 := Below.refl _ _
      try simp only [Act.put, List.setIfInBounds_toArray, List.set_cons_zero, List.set_cons_succ]
      (refine held_takeA 2 (by rfl) ?_ (by kernel_rfl) (fun _ _ _ h => h) hs5r ?_ ?_; rotate_left; (focus (intro wq hSw; have hrd : ∀ b o, b < x13.heap.size → wq.cell? ⟨b, o, none⟩ = x13.cell? ⟨b, o, none⟩ := (fun b o h => hSw.cell (p := ⟨b, o, none⟩) h); go_simp; try with_reducible rfl; done)); try simp only [Act.put, List.setIfInBounds_toArray, List.set_cons_zero, List.set_cons_succ])
      (refine held_takeA 3 (by rfl) ?_ (by kernel_rfl) (fun _ _ _ h => h) hs5r ?_ ?_; rotate_left; (focus (intro wq hSw; have hrd : ∀ b o, b < x13.heap.size → wq.cell? ⟨b, o, none⟩ = x13.cell? ⟨b, o, none⟩ := (fun b o h => hSw.cell (p := ⟨b, o, none⟩) h); go_simp; try with_reducible rfl; done)); try simp only [Act.put, List.setIfInBounds_toArray, List.set_cons_zero, List.set_cons_succ])
      (refine held_skipA 4 (by rfl) (by kernel_rfl) (fun _ _ _ h => h) hs5r ?_; try simp only [Act.put, List.setIfInBounds_toArray, List.set_cons_zero, List.set_cons_succ])
      (refine held_skipA 5 (by rfl) (by kernel_rfl) (fun _ _ _ h => h) hs5r ?_; try simp only [Act.put, List.setIfInBounds_toArray, List.set_cons_zero, List.set_cons_succ])
      (refine held_skipA 6 (by rfl) (by kernel_rfl) (fun _ _ _ h => h) hs5r ?_; try simp only [Act.put, List.setIfInBounds_toArray, List.set_cons_zero, List.set_cons_succ])
      (refine held_skipA 7 (by rfl) (by kernel_rfl) (fun _ _ _ h => h) hs5r ?_; try simp only [Act.put, List.setIfInBounds_toArray, List.set_cons_zero, List.set_cons_succ])
      (refine held_skipA 8 (by rfl) (by kernel_rfl) (fun _ _ _ h => h) hs5r ?_; try simp only [Act.put, List.setIfInBounds_toArray, List.set_cons_zero, List.set_cons_succ])
      (refine held_skipA 9 (by rfl) (by kernel_rfl) (fun _ _ _ h => h) hs5r ?_; try simp only [Act.put, List.setIfInBounds_toArray, List.set_cons_zero, List.set_cons_succ])
      (refine held_skipA 10 (by rfl) (by kernel_rfl) (fun _ _ _ h => h) hs5r ?_; try simp only [Act.put, List.setIfInBounds_toArray, List.set_cons_zero, List.set_cons_succ])
      (refine held_skipA 11 (by rfl) (by kernel_rfl) (fun _ _ _ h => h) hs5r ?_; try simp only [Act.put, List.setIfInBounds_toArray, List.set_cons_zero, List.set_cons_succ])
      (refine held_skipA 12 (by rfl) (by kernel_rfl) (fun _ _ _ h => h) hs5r ?_; try simp only [Act.put, List.setIfInBounds_toArray, List.set_cons_zero, List.set_cons_succ])
      (refine held_skipA 13 (by rfl) (by kernel_rfl) (fun _ _ _ h => h) hs5r ?_; try simp only [Act.put, List.setIfInBounds_toArray, List.set_cons_zero, List.set_cons_succ])
      (refine held_skipA 14 (by rfl) (by kernel_rfl) (fun _ _ _ h => h) hs5r ?_; try simp only [Act.put, List.setIfInBounds_toArray, List.set_cons_zero, List.set_cons_succ])
      (refine held_takeA 15 (by rfl) ?_ (by kernel_rfl) (fun _ _ _ h => h) hs5r ?_ ?_; rotate_left; (focus (intro wq hSw; have hrd : ∀ b o, b < x13.heap.size → wq.cell? ⟨b, o, none⟩ = x13.cell? ⟨b, o, none⟩ := (fun b o h => hSw.cell (p := ⟨b, o, none⟩) h); go_simp; try with_reducible rfl; done)); try simp only [Act.put, List.setIfInBounds_toArray, List.set_cons_zero, List.set_cons_succ])
      (refine held_takeA 16 (by rfl) ?_ (by kernel_rfl) (fun _ _ _ h => h) hs5r ?_ ?_; rotate_left; (focus (intro wq hSw; have hrd : ∀ b o, b < x13.heap.size → wq.cell? ⟨b, o, none⟩ = x13.cell? ⟨b, o, none⟩ := (fun b o h => hSw.cell (p := ⟨b, o, none⟩) h); go_simp; try with_reducible rfl; done)); try simp only [Act.put, List.setIfInBounds_toArray, List.set_cons_zero, List.set_cons_succ])
      clear hb
      refine held_callA 17 (by rfl) (by kernel_rfl) (by rfl) (fun KQ hKQ => ?_)
      go_simp
      refine (lives5_any _).mono ?_
      rintro e x14 ⟨rfl, hb⟩
      refine hKQ.out _ _ (hs5r.trans hb) (held_mono (S' := fun w' => Below x14.heap.size x14 w') (fun w' h => (hs5r.trans hb).trans (h.mono (hs5r.trans hb).size)) _ _ _ _ ?_)
      clear hKQ KQ
      replace hq := hq.below (hs5r.trans hb) hq.lt
      replace hr := hr.below (hs5r.trans hb) hr.lt
      replace hB := hB.trans ((hs5r.trans hb).mono hB.size)
      have hs6r : Below x14.heap.size x14 x14 := Below.refl _ _
      try simp only [Act.put, List.setIfInBounds_toArray, List.set_cons_zero, List.set_cons_succ]
      (refine held_takeA 18 (by rfl) ?_ (by kernel_rfl) (fun _ _ _ h => h) hs6r ?_ ?_; rotate_left; (focus (intro wq hSw; have hrd : ∀ b o, b < x14.heap.size → wq.cell? ⟨b, o, none⟩ = x14.cell? ⟨b, o, none⟩ := (fun b o h => hSw.cell (p := ⟨b, o, none⟩) h); go_simp; try with_reducible rfl; done)); try simp only [Act.put, List.setIfInBounds_toArray, List.set_cons_zero, List.set_cons_succ])
      (refine held_takeA 19 (by rfl) ?_ (by kernel_rfl) (fun _ _ _ h => h) hs6r ?_ ?_; rotate_left; (focus (intro wq hSw; have hrd : ∀ b o, b < x14.heap.size → wq.cell? ⟨b, o, none⟩ = x14.cell? ⟨b, o, none⟩ := (fun b o h => hSw.cell (p := ⟨b, o, none⟩) h); go_simp; try with_reducible rfl; done)); try simp only [Act.put, List.setIfInBounds_toArray, List.set_cons_zero, List.set_cons_succ])
      refine wpAnyH_done (by kernel_rfl) ?_ _
      try refine NoPanic.normal ?_
      go_wp2_with fail
      go_ret
      exact ⟨rfl, hB⟩
    by_cases heq : 6 = gp ∧ s = gs ∧ d = gd ∧ sp = gq ∧ dp = gr
    · obtain ⟨rfl, rfl, rfl, rfl, rfl⟩ := heq
      -- region 17: 0 1C 2 3 4 5C 6 7 8C 9 10 11 12 13 14 15 16 17C 18 19
      try refine wp_region_noPanic ?_
      have hs7r : Below x12.heap.size x12 x12.drew := (Below.refl _ _).drew
      refine wp_region_held_drew (S := fun w' => Below x12.heap.size x12 w') (by kernel_rfl) hs7r (fun _ => ?_)
      (refine held_takeA 0 (by rfl) ?_ (by kernel_rfl) (fun _ _ _ h => h) hs7r ?_ ?_; rotate_left; (focus (intro wq hSw; refine exec_load_blk (x := .tmp 4) ?_ ?_ (hr.below hSw hr.lt) _ Try.underlying31 rfl (by kernel_rfl) <;> rfl)); simp only [Act.put, List.setIfInBounds_toArray, List.set_cons_zero, List.set_cons_succ])
      refine held_callA 1 (by rfl) (by kernel_rfl) (by rfl) (fun KQ hKQ => ?_)
      go_simp
      refine (portsGood_any 6 s d sp dp x12.drew).mono ?_
      rw [hg.out]
      rintro e x13 ⟨rfl, hb⟩
      refine hKQ.out _ _ (hs7r.trans hb) (held_mono (S' := fun w' => Below x13.heap.size x13 w') (fun w' h => (hs7r.trans hb).trans (h.mono (hs7r.trans hb).size)) _ _ _ _ ?_)
      clear hKQ KQ
      replace hq := hq.below (hs7r.trans hb) hq.lt
      replace hr := hr.below (hs7r.trans hb) hr.lt
      replace hB := hB.trans ((hs7r.trans hb).mono hB.size)
      have hs8r : Below x13.heap.size x13 x13 := Below.refl _ _
      try simp only [Act.put, List.setIfInBounds_toArray, List.set_cons_zero, List.set_cons_succ]
      (refine held_takeA 2 (by rfl) ?_ (by kernel_rfl) (fun _ _ _ h => h) hs8r ?_ ?_; rotate_left; (focus (intro wq hSw; have hrd : ∀ b o, b < x13.heap.size → wq.cell? ⟨b, o, none⟩ = x13.cell? ⟨b, o, none⟩ := (fun b o h => hSw.cell (p := ⟨b, o, none⟩) h); go_simp; try with_reducible rfl; done)); try simp only [Act.put, List.setIfInBounds_toArray, List.set_cons_zero, List.set_cons_succ])
      (refine held_takeA 3 (by rfl) ?_ (by kernel_rfl) (fun _ _ _ h => h) hs8r ?_ ?_; rotate_left; (focus (intro wq hSw; have hrd : ∀ b o, b < x13.heap.size → wq.cell? ⟨b, o, none⟩ = x13.cell? ⟨b, o, none⟩ := (fun b o h => hSw.cell (p := ⟨b, o, none⟩) h); go_simp; try with_reducible rfl; done)); try simp only [Act.put, List.setIfInBounds_toArray, List.set_cons_zero, List.set_cons_succ])
      (refine held_takeA 4 (by rfl) ?_ (by kernel_rfl) (fun _ _ _ h => h) hs8r ?_ ?_; rotate_left; (focus (intro wq hSw; refine exec_load_blk (x := .tmp 3) ?_ ?_ (hq.below hSw hq.lt) _ Try.underlying31 rfl (by kernel_rfl) <;> rfl)); simp only [Act.put, List.setIfInBounds_toArray, List.set_cons_zero, List.set_cons_succ])
      (refine held_takeA 7 (by rfl) ?_ (by kernel_rfl) (fun _ _ _ h => h) hs8r ?_ ?_; rotate_left; (focus (intro wq hSw; refine exec_load_blk (x := .tmp 4) ?_ ?_ (hr.below hSw hr.lt) _ Try.underlying31 rfl (by kernel_rfl) <;> rfl)); simp only [Act.put, List.setIfInBounds_toArray, List.set_cons_zero, List.set_cons_succ])
      (refine held_takeA 11 (by rfl) ?_ (by kernel_rfl) (fun _ _ _ h => h) hs8r ?_ ?_; rotate_left; (focus (intro wq hSw; refine exec_load_blk (x := .tmp 3) ?_ ?_ (hq.below hSw hq.lt) _ Try.underlying31 rfl (by kernel_rfl) <;> rfl)); simp only [Act.put, List.setIfInBounds_toArray, List.set_cons_zero, List.set_cons_succ])
      (refine held_takeA 12 (by rfl) ?_ (by kernel_rfl) (fun _ _ _ h => h) hs8r ?_ ?_; rotate_left; (focus (intro wq hSw; refine exec_load_blk (x := .tmp 4) ?_ ?_ (hr.below hSw hr.lt) _ Try.underlying31 rfl (by kernel_rfl) <;> rfl)); simp only [Act.put, List.setIfInBounds_toArray, List.set_cons_zero, List.set_cons_succ])
      (refine held_takeA 13 (by rfl) ?_ (by kernel_rfl) (fun _ _ _ h => h) hs8r ?_ ?_; rotate_left; (focus (intro wq hSw; go_simp; try with_reducible rfl; done)); simp only [Act.put, List.setIfInBounds_toArray, List.set_cons_zero, List.set_cons_succ])
      clear hb
      refine held_callA 5 (by rfl) (by kernel_rfl) (by rfl) (fun KQ hKQ => ?_)
      go_simp
      refine (flowBytes_any 6 s d sp dp x13 s0 s1 d0 d1).mono ?_
      rintro e x14 ⟨v14, rfl, own14, hb⟩
      obtain ⟨A14, c14, rfl, hc14, by14, _⟩ := own14.any
      clear own14
      refine hKQ.out _ _ (hs8r.trans hb) (held_mono (S' := fun w' => Below x14.heap.size x14 w') (fun w' h => (hs8r.trans hb).trans (h.mono (hs8r.trans hb).size)) _ _ _ _ ?_)
      clear hKQ KQ
      replace hq := hq.below (hs8r.trans hb) hq.lt
      replace hr := hr.below (hs8r.trans hb) hr.lt
      replace hB := hB.trans ((hs8r.trans hb).mono hB.size)
      have hs9r : Below x14.heap.size x14 x14 := Below.refl _ _
      try simp only [Act.put, List.setIfInBounds_toArray, List.set_cons_zero, List.set_cons_succ]
      (refine held_takeA 6 (by rfl) ?_ (by kernel_rfl) (fun _ _ _ h => h) hs9r ?_ ?_; rotate_left; (focus (intro wq hSw; have q := run_str wq (by14.below hSw) c14; go_simp; try with_reducible rfl; done)); simp only [Act.put, List.setIfInBounds_toArray, List.set_cons_zero, List.set_cons_succ])
      clear hb
      refine held_callA 8 (by rfl) (by kernel_rfl) (by rfl) (fun KQ hKQ => ?_)
      go_simp
      refine (flowBytes_any 6 s d sp dp x14 s0 s1 d0 d1).mono ?_
      rintro e x15 ⟨v15, rfl, own15, hb⟩
      obtain ⟨A15, c15, rfl, hc15, by15, _⟩ := own15.any
      clear own15
      replace by14 := by14.nx hb
      refine hKQ.out _ _ (hs9r.trans hb) (held_mono (S' := fun w' => Below x15.heap.size x15 w') (fun w' h => (hs9r.trans hb).trans (h.mono (hs9r.trans hb).size)) _ _ _ _ ?_)
      clear hKQ KQ
      replace hq := hq.below (hs9r.trans hb) hq.lt
      replace hr := hr.below (hs9r.trans hb) hr.lt
      replace hB := hB.trans ((hs9r.trans hb).mono hB.size)
      have hs10r : Below x15.heap.size x15 x15 := Below.refl _ _
      try simp only [Act.put, List.setIfInBounds_toArray, List.set_cons_zero, List.set_cons_succ]
      (refine held_takeA 9 (by rfl) ?_ (by kernel_rfl) (fun _ _ _ h => h) hs10r ?_ ?_; rotate_left; (focus (intro wq hSw; have q := run_str wq (by15.below hSw) c15; go_simp; try with_reducible rfl; done)); simp only [Act.put, List.setIfInBounds_toArray, List.set_cons_zero, List.set_cons_succ])
      (refine held_takeA 10 (by rfl) ?_ (by kernel_rfl) (fun _ _ _ h => h) hs10r ?_ ?_; rotate_left; (focus (intro wq hSw; have hrd : ∀ b o, b < x15.heap.size → wq.cell? ⟨b, o, none⟩ = x15.cell? ⟨b, o, none⟩ := (fun b o h => hSw.cell (p := ⟨b, o, none⟩) h); go_simp; try with_reducible rfl; done)); try simp only [Act.put, List.setIfInBounds_toArray, List.set_cons_zero, List.set_cons_succ])
      (refine held_takeA 14 (by rfl) ?_ (by kernel_rfl) (fun _ _ _ h => h) hs10r ?_ ?_; rotate_left; (focus (intro wq hSw; have hrd : ∀ b o, b < x15.heap.size → wq.cell? ⟨b, o, none⟩ = x15.cell? ⟨b, o, none⟩ := (fun b o h => hSw.cell (p := ⟨b, o, none⟩) h); go_simp; try with_reducible rfl; done)); try simp only [Act.put, List.setIfInBounds_toArray, List.set_cons_zero, List.set_cons_succ])
      (refine held_takeA 15 (by rfl) ?_ (by kernel_rfl) (fun _ _ _ h => h) hs10r ?_ ?_; rotate_left; (focus (intro wq hSw; have hrd : ∀ b o, b < x15.heap.size → wq.cell? ⟨b, o, none⟩ = x15.cell? ⟨b, o, none⟩ := (fun b o h => hSw.cell (p := ⟨b, o, none⟩) h); go_simp; try with_reducible rfl; done)); try simp only [Act.put, List.setIfInBounds_toArray, List.set_cons_zero, List.set_cons_succ])
      (refine held_takeA 16 (by rfl) ?_ (by kernel_rfl) (fun _ _ _ h => h) hs10r ?_ ?_; rotate_left; (focus (intro wq hSw; have hrd : ∀ b o, b < x15.heap.size → wq.cell? ⟨b, o, none⟩ = x15.cell? ⟨b, o, none⟩ := (fun b o h => hSw.cell (p := ⟨b, o, none⟩) h); go_simp; try with_reducible rfl; done)); try simp only [Act.put, List.setIfInBounds_toArray, List.set_cons_zero, List.set_cons_succ])
      clear hb
      refine held_callA 17 (by rfl) (by kernel_rfl) (by rfl) (fun KQ hKQ => ?_)
      go_simp
      refine (lives5_any _).mono ?_
      rintro e x16 ⟨rfl, hb⟩
      refine hKQ.out _ _ (hs10r.trans hb) (held_mono (S' := fun w' => Below x16.heap.size x16 w') (fun w' h => (hs10r.trans hb).trans (h.mono (hs10r.trans hb).size)) _ _ _ _ ?_)
      clear hKQ KQ
      replace hq := hq.below (hs10r.trans hb) hq.lt
      replace hr := hr.below (hs10r.trans hb) hr.lt
      replace hB := hB.trans ((hs10r.trans hb).mono hB.size)
      have hs11r : Below x16.heap.size x16 x16 := Below.refl _ _
      try simp only [Act.put, List.setIfInBounds_toArray, List.set_cons_zero, List.set_cons_succ]
      (refine held_takeA 18 (by rfl) ?_ (by kernel_rfl) (fun _ _ _ h => h) hs11r ?_ ?_; rotate_left; (focus (intro wq hSw; have hrd : ∀ b o, b < x16.heap.size → wq.cell? ⟨b, o, none⟩ = x16.cell? ⟨b, o, none⟩ := (fun b o h => hSw.cell (p := ⟨b, o, none⟩) h); go_simp; try with_reducible rfl; done)); try simp only [Act.put, List.setIfInBounds_toArray, List.set_cons_zero, List.set_cons_succ])
      (refine held_takeA 19 (by rfl) ?_ (by kernel_rfl) (fun _ _ _ h => h) hs11r ?_ ?_; rotate_left; (focus (intro wq hSw; have hrd : ∀ b o, b < x16.heap.size → wq.cell? ⟨b, o, none⟩ = x16.cell? ⟨b, o, none⟩ := (fun b o h => hSw.cell (p := ⟨b, o, none⟩) h); go_simp; try with_reducible rfl; done)); try simp only [Act.put, List.setIfInBounds_toArray, List.set_cons_zero, List.set_cons_succ])
      refine wpAnyH_done (by kernel_rfl) ?_ _
      try refine NoPanic.normal ?_
      go_wp2_with fail
      go_ret
      exact ⟨rfl, hB⟩
    · have hstr : ((strB (flowL 6 s d sp dp)).toList == (strB (flowL gp gs gd gq gr)).toList) = false := by
        rw [strB_list, strB_list, beq_eq_false_iff_ne]
        intro h
        exact heq (flowL_inj hg.out hgg s0 s1 d0 d1 s0' s1' d0' d1' h)
      have hgg := hgg
      replace heq := Lib.hid heq
      -- region 17: 0 1C 2 3 4 5C 6 7 8C 9 10 11 12 13 14 15 16 17C 18 19
      try refine wp_region_noPanic ?_
      have hs12r : Below x12.heap.size x12 x12.drew := (Below.refl _ _).drew
      refine wp_region_held_drew (S := fun w' => Below x12.heap.size x12 w') (by kernel_rfl) hs12r (fun _ => ?_)
      (refine held_takeA 0 (by rfl) ?_ (by kernel_rfl) (fun _ _ _ h => h) hs12r ?_ ?_; rotate_left; (focus (intro wq hSw; refine exec_load_blk (x := .tmp 4) ?_ ?_ (hr.below hSw hr.lt) _ Try.underlying31 rfl (by kernel_rfl) <;> rfl)); simp only [Act.put, List.setIfInBounds_toArray, List.set_cons_zero, List.set_cons_succ])
      refine held_callA 1 (by rfl) (by kernel_rfl) (by rfl) (fun KQ hKQ => ?_)
      go_simp
      refine (portsGood_any gp gs gd gq gr x12.drew).mono ?_
      rw [hgg]
      rintro e x13 ⟨rfl, hb⟩
      refine hKQ.out _ _ (hs12r.trans hb) (held_mono (S' := fun w' => Below x13.heap.size x13 w') (fun w' h => (hs12r.trans hb).trans (h.mono (hs12r.trans hb).size)) _ _ _ _ ?_)
      clear hKQ KQ
      replace hq := hq.below (hs12r.trans hb) hq.lt
      replace hr := hr.below (hs12r.trans hb) hr.lt
      replace hB := hB.trans ((hs12r.trans hb).mono hB.size)
      have hs13r : Below x13.heap.size x13 x13 := Below.refl _ _
      try simp only [Act.put, List.setIfInBounds_toArray, List.set_cons_zero, List.set_cons_succ]
      (refine held_takeA 2 (by rfl) ?_ (by kernel_rfl) (fun _ _ _ h => h) hs13r ?_ ?_; rotate_left; (focus (intro wq hSw; have hrd : ∀ b o, b < x13.heap.size → wq.cell? ⟨b, o, none⟩ = x13.cell? ⟨b, o, none⟩ := (fun b o h => hSw.cell (p := ⟨b, o, none⟩) h); go_simp; try with_reducible rfl; done)); try simp only [Act.put, List.setIfInBounds_toArray, List.set_cons_zero, List.set_cons_succ])
      (refine held_takeA 3 (by rfl) ?_ (by kernel_rfl) (fun _ _ _ h => h) hs13r ?_ ?_; rotate_left; (focus (intro wq hSw; have hrd : ∀ b o, b < x13.heap.size → wq.cell? ⟨b, o, none⟩ = x13.cell? ⟨b, o, none⟩ := (fun b o h => hSw.cell (p := ⟨b, o, none⟩) h); go_simp; try with_reducible rfl; done)); try simp only [Act.put, List.setIfInBounds_toArray, List.set_cons_zero, List.set_cons_succ])
      (refine held_takeA 4 (by rfl) ?_ (by kernel_rfl) (fun _ _ _ h => h) hs13r ?_ ?_; rotate_left; (focus (intro wq hSw; refine exec_load_blk (x := .tmp 3) ?_ ?_ (hq.below hSw hq.lt) _ Try.underlying31 rfl (by kernel_rfl) <;> rfl)); simp only [Act.put, List.setIfInBounds_toArray, List.set_cons_zero, List.set_cons_succ])
      (refine held_takeA 7 (by rfl) ?_ (by kernel_rfl) (fun _ _ _ h => h) hs13r ?_ ?_; rotate_left; (focus (intro wq hSw; refine exec_load_blk (x := .tmp 4) ?_ ?_ (hr.below hSw hr.lt) _ Try.underlying31 rfl (by kernel_rfl) <;> rfl)); simp only [Act.put, List.setIfInBounds_toArray, List.set_cons_zero, List.set_cons_succ])
      (refine held_takeA 11 (by rfl) ?_ (by kernel_rfl) (fun _ _ _ h => h) hs13r ?_ ?_; rotate_left; (focus (intro wq hSw; refine exec_load_blk (x := .tmp 3) ?_ ?_ (hq.below hSw hq.lt) _ Try.underlying31 rfl (by kernel_rfl) <;> rfl)); simp only [Act.put, List.setIfInBounds_toArray, List.set_cons_zero, List.set_cons_succ])
      (refine held_takeA 12 (by rfl) ?_ (by kernel_rfl) (fun _ _ _ h => h) hs13r ?_ ?_; rotate_left; (focus (intro wq hSw; refine exec_load_blk (x := .tmp 4) ?_ ?_ (hr.below hSw hr.lt) _ Try.underlying31 rfl (by kernel_rfl) <;> rfl)); simp only [Act.put, List.setIfInBounds_toArray, List.set_cons_zero, List.set_cons_succ])
      (refine held_takeA 13 (by rfl) ?_ (by kernel_rfl) (fun _ _ _ h => h) hs13r ?_ ?_; rotate_left; (focus (intro wq hSw; go_simp; exact flow_ne heq.out)); simp only [Act.put, List.setIfInBounds_toArray, List.set_cons_zero, List.set_cons_succ])
      clear hb
      refine held_callA 5 (by rfl) (by kernel_rfl) (by rfl) (fun KQ hKQ => ?_)
      go_simp
      refine (flowBytes_any 6 s d sp dp x13 s0 s1 d0 d1).mono ?_
      rintro e x14 ⟨v14, rfl, own14, hb⟩
      obtain ⟨A14, c14, rfl, hc14, by14, _⟩ := own14.any
      clear own14
      refine hKQ.out _ _ (hs13r.trans hb) (held_mono (S' := fun w' => Below x14.heap.size x14 w') (fun w' h => (hs13r.trans hb).trans (h.mono (hs13r.trans hb).size)) _ _ _ _ ?_)
      clear hKQ KQ
      replace hq := hq.below (hs13r.trans hb) hq.lt
      replace hr := hr.below (hs13r.trans hb) hr.lt
      replace hB := hB.trans ((hs13r.trans hb).mono hB.size)
      have hs14r : Below x14.heap.size x14 x14 := Below.refl _ _
      try simp only [Act.put, List.setIfInBounds_toArray, List.set_cons_zero, List.set_cons_succ]
      (refine held_takeA 6 (by rfl) ?_ (by kernel_rfl) (fun _ _ _ h => h) hs14r ?_ ?_; rotate_left; (focus (intro wq hSw; have q := run_str wq (by14.below hSw) c14; go_simp; try with_reducible rfl; done)); simp only [Act.put, List.setIfInBounds_toArray, List.set_cons_zero, List.set_cons_succ])
      clear hb
      refine held_callA 8 (by rfl) (by kernel_rfl) (by rfl) (fun KQ hKQ => ?_)
      go_simp
      refine (flowBytes_any gp gs gd gq gr x14 s0' s1' d0' d1').mono ?_
      rintro e x15 ⟨v15, rfl, own15, hb⟩
      obtain ⟨A15, c15, rfl, hc15, by15, _⟩ := own15.any
      clear own15
      replace by14 := by14.nx hb
      refine hKQ.out _ _ (hs14r.trans hb) (held_mono (S' := fun w' => Below x15.heap.size x15 w') (fun w' h => (hs14r.trans hb).trans (h.mono (hs14r.trans hb).size)) _ _ _ _ ?_)
      clear hKQ KQ
      replace hq := hq.below (hs14r.trans hb) hq.lt
      replace hr := hr.below (hs14r.trans hb) hr.lt
      replace hB := hB.trans ((hs14r.trans hb).mono hB.size)
      have hs15r : Below x15.heap.size x15 x15 := Below.refl _ _
      try simp only [Act.put, List.setIfInBounds_toArray, List.set_cons_zero, List.set_cons_succ]
      (refine held_takeA 9 (by rfl) ?_ (by kernel_rfl) (fun _ _ _ h => h) hs15r ?_ ?_; rotate_left; (focus (intro wq hSw; have q := run_str wq (by15.below hSw) c15; go_simp; try with_reducible rfl; done)); simp only [Act.put, List.setIfInBounds_toArray, List.set_cons_zero, List.set_cons_succ])
      (refine held_takeA 10 (by rfl) ?_ (by kernel_rfl) (fun _ _ _ h => h) hs15r ?_ ?_; rotate_left; (focus (intro wq hSw; have hrd : ∀ b o, b < x15.heap.size → wq.cell? ⟨b, o, none⟩ = x15.cell? ⟨b, o, none⟩ := (fun b o h => hSw.cell (p := ⟨b, o, none⟩) h); go_simp; try with_reducible rfl; done)); try simp only [Act.put, List.setIfInBounds_toArray, List.set_cons_zero, List.set_cons_succ])
      (refine held_takeA 14 (by rfl) ?_ (by kernel_rfl) (fun _ _ _ h => h) hs15r ?_ ?_; rotate_left; (focus (intro wq hSw; have hrd : ∀ b o, b < x15.heap.size → wq.cell? ⟨b, o, none⟩ = x15.cell? ⟨b, o, none⟩ := (fun b o h => hSw.cell (p := ⟨b, o, none⟩) h); go_simp; try with_reducible rfl; done)); try simp only [Act.put, List.setIfInBounds_toArray, List.set_cons_zero, List.set_cons_succ])
      (refine held_takeA 15 (by rfl) ?_ (by kernel_rfl) (fun _ _ _ h => h) hs15r ?_ ?_; rotate_left; (focus (intro wq hSw; have hrd : ∀ b o, b < x15.heap.size → wq.cell? ⟨b, o, none⟩ = x15.cell? ⟨b, o, none⟩ := (fun b o h => hSw.cell (p := ⟨b, o, none⟩) h); go_simp; try with_reducible rfl; done)); try simp only [Act.put, List.setIfInBounds_toArray, List.set_cons_zero, List.set_cons_succ])
      (refine held_takeA 16 (by rfl) ?_ (by kernel_rfl) (fun _ _ _ h => h) hs15r ?_ ?_; rotate_left; (focus (intro wq hSw; have hrd : ∀ b o, b < x15.heap.size → wq.cell? ⟨b, o, none⟩ = x15.cell? ⟨b, o, none⟩ := (fun b o h => hSw.cell (p := ⟨b, o, none⟩) h); go_simp; try with_reducible rfl; done)); try simp only [Act.put, List.setIfInBounds_toArray, List.set_cons_zero, List.set_cons_succ])
      clear hb
      refine held_callA 17 (by rfl) (by kernel_rfl) (by rfl) (fun KQ hKQ => ?_)
      go_simp
      refine (lives5_any _).mono ?_
      rintro e x16 ⟨rfl, hb⟩
      refine hKQ.out _ _ (hs15r.trans hb) (held_mono (S' := fun w' => Below x16.heap.size x16 w') (fun w' h => (hs15r.trans hb).trans (h.mono (hs15r.trans hb).size)) _ _ _ _ ?_)
      clear hKQ KQ
      replace hq := hq.below (hs15r.trans hb) hq.lt
      replace hr := hr.below (hs15r.trans hb) hr.lt
      replace hB := hB.trans ((hs15r.trans hb).mono hB.size)
      have hs16r : Below x16.heap.size x16 x16 := Below.refl _ _
      try simp only [Act.put, List.setIfInBounds_toArray, List.set_cons_zero, List.set_cons_succ]
      (refine held_takeA 18 (by rfl) ?_ (by kernel_rfl) (fun _ _ _ h => h) hs16r ?_ ?_; rotate_left; (focus (intro wq hSw; have hrd : ∀ b o, b < x16.heap.size → wq.cell? ⟨b, o, none⟩ = x16.cell? ⟨b, o, none⟩ := (fun b o h => hSw.cell (p := ⟨b, o, none⟩) h); go_simp; try with_reducible rfl; done)); try simp only [Act.put, List.setIfInBounds_toArray, List.set_cons_zero, List.set_cons_succ])
      (refine held_takeA 19 (by rfl) ?_ (by kernel_rfl) (fun _ _ _ h => h) hs16r ?_ ?_; rotate_left; (focus (intro wq hSw; have hrd : ∀ b o, b < x16.heap.size → wq.cell? ⟨b, o, none⟩ = x16.cell? ⟨b, o, none⟩ := (fun b o h => hSw.cell (p := ⟨b, o, none⟩) h); go_simp; try with_reducible rfl; done)); try simp only [Act.put, List.setIfInBounds_toArray, List.set_cons_zero, List.set_cons_succ])
      refine wpAnyH_done (by kernel_rfl) ?_ _
      try refine NoPanic.normal ?_
      go_wp2_with fail
      go_ret
      exact ⟨rfl, hB⟩
  · have hp17 : p = 17 := by omega
    subst hp17
    have f0 : x5.cell? ⟨w.heap.size, 0, none⟩ = some (.int .i64 17) := hq.cellv 0 rfl
    have f1 : x5.cell? ⟨w.heap.size, 1, none⟩ = some (.int .u32 s) := hq.cellv 1 rfl
    have f2 : x5.cell? ⟨w.heap.size, 2, none⟩ = some (.int .u32 d) := hq.cellv 2 rfl
    have f3 : x5.cell? ⟨w.heap.size, 3, none⟩ = some (.int .i64 sp) := hq.cellv 3 rfl
    have f4 : x5.cell? ⟨w.heap.size, 4, none⟩ = some (.int .i64 dp) := hq.cellv 4 rfl
    have g0 : x5.cell? ⟨w.heap.size + 1, 0, none⟩ = some (.int .i64 gp) := hr.cellv 0 rfl
    have g1 : x5.cell? ⟨w.heap.size + 1, 1, none⟩ = some (.int .u32 gs) := hr.cellv 1 rfl
    have g2 : x5.cell? ⟨w.heap.size + 1, 2, none⟩ = some (.int .u32 gd) := hr.cellv 2 rfl
    have g3 : x5.cell? ⟨w.heap.size + 1, 3, none⟩ = some (.int .i64 gq) := hr.cellv 3 rfl
    have g4 : x5.cell? ⟨w.heap.size + 1, 4, none⟩ = some (.int .i64 gr) := hr.cellv 4 rfl
    go_wp2_with fail
    refine (back_any 17 s d sp dp x5).mono ?_
    rintro e x7 ⟨rfl, hb⟩
    replace hI1 := hI1.nx hb
    replace byu := byu.nx hb
    replace hq := hq.below hb hq.lt
    replace hr := hr.below hb hr.lt
    replace hB := hB.trans (hb.mono hB.size)
    clear hb
    go_wp2_with fail
    refine (udp_any x7 17 d s dp sp A n c l hI1 hc (by omega) d0 d1 s0 s1).mono ?_
    rintro e x8 ⟨vc, rfl, ownc, hb⟩
    rw [hLB.out, nB.out] at ownc
    obtain ⟨Ac, cc, rfl, hcc, hcmc, byc, _⟩ := ownc.any2
    replace byu := byu.nx hb
    replace hq := hq.below hb hq.lt
    replace hr := hr.below hb hr.lt
    replace hB := hB.trans (hb.mono hB.size)
    clear hb ownc hI1
    go_wp2_with fail
    refine (of_yes x8 Au _ cu LU byu (by omega) (by omega) (by omega) qU.out.e).mono ?_
    rintro e x9 ⟨rfl, hb⟩
    rw [qU.out.a_, qU.out.b_, qU.out.f_, qU.out.m_, qU.out.p_, qU.out.s_, qU.out.d_]
    rw [show (((8 + n : Nat)) : Int) = 8 + (n : Int) from by omega]
    replace byc := byc.nx hb
    replace hq := hq.below hb hq.lt
    replace hr := hr.below hb hr.lt
    replace hB := hB.trans (hb.mono hB.size)
    clear hb
    have hb := (Below.refl x9.heap.size x9).alloc (Nat.le_refl _) (.cells #[.int .i64 17, .int .u32 s, .int .u32 d, .int .i64 sp, .int .i64 dp, .int .i64 0, .int .i64 (8 + (n : Int))] 33)
    have h9 := Blk.new x9 33 #[.int .i64 17, .int .u32 s, .int .u32 d, .int .i64 sp, .int .i64 dp, .int .i64 0, .int .i64 (8 + (n : Int))]
    replace byc := byc.nx hb
    replace hq := hq.below hb hq.lt
    replace hr := hr.below hb hr.lt
    replace hB := hB.trans (hb.mono hB.size)
    clear hb
    go_wp2_with fail
    generalize hG9 : x9.heap.size = G9 at *
    generalize hy9 : x9.alloc (.cells #[.int .i64 17, .int .u32 s, .int .u32 d, .int .i64 sp, .int .i64 dp, .int .i64 0, .int .i64 (8 + (n : Int))] 33) = y9 at *
    clear hG9 hy9
    refine (of_yes y9 Ac _ cc LB byc (by omega) (by omega) (by omega) qB.out.e).mono ?_
    rintro e x10 ⟨rfl, hb⟩
    rw [qB.out.a_, qB.out.b_, qB.out.f_, qB.out.m_, qB.out.p_, qB.out.s_, qB.out.d_]
    rw [show (((8 + n : Nat)) : Int) = 8 + (n : Int) from by omega]
    replace hq := hq.below hb hq.lt
    replace hr := hr.below hb hr.lt
    replace hB := hB.trans (hb.mono hB.size)
    replace h9 := h9.below hb h9.lt
    clear hb
    have hb := (Below.refl x10.heap.size x10).alloc (Nat.le_refl _) (.cells #[.int .i64 17, .int .u32 d, .int .u32 s, .int .i64 dp, .int .i64 sp, .int .i64 0, .int .i64 (8 + (n : Int))] 33)
    have h10 := Blk.new x10 33 #[.int .i64 17, .int .u32 d, .int .u32 s, .int .i64 dp, .int .i64 sp, .int .i64 0, .int .i64 (8 + (n : Int))]
    replace hq := hq.below hb hq.lt
    replace hr := hr.below hb hr.lt
    replace hB := hB.trans (hb.mono hB.size)
    replace h9 := h9.below hb h9.lt
    clear hb
    generalize hy10 : x10.alloc (.cells #[.int .i64 17, .int .u32 d, .int .u32 s, .int .i64 dp, .int .i64 sp, .int .i64 0, .int .i64 (8 + (n : Int))] 33) = y10 at *
    generalize hG10 : x10.heap.size = G10 at *
    have f0 : y10.cell? ⟨w.heap.size, 0, none⟩ = some (.int .i64 17) := hq.cellv 0 rfl
    have f1 : y10.cell? ⟨w.heap.size, 1, none⟩ = some (.int .u32 s) := hq.cellv 1 rfl
    have f2 : y10.cell? ⟨w.heap.size, 2, none⟩ = some (.int .u32 d) := hq.cellv 2 rfl
    have f3 : y10.cell? ⟨w.heap.size, 3, none⟩ = some (.int .i64 sp) := hq.cellv 3 rfl
    have f4 : y10.cell? ⟨w.heap.size, 4, none⟩ = some (.int .i64 dp) := hq.cellv 4 rfl
    have g0 : y10.cell? ⟨w.heap.size + 1, 0, none⟩ = some (.int .i64 gp) := hr.cellv 0 rfl
    have g1 : y10.cell? ⟨w.heap.size + 1, 1, none⟩ = some (.int .u32 gs) := hr.cellv 1 rfl
    have g2 : y10.cell? ⟨w.heap.size + 1, 2, none⟩ = some (.int .u32 gd) := hr.cellv 2 rfl
    have g3 : y10.cell? ⟨w.heap.size + 1, 3, none⟩ = some (.int .i64 gq) := hr.cellv 3 rfl
    have g4 : y10.cell? ⟨w.heap.size + 1, 4, none⟩ = some (.int .i64 gr) := hr.cellv 4 rfl
    go_wp2_with fail
    clear hG10 hy10
    refine (back_any 17 s d sp dp y10).mono ?_
    rintro e x11 ⟨rfl, hb⟩
    replace hq := hq.below hb hq.lt
    replace hr := hr.below hb hr.lt
    replace hB := hB.trans (hb.mono hB.size)
    replace h9 := h9.below hb h9.lt
    replace h10 := h10.below hb h10.lt
    clear hb
    have f0 : x11.cell? ⟨w.heap.size, 0, none⟩ = some (.int .i64 17) := hq.cellv 0 rfl
    have f1 : x11.cell? ⟨w.heap.size, 1, none⟩ = some (.int .u32 s) := hq.cellv 1 rfl
    have f2 : x11.cell? ⟨w.heap.size, 2, none⟩ = some (.int .u32 d) := hq.cellv 2 rfl
    have f3 : x11.cell? ⟨w.heap.size, 3, none⟩ = some (.int .i64 sp) := hq.cellv 3 rfl
    have f4 : x11.cell? ⟨w.heap.size, 4, none⟩ = some (.int .i64 dp) := hq.cellv 4 rfl
    have g0 : x11.cell? ⟨w.heap.size + 1, 0, none⟩ = some (.int .i64 gp) := hr.cellv 0 rfl
    have g1 : x11.cell? ⟨w.heap.size + 1, 1, none⟩ = some (.int .u32 gs) := hr.cellv 1 rfl
    have g2 : x11.cell? ⟨w.heap.size + 1, 2, none⟩ = some (.int .u32 gd) := hr.cellv 2 rfl
    have g3 : x11.cell? ⟨w.heap.size + 1, 3, none⟩ = some (.int .i64 gq) := hr.cellv 3 rfl
    have g4 : x11.cell? ⟨w.heap.size + 1, 4, none⟩ = some (.int .i64 gr) := hr.cellv 4 rfl
    have k0 : x11.cell? ⟨G9, 0, none⟩ = some (.int .i64 17) := h9.cellv 0 rfl
    have k1 : x11.cell? ⟨G9, 1, none⟩ = some (.int .u32 s) := h9.cellv 1 rfl
    have k2 : x11.cell? ⟨G9, 2, none⟩ = some (.int .u32 d) := h9.cellv 2 rfl
    have k3 : x11.cell? ⟨G9, 3, none⟩ = some (.int .i64 sp) := h9.cellv 3 rfl
    have k4 : x11.cell? ⟨G9, 4, none⟩ = some (.int .i64 dp) := h9.cellv 4 rfl
    have k5 : x11.cell? ⟨G9, 5, none⟩ = some (.int .i64 0) := h9.cellv 5 rfl
    have m0 : x11.cell? ⟨G10, 0, none⟩ = some (.int .i64 17) := h10.cellv 0 rfl
    have m1 : x11.cell? ⟨G10, 1, none⟩ = some (.int .u32 d) := h10.cellv 1 rfl
    have m2 : x11.cell? ⟨G10, 2, none⟩ = some (.int .u32 s) := h10.cellv 2 rfl
    have m3 : x11.cell? ⟨G10, 3, none⟩ = some (.int .i64 dp) := h10.cellv 3 rfl
    have m4 : x11.cell? ⟨G10, 4, none⟩ = some (.int .i64 sp) := h10.cellv 4 rfl
    have m5 : x11.cell? ⟨G10, 5, none⟩ = some (.int .i64 0) := h10.cellv 5 rfl
    have hxr : bits .xor .i64 1 1 = 0 := by decide
    have l1 := hq.lt
    have l2 := hr.lt
    have l3 := h9.lt
    have l4 := h10.lt
    go_wp2_with fail
    clear k0 k1 k2 k3 k4 k5 m0 m1 m2 m3 m4 m5 h9 h10 l3 l4
    have hb := (Below.refl x11.heap.size x11).alloc (Nat.le_refl _) (.cells #[.int .i64 17, .int .u32 d, .int .u32 s, .int .i64 dp, .int .i64 sp] 31)
    replace hq := hq.below hb hq.lt
    replace hr := hr.below hb hr.lt
    replace hB := hB.trans (hb.mono hB.size)
    clear hb
    generalize x11.alloc (.cells #[.int .i64 17, .int .u32 d, .int .u32 s, .int .i64 dp, .int .i64 sp] 31) = x12 at *
    have f0 : x12.cell? ⟨w.heap.size, 0, none⟩ = some (.int .i64 17) := hq.cellv 0 rfl
    have f1 : x12.cell? ⟨w.heap.size, 1, none⟩ = some (.int .u32 s) := hq.cellv 1 rfl
    have f2 : x12.cell? ⟨w.heap.size, 2, none⟩ = some (.int .u32 d) := hq.cellv 2 rfl
    have f3 : x12.cell? ⟨w.heap.size, 3, none⟩ = some (.int .i64 sp) := hq.cellv 3 rfl
    have f4 : x12.cell? ⟨w.heap.size, 4, none⟩ = some (.int .i64 dp) := hq.cellv 4 rfl
    have g0 : x12.cell? ⟨w.heap.size + 1, 0, none⟩ = some (.int .i64 gp) := hr.cellv 0 rfl
    have g1 : x12.cell? ⟨w.heap.size + 1, 1, none⟩ = some (.int .u32 gs) := hr.cellv 1 rfl
    have g2 : x12.cell? ⟨w.heap.size + 1, 2, none⟩ = some (.int .u32 gd) := hr.cellv 2 rfl
    have g3 : x12.cell? ⟨w.heap.size + 1, 3, none⟩ = some (.int .i64 gq) := hr.cellv 3 rfl
    have g4 : x12.cell? ⟨w.heap.size + 1, 4, none⟩ = some (.int .i64 gr) := hr.cellv 4 rfl
    replace l1 := hq.lt
    replace l2 := hr.lt
    by_cases hgg : goodF gp gq gr = true
    rotate_left
    · have hgg2 : goodF gp gq gr = false := by simpa using hgg
      -- region 17: 0 1C 2 3 4 5C 6 7 8C 9 10 11 12 13 14 15 16 17C 18 19
      try refine wp_region_noPanic ?_
      have hs17r : Below x12.heap.size x12 x12.drew := (Below.refl _ _).drew
      refine wp_region_held_drew (S := fun w' => Below x12.heap.size x12 w') (by kernel_rfl) hs17r (fun _ => ?_)
      (refine held_takeA 0 (by rfl) ?_ (by kernel_rfl) (fun _ _ _ h => h) hs17r ?_ ?_; rotate_left; (focus (intro wq hSw; refine exec_load_blk (x := .tmp 4) ?_ ?_ (hr.below hSw hr.lt) _ Try.underlying31 rfl (by kernel_rfl) <;> rfl)); simp only [Act.put, List.setIfInBounds_toArray, List.set_cons_zero, List.set_cons_succ])
      refine held_callA 1 (by rfl) (by kernel_rfl) (by rfl) (fun KQ hKQ => ?_)
      go_simp
      refine (portsGood_any gp gs gd gq gr x12.drew).mono ?_
      rw [hgg2]
      rintro e x13 ⟨rfl, hb⟩
      refine hKQ.out _ _ (hs17r.trans hb) (held_mono (S' := fun w' => Below x13.heap.size x13 w') (fun w' h => (hs17r.trans hb).trans (h.mono (hs17r.trans hb).size)) _ _ _ _ ?_)
      clear hKQ KQ
      replace hq := hq.below (hs17r.trans hb) hq.lt
      replace hr := hr.below (hs17r.trans hb) hr.lt
      replace hB := hB.trans ((hs17r.trans hb).mono hB.size)
      have hs18r : Below x13.heap.size x13 x13 := Below.refl _ _
      try simp only [Act.put, List.setIfInBounds_toArray, List.set_cons_zero, List.set_cons_succ]
      (refine held_takeA 2 (by rfl) ?_ (by kernel_rfl) (fun _ _ _ h => h) hs18r ?_ ?_; rotate_left; (focus (intro wq hSw; have hrd : ∀ b o, b < x13.heap.size → wq.cell? ⟨b, o, none⟩ = x13.cell? ⟨b, o, none⟩ := (fun b o h => hSw.cell (p := ⟨b, o, none⟩) h); go_simp; try with_reducible rfl; done)); try simp only [Act.put, List.setIfInBounds_toArray, List.set_cons_zero, List.set_cons_succ])
      (refine held_takeA 3 (by rfl) ?_ (by kernel_rfl) (fun _ _ _ h => h) hs18r ?_ ?_; rotate_left; (focus (intro wq hSw; have hrd : ∀ b o, b < x13.heap.size → wq.cell? ⟨b, o, none⟩ = x13.cell? ⟨b, o, none⟩ := (fun b o h => hSw.cell (p := ⟨b, o, none⟩) h); go_simp; try with_reducible rfl; done)); try simp only [Act.put, List.setIfInBounds_toArray, List.set_cons_zero, List.set_cons_succ])
      (refine held_skipA 4 (by rfl) (by kernel_rfl) (fun _ _ _ h => h) hs18r ?_; try simp only [Act.put, List.setIfInBounds_toArray, List.set_cons_zero, List.set_cons_succ])
      (refine held_skipA 5 (by rfl) (by kernel_rfl) (fun _ _ _ h => h) hs18r ?_; try simp only [Act.put, List.setIfInBounds_toArray, List.set_cons_zero, List.set_cons_succ])
      (refine held_skipA 6 (by rfl) (by kernel_rfl) (fun _ _ _ h => h) hs18r ?_; try simp only [Act.put, List.setIfInBounds_toArray, List.set_cons_zero, List.set_cons_succ])
      (refine held_skipA 7 (by rfl) (by kernel_rfl) (fun _ _ _ h => h) hs18r ?_; try simp only [Act.put, List.setIfInBounds_toArray, List.set_cons_zero, List.set_cons_succ])
      (refine held_skipA 8 (by rfl) (by kernel_rfl) (fun _ _ _ h => h) hs18r ?_; try simp only [Act.put, List.setIfInBounds_toArray, List.set_cons_zero, List.set_cons_succ])
      (refine held_skipA 9 (by rfl) (by kernel_rfl) (fun _ _ _ h => h) hs18r ?_; try simp only [Act.put, List.setIfInBounds_toArray, List.set_cons_zero, List.set_cons_succ])
      (refine held_skipA 10 (by rfl) (by kernel_rfl) (fun _ _ _ h => h) hs18r ?_; try simp only [Act.put, List.setIfInBounds_toArray, List.set_cons_zero, List.set_cons_succ])
      (refine held_skipA 11 (by rfl) (by kernel_rfl) (fun _ _ _ h => h) hs18r ?_; try simp only [Act.put, List.setIfInBounds_toArray, List.set_cons_zero, List.set_cons_succ])
      (refine held_skipA 12 (by rfl) (by kernel_rfl) (fun _ _ _ h => h) hs18r ?_; try simp only [Act.put, List.setIfInBounds_toArray, List.set_cons_zero, List.set_cons_succ])
      (refine held_skipA 13 (by rfl) (by kernel_rfl) (fun _ _ _ h => h) hs18r ?_; try simp only [Act.put, List.setIfInBounds_toArray, List.set_cons_zero, List.set_cons_succ])
      (refine held_skipA 14 (by rfl) (by kernel_rfl) (fun _ _ _ h => h) hs18r ?_; try simp only [Act.put, List.setIfInBounds_toArray, List.set_cons_zero, List.set_cons_succ])
      (refine held_takeA 15 (by rfl) ?_ (by kernel_rfl) (fun _ _ _ h => h) hs18r ?_ ?_; rotate_left; (focus (intro wq hSw; have hrd : ∀ b o, b < x13.heap.size → wq.cell? ⟨b, o, none⟩ = x13.cell? ⟨b, o, none⟩ := (fun b o h => hSw.cell (p := ⟨b, o, none⟩) h); go_simp; try with_reducible rfl; done)); try simp only [Act.put, List.setIfInBounds_toArray, List.set_cons_zero, List.set_cons_succ])
      (refine held_takeA 16 (by rfl) ?_ (by kernel_rfl) (fun _ _ _ h => h) hs18r ?_ ?_; rotate_left; (focus (intro wq hSw; have hrd : ∀ b o, b < x13.heap.size → wq.cell? ⟨b, o, none⟩ = x13.cell? ⟨b, o, none⟩ := (fun b o h => hSw.cell (p := ⟨b, o, none⟩) h); go_simp; try with_reducible rfl; done)); try simp only [Act.put, List.setIfInBounds_toArray, List.set_cons_zero, List.set_cons_succ])
      clear hb
      refine held_callA 17 (by rfl) (by kernel_rfl) (by rfl) (fun KQ hKQ => ?_)
      go_simp
      refine (lives5_any _).mono ?_
      rintro e x14 ⟨rfl, hb⟩
      refine hKQ.out _ _ (hs18r.trans hb) (held_mono (S' := fun w' => Below x14.heap.size x14 w') (fun w' h => (hs18r.trans hb).trans (h.mono (hs18r.trans hb).size)) _ _ _ _ ?_)
      clear hKQ KQ
      replace hq := hq.below (hs18r.trans hb) hq.lt
      replace hr := hr.below (hs18r.trans hb) hr.lt
      replace hB := hB.trans ((hs18r.trans hb).mono hB.size)
      have hs19r : Below x14.heap.size x14 x14 := Below.refl _ _
      try simp only [Act.put, List.setIfInBounds_toArray, List.set_cons_zero, List.set_cons_succ]
      (refine held_takeA 18 (by rfl) ?_ (by kernel_rfl) (fun _ _ _ h => h) hs19r ?_ ?_; rotate_left; (focus (intro wq hSw; have hrd : ∀ b o, b < x14.heap.size → wq.cell? ⟨b, o, none⟩ = x14.cell? ⟨b, o, none⟩ := (fun b o h => hSw.cell (p := ⟨b, o, none⟩) h); go_simp; try with_reducible rfl; done)); try simp only [Act.put, List.setIfInBounds_toArray, List.set_cons_zero, List.set_cons_succ])
      (refine held_takeA 19 (by rfl) ?_ (by kernel_rfl) (fun _ _ _ h => h) hs19r ?_ ?_; rotate_left; (focus (intro wq hSw; have hrd : ∀ b o, b < x14.heap.size → wq.cell? ⟨b, o, none⟩ = x14.cell? ⟨b, o, none⟩ := (fun b o h => hSw.cell (p := ⟨b, o, none⟩) h); go_simp; try with_reducible rfl; done)); try simp only [Act.put, List.setIfInBounds_toArray, List.set_cons_zero, List.set_cons_succ])
      refine wpAnyH_done (by kernel_rfl) ?_ _
      try refine NoPanic.normal ?_
      go_wp2_with fail
      go_ret
      exact ⟨rfl, hB⟩
    by_cases heq : 17 = gp ∧ s = gs ∧ d = gd ∧ sp = gq ∧ dp = gr
    · obtain ⟨rfl, rfl, rfl, rfl, rfl⟩ := heq
      -- region 17: 0 1C 2 3 4 5C 6 7 8C 9 10 11 12 13 14 15 16 17C 18 19
      try refine wp_region_noPanic ?_
      have hs20r : Below x12.heap.size x12 x12.drew := (Below.refl _ _).drew
      refine wp_region_held_drew (S := fun w' => Below x12.heap.size x12 w') (by kernel_rfl) hs20r (fun _ => ?_)
      (refine held_takeA 0 (by rfl) ?_ (by kernel_rfl) (fun _ _ _ h => h) hs20r ?_ ?_; rotate_left; (focus (intro wq hSw; refine exec_load_blk (x := .tmp 4) ?_ ?_ (hr.below hSw hr.lt) _ Try.underlying31 rfl (by kernel_rfl) <;> rfl)); simp only [Act.put, List.setIfInBounds_toArray, List.set_cons_zero, List.set_cons_succ])
      refine held_callA 1 (by rfl) (by kernel_rfl) (by rfl) (fun KQ hKQ => ?_)
      go_simp
      refine (portsGood_any 17 s d sp dp x12.drew).mono ?_
      rw [hg.out]
      rintro e x13 ⟨rfl, hb⟩
      refine hKQ.out _ _ (hs20r.trans hb) (held_mono (S' := fun w' => Below x13.heap.size x13 w') (fun w' h => (hs20r.trans hb).trans (h.mono (hs20r.trans hb).size)) _ _ _ _ ?_)
      clear hKQ KQ
      replace hq := hq.below (hs20r.trans hb) hq.lt
      replace hr := hr.below (hs20r.trans hb) hr.lt
      replace hB := hB.trans ((hs20r.trans hb).mono hB.size)
      have hs21r : Below x13.heap.size x13 x13 := Below.refl _ _
      try simp only [Act.put, List.setIfInBounds_toArray, List.set_cons_zero, List.set_cons_succ]
      (refine held_takeA 2 (by rfl) ?_ (by kernel_rfl) (fun _ _ _ h => h) hs21r ?_ ?_; rotate_left; (focus (intro wq hSw; have hrd : ∀ b o, b < x13.heap.size → wq.cell? ⟨b, o, none⟩ = x13.cell? ⟨b, o, none⟩ := (fun b o h => hSw.cell (p := ⟨b, o, none⟩) h); go_simp; try with_reducible rfl; done)); try simp only [Act.put, List.setIfInBounds_toArray, List.set_cons_zero, List.set_cons_succ])
      (refine held_takeA 3 (by rfl) ?_ (by kernel_rfl) (fun _ _ _ h => h) hs21r ?_ ?_; rotate_left; (focus (intro wq hSw; have hrd : ∀ b o, b < x13.heap.size → wq.cell? ⟨b, o, none⟩ = x13.cell? ⟨b, o, none⟩ := (fun b o h => hSw.cell (p := ⟨b, o, none⟩) h); go_simp; try with_reducible rfl; done)); try simp only [Act.put, List.setIfInBounds_toArray, List.set_cons_zero, List.set_cons_succ])
      (refine held_takeA 4 (by rfl) ?_ (by kernel_rfl) (fun _ _ _ h => h) hs21r ?_ ?_; rotate_left; (focus (intro wq hSw; refine exec_load_blk (x := .tmp 3) ?_ ?_ (hq.below hSw hq.lt) _ Try.underlying31 rfl (by kernel_rfl) <;> rfl)); simp only [Act.put, List.setIfInBounds_toArray, List.set_cons_zero, List.set_cons_succ])
      (refine held_takeA 7 (by rfl) ?_ (by kernel_rfl) (fun _ _ _ h => h) hs21r ?_ ?_; rotate_left; (focus (intro wq hSw; refine exec_load_blk (x := .tmp 4) ?_ ?_ (hr.below hSw hr.lt) _ Try.underlying31 rfl (by kernel_rfl) <;> rfl)); simp only [Act.put, List.setIfInBounds_toArray, List.set_cons_zero, List.set_cons_succ])
      (refine held_takeA 11 (by rfl) ?_ (by kernel_rfl) (fun _ _ _ h => h) hs21r ?_ ?_; rotate_left; (focus (intro wq hSw; refine exec_load_blk (x := .tmp 3) ?_ ?_ (hq.below hSw hq.lt) _ Try.underlying31 rfl (by kernel_rfl) <;> rfl)); simp only [Act.put, List.setIfInBounds_toArray, List.set_cons_zero, List.set_cons_succ])
      (refine held_takeA 12 (by rfl) ?_ (by kernel_rfl) (fun _ _ _ h => h) hs21r ?_ ?_; rotate_left; (focus (intro wq hSw; refine exec_load_blk (x := .tmp 4) ?_ ?_ (hr.below hSw hr.lt) _ Try.underlying31 rfl (by kernel_rfl) <;> rfl)); simp only [Act.put, List.setIfInBounds_toArray, List.set_cons_zero, List.set_cons_succ])
      (refine held_takeA 13 (by rfl) ?_ (by kernel_rfl) (fun _ _ _ h => h) hs21r ?_ ?_; rotate_left; (focus (intro wq hSw; go_simp; try with_reducible rfl; done)); simp only [Act.put, List.setIfInBounds_toArray, List.set_cons_zero, List.set_cons_succ])
      clear hb
      refine held_callA 5 (by rfl) (by kernel_rfl) (by rfl) (fun KQ hKQ => ?_)
      go_simp
      refine (flowBytes_any 17 s d sp dp x13 s0 s1 d0 d1).mono ?_
      rintro e x14 ⟨v14, rfl, own14, hb⟩
      obtain ⟨A14, c14, rfl, hc14, by14, _⟩ := own14.any
      clear own14
      refine hKQ.out _ _ (hs21r.trans hb) (held_mono (S' := fun w' => Below x14.heap.size x14 w') (fun w' h => (hs21r.trans hb).trans (h.mono (hs21r.trans hb).size)) _ _ _ _ ?_)
      clear hKQ KQ
      replace hq := hq.below (hs21r.trans hb) hq.lt
      replace hr := hr.below (hs21r.trans hb) hr.lt
      replace hB := hB.trans ((hs21r.trans hb).mono hB.size)
      have hs22r : Below x14.heap.size x14 x14 := Below.refl _ _
      try simp only [Act.put, List.setIfInBounds_toArray, List.set_cons_zero, List.set_cons_succ]
      (refine held_takeA 6 (by rfl) ?_ (by kernel_rfl) (fun _ _ _ h => h) hs22r ?_ ?_; rotate_left; (focus (intro wq hSw; have q := run_str wq (by14.below hSw) c14; go_simp; try with_reducible rfl; done)); simp only [Act.put, List.setIfInBounds_toArray, List.set_cons_zero, List.set_cons_succ])
      clear hb
      refine held_callA 8 (by rfl) (by kernel_rfl) (by rfl) (fun KQ hKQ => ?_)
      go_simp
      refine (flowBytes_any 17 s d sp dp x14 s0 s1 d0 d1).mono ?_
      rintro e x15 ⟨v15, rfl, own15, hb⟩
      obtain ⟨A15, c15, rfl, hc15, by15, _⟩ := own15.any
      clear own15
      replace by14 := by14.nx hb
      refine hKQ.out _ _ (hs22r.trans hb) (held_mono (S' := fun w' => Below x15.heap.size x15 w') (fun w' h => (hs22r.trans hb).trans (h.mono (hs22r.trans hb).size)) _ _ _ _ ?_)
      clear hKQ KQ
      replace hq := hq.below (hs22r.trans hb) hq.lt
      replace hr := hr.below (hs22r.trans hb) hr.lt
      replace hB := hB.trans ((hs22r.trans hb).mono hB.size)
      have hs23r : Below x15.heap.size x15 x15 := Below.refl _ _
      try simp only [Act.put, List.setIfInBounds_toArray, List.set_cons_zero, List.set_cons_succ]
      (refine held_takeA 9 (by rfl) ?_ (by kernel_rfl) (fun _ _ _ h => h) hs23r ?_ ?_; rotate_left; (focus (intro wq hSw; have q := run_str wq (by15.below hSw) c15; go_simp; try with_reducible rfl; done)); simp only [Act.put, List.setIfInBounds_toArray, List.set_cons_zero, List.set_cons_succ])
      (refine held_takeA 10 (by rfl) ?_ (by kernel_rfl) (fun _ _ _ h => h) hs23r ?_ ?_; rotate_left; (focus (intro wq hSw; have hrd : ∀ b o, b < x15.heap.size → wq.cell? ⟨b, o, none⟩ = x15.cell? ⟨b, o, none⟩ := (fun b o h => hSw.cell (p := ⟨b, o, none⟩) h); go_simp; try with_reducible rfl; done)); try simp only [Act.put, List.setIfInBounds_toArray, List.set_cons_zero, List.set_cons_succ])
      (refine held_takeA 14 (by rfl) ?_ (by kernel_rfl) (fun _ _ _ h => h) hs23r ?_ ?_; rotate_left; (focus (intro wq hSw; have hrd : ∀ b o, b < x15.heap.size → wq.cell? ⟨b, o, none⟩ = x15.cell? ⟨b, o, none⟩ := (fun b o h => hSw.cell (p := ⟨b, o, none⟩) h); go_simp; try with_reducible rfl; done)); try simp only [Act.put, List.setIfInBounds_toArray, List.set_cons_zero, List.set_cons_succ])
      (refine held_takeA 15 (by rfl) ?_ (by kernel_rfl) (fun _ _ _ h => h) hs23r ?_ ?_; rotate_left; (focus (intro wq hSw; have hrd : ∀ b o, b < x15.heap.size → wq.cell? ⟨b, o, none⟩ = x15.cell? ⟨b, o, none⟩ := (fun b o h => hSw.cell (p := ⟨b, o, none⟩) h); go_simp; try with_reducible rfl; done)); try simp only [Act.put, List.setIfInBounds_toArray, List.set_cons_zero, List.set_cons_succ])
      (refine held_takeA 16 (by rfl) ?_ (by kernel_rfl) (fun _ _ _ h => h) hs23r ?_ ?_; rotate_left; (focus (intro wq hSw; have hrd : ∀ b o, b < x15.heap.size → wq.cell? ⟨b, o, none⟩ = x15.cell? ⟨b, o, none⟩ := (fun b o h => hSw.cell (p := ⟨b, o, none⟩) h); go_simp; try with_reducible rfl; done)); try simp only [Act.put, List.setIfInBounds_toArray, List.set_cons_zero, List.set_cons_succ])
      clear hb
      refine held_callA 17 (by rfl) (by kernel_rfl) (by rfl) (fun KQ hKQ => ?_)
      go_simp
      refine (lives5_any _).mono ?_
      rintro e x16 ⟨rfl, hb⟩
      refine hKQ.out _ _ (hs23r.trans hb) (held_mono (S' := fun w' => Below x16.heap.size x16 w') (fun w' h => (hs23r.trans hb).trans (h.mono (hs23r.trans hb).size)) _ _ _ _ ?_)
      clear hKQ KQ
      replace hq := hq.below (hs23r.trans hb) hq.lt
      replace hr := hr.below (hs23r.trans hb) hr.lt
      replace hB := hB.trans ((hs23r.trans hb).mono hB.size)
      have hs24r : Below x16.heap.size x16 x16 := Below.refl _ _
      try simp only [Act.put, List.setIfInBounds_toArray, List.set_cons_zero, List.set_cons_succ]
      (refine held_takeA 18 (by rfl) ?_ (by kernel_rfl) (fun _ _ _ h => h) hs24r ?_ ?_; rotate_left; (focus (intro wq hSw; have hrd : ∀ b o, b < x16.heap.size → wq.cell? ⟨b, o, none⟩ = x16.cell? ⟨b, o, none⟩ := (fun b o h => hSw.cell (p := ⟨b, o, none⟩) h); go_simp; try with_reducible rfl; done)); try simp only [Act.put, List.setIfInBounds_toArray, List.set_cons_zero, List.set_cons_succ])
      (refine held_takeA 19 (by rfl) ?_ (by kernel_rfl) (fun _ _ _ h => h) hs24r ?_ ?_; rotate_left; (focus (intro wq hSw; have hrd : ∀ b o, b < x16.heap.size → wq.cell? ⟨b, o, none⟩ = x16.cell? ⟨b, o, none⟩ := (fun b o h => hSw.cell (p := ⟨b, o, none⟩) h); go_simp; try with_reducible rfl; done)); try simp only [Act.put, List.setIfInBounds_toArray, List.set_cons_zero, List.set_cons_succ])
      refine wpAnyH_done (by kernel_rfl) ?_ _
      try refine NoPanic.normal ?_
      go_wp2_with fail
      go_ret
      exact ⟨rfl, hB⟩
    · have hstr : ((strB (flowL 17 s d sp dp)).toList == (strB (flowL gp gs gd gq gr)).toList) = false := by
        rw [strB_list, strB_list, beq_eq_false_iff_ne]
        intro h
        exact heq (flowL_inj hg.out hgg s0 s1 d0 d1 s0' s1' d0' d1' h)
      have hgg := hgg
      replace heq := Lib.hid heq
      -- region 17: 0 1C 2 3 4 5C 6 7 8C 9 10 11 12 13 14 15 16 17C 18 19
      try refine wp_region_noPanic ?_
      have hs25r : Below x12.heap.size x12 x12.drew := (Below.refl _ _).drew
      refine wp_region_held_drew (S := fun w' => Below x12.heap.size x12 w') (by kernel_rfl) hs25r (fun _ => ?_)
      (refine held_takeA 0 (by rfl) ?_ (by kernel_rfl) (fun _ _ _ h => h) hs25r ?_ ?_; rotate_left; (focus (intro wq hSw; refine exec_load_blk (x := .tmp 4) ?_ ?_ (hr.below hSw hr.lt) _ Try.underlying31 rfl (by kernel_rfl) <;> rfl)); simp only [Act.put, List.setIfInBounds_toArray, List.set_cons_zero, List.set_cons_succ])
      refine held_callA 1 (by rfl) (by kernel_rfl) (by rfl) (fun KQ hKQ => ?_)
      go_simp
      refine (portsGood_any gp gs gd gq gr x12.drew).mono ?_
      rw [hgg]
      rintro e x13 ⟨rfl, hb⟩
      refine hKQ.out _ _ (hs25r.trans hb) (held_mono (S' := fun w' => Below x13.heap.size x13 w') (fun w' h => (hs25r.trans hb).trans (h.mono (hs25r.trans hb).size)) _ _ _ _ ?_)
      clear hKQ KQ
      replace hq := hq.below (hs25r.trans hb) hq.lt
      replace hr := hr.below (hs25r.trans hb) hr.lt
      replace hB := hB.trans ((hs25r.trans hb).mono hB.size)
      have hs26r : Below x13.heap.size x13 x13 := Below.refl _ _
      try simp only [Act.put, List.setIfInBounds_toArray, List.set_cons_zero, List.set_cons_succ]
      (refine held_takeA 2 (by rfl) ?_ (by kernel_rfl) (fun _ _ _ h => h) hs26r ?_ ?_; rotate_left; (focus (intro wq hSw; have hrd : ∀ b o, b < x13.heap.size → wq.cell? ⟨b, o, none⟩ = x13.cell? ⟨b, o, none⟩ := (fun b o h => hSw.cell (p := ⟨b, o, none⟩) h); go_simp; try with_reducible rfl; done)); try simp only [Act.put, List.setIfInBounds_toArray, List.set_cons_zero, List.set_cons_succ])
      (refine held_takeA 3 (by rfl) ?_ (by kernel_rfl) (fun _ _ _ h => h) hs26r ?_ ?_; rotate_left; (focus (intro wq hSw; have hrd : ∀ b o, b < x13.heap.size → wq.cell? ⟨b, o, none⟩ = x13.cell? ⟨b, o, none⟩ := (fun b o h => hSw.cell (p := ⟨b, o, none⟩) h); go_simp; try with_reducible rfl; done)); try simp only [Act.put, List.setIfInBounds_toArray, List.set_cons_zero, List.set_cons_succ])
      (refine held_takeA 4 (by rfl) ?_ (by kernel_rfl) (fun _ _ _ h => h) hs26r ?_ ?_; rotate_left; (focus (intro wq hSw; refine exec_load_blk (x := .tmp 3) ?_ ?_ (hq.below hSw hq.lt) _ Try.underlying31 rfl (by kernel_rfl) <;> rfl)); simp only [Act.put, List.setIfInBounds_toArray, List.set_cons_zero, List.set_cons_succ])
      (refine held_takeA 7 (by rfl) ?_ (by kernel_rfl) (fun _ _ _ h => h) hs26r ?_ ?_; rotate_left; (focus (intro wq hSw; refine exec_load_blk (x := .tmp 4) ?_ ?_ (hr.below hSw hr.lt) _ Try.underlying31 rfl (by kernel_rfl) <;> rfl)); simp only [Act.put, List.setIfInBounds_toArray, List.set_cons_zero, List.set_cons_succ])
      (refine held_takeA 11 (by rfl) ?_ (by kernel_rfl) (fun _ _ _ h => h) hs26r ?_ ?_; rotate_left; (focus (intro wq hSw; refine exec_load_blk (x := .tmp 3) ?_ ?_ (hq.below hSw hq.lt) _ Try.underlying31 rfl (by kernel_rfl) <;> rfl)); simp only [Act.put, List.setIfInBounds_toArray, List.set_cons_zero, List.set_cons_succ])
      (refine held_takeA 12 (by rfl) ?_ (by kernel_rfl) (fun _ _ _ h => h) hs26r ?_ ?_; rotate_left; (focus (intro wq hSw; refine exec_load_blk (x := .tmp 4) ?_ ?_ (hr.below hSw hr.lt) _ Try.underlying31 rfl (by kernel_rfl) <;> rfl)); simp only [Act.put, List.setIfInBounds_toArray, List.set_cons_zero, List.set_cons_succ])
      (refine held_takeA 13 (by rfl) ?_ (by kernel_rfl) (fun _ _ _ h => h) hs26r ?_ ?_; rotate_left; (focus (intro wq hSw; go_simp; exact flow_ne heq.out)); simp only [Act.put, List.setIfInBounds_toArray, List.set_cons_zero, List.set_cons_succ])
      clear hb
      refine held_callA 5 (by rfl) (by kernel_rfl) (by rfl) (fun KQ hKQ => ?_)
      go_simp
      refine (flowBytes_any 17 s d sp dp x13 s0 s1 d0 d1).mono ?_
      rintro e x14 ⟨v14, rfl, own14, hb⟩
      obtain ⟨A14, c14, rfl, hc14, by14, _⟩ := own14.any
      clear own14
      refine hKQ.out _ _ (hs26r.trans hb) (held_mono (S' := fun w' => Below x14.heap.size x14 w') (fun w' h => (hs26r.trans hb).trans (h.mono (hs26r.trans hb).size)) _ _ _ _ ?_)
      clear hKQ KQ
      replace hq := hq.below (hs26r.trans hb) hq.lt
      replace hr := hr.below (hs26r.trans hb) hr.lt
      replace hB := hB.trans ((hs26r.trans hb).mono hB.size)
      have hs27r : Below x14.heap.size x14 x14 := Below.refl _ _
      try simp only [Act.put, List.setIfInBounds_toArray, List.set_cons_zero, List.set_cons_succ]
      (refine held_takeA 6 (by rfl) ?_ (by kernel_rfl) (fun _ _ _ h => h) hs27r ?_ ?_; rotate_left; (focus (intro wq hSw; have q := run_str wq (by14.below hSw) c14; go_simp; try with_reducible rfl; done)); simp only [Act.put, List.setIfInBounds_toArray, List.set_cons_zero, List.set_cons_succ])
      clear hb
      refine held_callA 8 (by rfl) (by kernel_rfl) (by rfl) (fun KQ hKQ => ?_)
      go_simp
      refine (flowBytes_any gp gs gd gq gr x14 s0' s1' d0' d1').mono ?_
      rintro e x15 ⟨v15, rfl, own15, hb⟩
      obtain ⟨A15, c15, rfl, hc15, by15, _⟩ := own15.any
      clear own15
      replace by14 := by14.nx hb
      refine hKQ.out _ _ (hs27r.trans hb) (held_mono (S' := fun w' => Below x15.heap.size x15 w') (fun w' h => (hs27r.trans hb).trans (h.mono (hs27r.trans hb).size)) _ _ _ _ ?_)
      clear hKQ KQ
      replace hq := hq.below (hs27r.trans hb) hq.lt
      replace hr := hr.below (hs27r.trans hb) hr.lt
      replace hB := hB.trans ((hs27r.trans hb).mono hB.size)
      have hs28r : Below x15.heap.size x15 x15 := Below.refl _ _
      try simp only [Act.put, List.setIfInBounds_toArray, List.set_cons_zero, List.set_cons_succ]
      (refine held_takeA 9 (by rfl) ?_ (by kernel_rfl) (fun _ _ _ h => h) hs28r ?_ ?_; rotate_left; (focus (intro wq hSw; have q := run_str wq (by15.below hSw) c15; go_simp; try with_reducible rfl; done)); simp only [Act.put, List.setIfInBounds_toArray, List.set_cons_zero, List.set_cons_succ])
      (refine held_takeA 10 (by rfl) ?_ (by kernel_rfl) (fun _ _ _ h => h) hs28r ?_ ?_; rotate_left; (focus (intro wq hSw; have hrd : ∀ b o, b < x15.heap.size → wq.cell? ⟨b, o, none⟩ = x15.cell? ⟨b, o, none⟩ := (fun b o h => hSw.cell (p := ⟨b, o, none⟩) h); go_simp; try with_reducible rfl; done)); try simp only [Act.put, List.setIfInBounds_toArray, List.set_cons_zero, List.set_cons_succ])
      (refine held_takeA 14 (by rfl) ?_ (by kernel_rfl) (fun _ _ _ h => h) hs28r ?_ ?_; rotate_left; (focus (intro wq hSw; have hrd : ∀ b o, b < x15.heap.size → wq.cell? ⟨b, o, none⟩ = x15.cell? ⟨b, o, none⟩ := (fun b o h => hSw.cell (p := ⟨b, o, none⟩) h); go_simp; try with_reducible rfl; done)); try simp only [Act.put, List.setIfInBounds_toArray, List.set_cons_zero, List.set_cons_succ])
      (refine held_takeA 15 (by rfl) ?_ (by kernel_rfl) (fun _ _ _ h => h) hs28r ?_ ?_; rotate_left; (focus (intro wq hSw; have hrd : ∀ b o, b < x15.heap.size → wq.cell? ⟨b, o, none⟩ = x15.cell? ⟨b, o, none⟩ := (fun b o h => hSw.cell (p := ⟨b, o, none⟩) h); go_simp; try with_reducible rfl; done)); try simp only [Act.put, List.setIfInBounds_toArray, List.set_cons_zero, List.set_cons_succ])
      (refine held_takeA 16 (by rfl) ?_ (by kernel_rfl) (fun _ _ _ h => h) hs28r ?_ ?_; rotate_left; (focus (intro wq hSw; have hrd : ∀ b o, b < x15.heap.size → wq.cell? ⟨b, o, none⟩ = x15.cell? ⟨b, o, none⟩ := (fun b o h => hSw.cell (p := ⟨b, o, none⟩) h); go_simp; try with_reducible rfl; done)); try simp only [Act.put, List.setIfInBounds_toArray, List.set_cons_zero, List.set_cons_succ])
      clear hb
      refine held_callA 17 (by rfl) (by kernel_rfl) (by rfl) (fun KQ hKQ => ?_)
      go_simp
      refine (lives5_any _).mono ?_
      rintro e x16 ⟨rfl, hb⟩
      refine hKQ.out _ _ (hs28r.trans hb) (held_mono (S' := fun w' => Below x16.heap.size x16 w') (fun w' h => (hs28r.trans hb).trans (h.mono (hs28r.trans hb).size)) _ _ _ _ ?_)
      clear hKQ KQ
      replace hq := hq.below (hs28r.trans hb) hq.lt
      replace hr := hr.below (hs28r.trans hb) hr.lt
      replace hB := hB.trans ((hs28r.trans hb).mono hB.size)
      have hs29r : Below x16.heap.size x16 x16 := Below.refl _ _
      try simp only [Act.put, List.setIfInBounds_toArray, List.set_cons_zero, List.set_cons_succ]
      (refine held_takeA 18 (by rfl) ?_ (by kernel_rfl) (fun _ _ _ h => h) hs29r ?_ ?_; rotate_left; (focus (intro wq hSw; have hrd : ∀ b o, b < x16.heap.size → wq.cell? ⟨b, o, none⟩ = x16.cell? ⟨b, o, none⟩ := (fun b o h => hSw.cell (p := ⟨b, o, none⟩) h); go_simp; try with_reducible rfl; done)); try simp only [Act.put, List.setIfInBounds_toArray, List.set_cons_zero, List.set_cons_succ])
      (refine held_takeA 19 (by rfl) ?_ (by kernel_rfl) (fun _ _ _ h => h) hs29r ?_ ?_; rotate_left; (focus (intro wq hSw; have hrd : ∀ b o, b < x16.heap.size → wq.cell? ⟨b, o, none⟩ = x16.cell? ⟨b, o, none⟩ := (fun b o h => hSw.cell (p := ⟨b, o, none⟩) h); go_simp; try with_reducible rfl; done)); try simp only [Act.put, List.setIfInBounds_toArray, List.set_cons_zero, List.set_cons_succ])
      refine wpAnyH_done (by kernel_rfl) ?_ _
      try refine NoPanic.normal ?_
      go_wp2_with fail
      go_ret
      exact ⟨rfl, hB⟩
end Go.Proofs.Ytnjbnnceeecekaa
