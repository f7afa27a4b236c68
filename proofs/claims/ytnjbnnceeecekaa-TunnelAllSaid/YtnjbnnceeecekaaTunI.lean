/- tunnel: TunnelAll, the walk. -/
import Derived.Test.YtnjbnnceeecekaaTunH
namespace Go.Proofs.Ytnjbnnceeecekaa
set_option linter.unusedVariables false
open Go.RowKit

set_option maxRecDepth 100000 in
set_option maxHeartbeats 8000000 in
theorem tall_walk (A : Option Addr) (n c : Nat) (l : List UInt8) (s d : Int) (w : World) (hc : n ≤ c) (hc2 : c ≤ maxLen) (hI : Byt w w.heap.size A n l) (w1 : (Lit.int .u32 s).wf = true) (w2 : (Lit.int .u32 d).wf = true) :
    Calls Try.prog 7 #[.slice A n c, .int .u32 s, .int .u32 d] w fun e w' => e = .returned (.bool true) ∧ Below w.heap.size w w' := by
  obtain ⟨s0, s1⟩ := bounds_u32 w1
  obtain ⟨d0, d1⟩ := bounds_u32 w2
  clear w1 w2
  by_cases hbig : 12000 < n
  · have i1 : (12000 : Int) < n := by omega
    go_enter Try.func7, Try.ntmps7
    go_wp2_with fail
    refine (lives6_any _).mono ?_
    rintro e w9 ⟨rfl, hb⟩
    go_wp2_with fail
    go_ret
    exact ⟨rfl, hb⟩
  have i1 : (n : Int) ≤ 12000 := by omega
  replace hbig : n ≤ 12000 := by omega
  have hn : n ≤ 10000000 := by omega
  have fs := fS_bd l
  have ol := optL_len l
  have hi1 : (Try.prog.info? 55).map (·.size) = some 9 := by kernel_rfl
  have hi2 : (Try.prog.info? 58).map (·.size) = some 9 := by kernel_rfl
  go_enter Try.func7, Try.ntmps7
  go_wp2_with fail
  refine (wrap_any w A n c l hI hc hc2 hn s d s0 s1 d0 d1).mono ?_
  rintro e w1 ⟨v1, rfl, own1, hB⟩
  obtain ⟨A1, c1, rfl, _, p1, _⟩ := own1.any
  clear own1
  replace hI := hI.nx hB
  go_wp2_with fail
  refine (refWrap_any w1 A n c l hI hc hc2 hn s d s0 s1 d0 d1).mono ?_
  rintro e w2 ⟨v2, rfl, own2, hb⟩
  obtain ⟨A2, c2, rfl, _, p2, _⟩ := own2.any
  clear own2
  replace hI := hI.nx hb
  replace p1 := p1.nx hb
  replace hB := hB.trans (hb.mono hB.size)
  clear hb
  go_wp2_with fail
  generalize hXX : wrapL l s d = X at *
  generalize hEE : wrapE l = EE at *
  clear hXX hEE
  by_cases hu : unwE l = 0
  · have hx : (unwE l == 0) = true := by simpa using hu
    replace hu := Lib.hid hu
    refine (unwrap_yes w2 A n c l hI hc hc2 hn hu.out).mono ?_
    rintro e w3 ⟨vx1, Ao1, co1, rfl, own1, owo1, hb⟩
    obtain ⟨Ax1, cx1, rfl, _, q1, _⟩ := own1.any
    obtain ⟨_, _, he1, _, r1, _⟩ := owo1.any
    injection he1 with he11 he12 he13
    subst he11 he13
    clear he12 own1 owo1
    replace hI := hI.nx hb
    replace p1 := p1.nx hb
    replace p2 := p2.nx hb
    replace hB := hB.trans (hb.mono hB.size)
    clear hb
    have hb := (Below.refl w3.heap.size w3).alloc (Nat.le_refl _) (.cells #[.int .i64 (fT l), .int .i64 (fI l), .int .i64 (fF l), .int .i64 (fG l), .int .i64 (fL l), .int .i64 (fP l), .int .u32 (fS l), .int .u32 (fD l), .slice Ao1 (optL l).length co1] 55)
    have h1 := Blk.new w3 55 #[.int .i64 (fT l), .int .i64 (fI l), .int .i64 (fF l), .int .i64 (fG l), .int .i64 (fL l), .int .i64 (fP l), .int .u32 (fS l), .int .u32 (fD l), .slice Ao1 (optL l).length co1]
    replace hI := hI.nx hb
    replace p1 := p1.nx hb
    replace p2 := p2.nx hb
    replace q1 := q1.nx hb
    replace r1 := r1.nx hb
    replace hB := hB.trans (hb.mono hB.size)
    clear hb
    go_wp2_with fail
    generalize w3.alloc (.cells #[.int .i64 (fT l), .int .i64 (fI l), .int .i64 (fF l), .int .i64 (fG l), .int .i64 (fL l), .int .i64 (fP l), .int .u32 (fS l), .int .u32 (fD l), .slice Ao1 (optL l).length co1] 55) = u3 at *
    generalize w3.heap.size = G1 at *
    refine (refUnwrap_yes u3 A n c l hI hc hc2 hn hu.out).mono ?_
    rintro e w4 ⟨vx2, Ao2, co2, rfl, own2, owo2, hb⟩
    obtain ⟨Ax2, cx2, rfl, _, q2, _⟩ := own2.any
    obtain ⟨_, _, he2, _, r2, _⟩ := owo2.any
    injection he2 with he21 he22 he23
    subst he21 he23
    clear he22 own2 owo2
    replace hI := hI.nx hb
    replace p1 := p1.nx hb
    replace p2 := p2.nx hb
    replace q1 := q1.nx hb
    replace r1 := r1.nx hb
    replace h1 := h1.below hb h1.lt
    replace hB := hB.trans (hb.mono hB.size)
    clear hb
    have hb := (Below.refl w4.heap.size w4).alloc (Nat.le_refl _) (.cells #[.int .i64 (fT l), .int .i64 (fI l), .int .i64 (fF l), .int .i64 (fG l), .int .i64 (fL l), .int .i64 (fP l), .int .u32 (fS l), .int .u32 (fD l), .slice Ao2 (optL l).length co2] 58)
    have h2 := Blk.new w4 58 #[.int .i64 (fT l), .int .i64 (fI l), .int .i64 (fF l), .int .i64 (fG l), .int .i64 (fL l), .int .i64 (fP l), .int .u32 (fS l), .int .u32 (fD l), .slice Ao2 (optL l).length co2]
    replace hI := hI.nx hb
    replace p1 := p1.nx hb
    replace p2 := p2.nx hb
    replace q1 := q1.nx hb
    replace r1 := r1.nx hb
    replace q2 := q2.nx hb
    replace r2 := r2.nx hb
    replace h1 := h1.below hb h1.lt
    replace hB := hB.trans (hb.mono hB.size)
    clear hb
    have s1' := run_str (w4.alloc (.cells #[.int .i64 (fT l), .int .i64 (fI l), .int .i64 (fF l), .int .i64 (fG l), .int .i64 (fL l), .int .i64 (fP l), .int .u32 (fS l), .int .u32 (fD l), .slice Ao2 (optL l).length co2] 58)) p1 c1
    have s2' := run_str (w4.alloc (.cells #[.int .i64 (fT l), .int .i64 (fI l), .int .i64 (fF l), .int .i64 (fG l), .int .i64 (fL l), .int .i64 (fP l), .int .u32 (fS l), .int .u32 (fD l), .slice Ao2 (optL l).length co2] 58)) p2 c2
    have s3' := run_str (w4.alloc (.cells #[.int .i64 (fT l), .int .i64 (fI l), .int .i64 (fF l), .int .i64 (fG l), .int .i64 (fL l), .int .i64 (fP l), .int .u32 (fS l), .int .u32 (fD l), .slice Ao2 (optL l).length co2] 58)) q1 cx1
    have s4' := run_str (w4.alloc (.cells #[.int .i64 (fT l), .int .i64 (fI l), .int .i64 (fF l), .int .i64 (fG l), .int .i64 (fL l), .int .i64 (fP l), .int .u32 (fS l), .int .u32 (fD l), .slice Ao2 (optL l).length co2] 58)) q2 cx2
    have k10 : (w4.alloc (.cells #[.int .i64 (fT l), .int .i64 (fI l), .int .i64 (fF l), .int .i64 (fG l), .int .i64 (fL l), .int .i64 (fP l), .int .u32 (fS l), .int .u32 (fD l), .slice Ao2 (optL l).length co2] 58)).cell? ⟨G1, 0, none⟩ = some (.int .i64 (fT l)) := h1.cellv 0 rfl
    have k11 : (w4.alloc (.cells #[.int .i64 (fT l), .int .i64 (fI l), .int .i64 (fF l), .int .i64 (fG l), .int .i64 (fL l), .int .i64 (fP l), .int .u32 (fS l), .int .u32 (fD l), .slice Ao2 (optL l).length co2] 58)).cell? ⟨G1, 1, none⟩ = some (.int .i64 (fI l)) := h1.cellv 1 rfl
    have k12 : (w4.alloc (.cells #[.int .i64 (fT l), .int .i64 (fI l), .int .i64 (fF l), .int .i64 (fG l), .int .i64 (fL l), .int .i64 (fP l), .int .u32 (fS l), .int .u32 (fD l), .slice Ao2 (optL l).length co2] 58)).cell? ⟨G1, 2, none⟩ = some (.int .i64 (fF l)) := h1.cellv 2 rfl
    have k13 : (w4.alloc (.cells #[.int .i64 (fT l), .int .i64 (fI l), .int .i64 (fF l), .int .i64 (fG l), .int .i64 (fL l), .int .i64 (fP l), .int .u32 (fS l), .int .u32 (fD l), .slice Ao2 (optL l).length co2] 58)).cell? ⟨G1, 3, none⟩ = some (.int .i64 (fG l)) := h1.cellv 3 rfl
    have k14 : (w4.alloc (.cells #[.int .i64 (fT l), .int .i64 (fI l), .int .i64 (fF l), .int .i64 (fG l), .int .i64 (fL l), .int .i64 (fP l), .int .u32 (fS l), .int .u32 (fD l), .slice Ao2 (optL l).length co2] 58)).cell? ⟨G1, 4, none⟩ = some (.int .i64 (fL l)) := h1.cellv 4 rfl
    have k15 : (w4.alloc (.cells #[.int .i64 (fT l), .int .i64 (fI l), .int .i64 (fF l), .int .i64 (fG l), .int .i64 (fL l), .int .i64 (fP l), .int .u32 (fS l), .int .u32 (fD l), .slice Ao2 (optL l).length co2] 58)).cell? ⟨G1, 5, none⟩ = some (.int .i64 (fP l)) := h1.cellv 5 rfl
    have k16 : (w4.alloc (.cells #[.int .i64 (fT l), .int .i64 (fI l), .int .i64 (fF l), .int .i64 (fG l), .int .i64 (fL l), .int .i64 (fP l), .int .u32 (fS l), .int .u32 (fD l), .slice Ao2 (optL l).length co2] 58)).cell? ⟨G1, 6, none⟩ = some (.int .u32 (fS l)) := h1.cellv 6 rfl
    have k17 : (w4.alloc (.cells #[.int .i64 (fT l), .int .i64 (fI l), .int .i64 (fF l), .int .i64 (fG l), .int .i64 (fL l), .int .i64 (fP l), .int .u32 (fS l), .int .u32 (fD l), .slice Ao2 (optL l).length co2] 58)).cell? ⟨G1, 7, none⟩ = some (.int .u32 (fD l)) := h1.cellv 7 rfl
    have k18 : (w4.alloc (.cells #[.int .i64 (fT l), .int .i64 (fI l), .int .i64 (fF l), .int .i64 (fG l), .int .i64 (fL l), .int .i64 (fP l), .int .u32 (fS l), .int .u32 (fD l), .slice Ao2 (optL l).length co2] 58)).cell? ⟨G1, 8, none⟩ = some (.slice Ao1 (optL l).length co1) := h1.cellv 8 rfl
    have k20 : (w4.alloc (.cells #[.int .i64 (fT l), .int .i64 (fI l), .int .i64 (fF l), .int .i64 (fG l), .int .i64 (fL l), .int .i64 (fP l), .int .u32 (fS l), .int .u32 (fD l), .slice Ao2 (optL l).length co2] 58)).cell? ⟨w4.heap.size, 0, none⟩ = some (.int .i64 (fT l)) := h2.cellv 0 rfl
    have k21 : (w4.alloc (.cells #[.int .i64 (fT l), .int .i64 (fI l), .int .i64 (fF l), .int .i64 (fG l), .int .i64 (fL l), .int .i64 (fP l), .int .u32 (fS l), .int .u32 (fD l), .slice Ao2 (optL l).length co2] 58)).cell? ⟨w4.heap.size, 1, none⟩ = some (.int .i64 (fI l)) := h2.cellv 1 rfl
    have k22 : (w4.alloc (.cells #[.int .i64 (fT l), .int .i64 (fI l), .int .i64 (fF l), .int .i64 (fG l), .int .i64 (fL l), .int .i64 (fP l), .int .u32 (fS l), .int .u32 (fD l), .slice Ao2 (optL l).length co2] 58)).cell? ⟨w4.heap.size, 2, none⟩ = some (.int .i64 (fF l)) := h2.cellv 2 rfl
    have k23 : (w4.alloc (.cells #[.int .i64 (fT l), .int .i64 (fI l), .int .i64 (fF l), .int .i64 (fG l), .int .i64 (fL l), .int .i64 (fP l), .int .u32 (fS l), .int .u32 (fD l), .slice Ao2 (optL l).length co2] 58)).cell? ⟨w4.heap.size, 3, none⟩ = some (.int .i64 (fG l)) := h2.cellv 3 rfl
    have k24 : (w4.alloc (.cells #[.int .i64 (fT l), .int .i64 (fI l), .int .i64 (fF l), .int .i64 (fG l), .int .i64 (fL l), .int .i64 (fP l), .int .u32 (fS l), .int .u32 (fD l), .slice Ao2 (optL l).length co2] 58)).cell? ⟨w4.heap.size, 4, none⟩ = some (.int .i64 (fL l)) := h2.cellv 4 rfl
    have k25 : (w4.alloc (.cells #[.int .i64 (fT l), .int .i64 (fI l), .int .i64 (fF l), .int .i64 (fG l), .int .i64 (fL l), .int .i64 (fP l), .int .u32 (fS l), .int .u32 (fD l), .slice Ao2 (optL l).length co2] 58)).cell? ⟨w4.heap.size, 5, none⟩ = some (.int .i64 (fP l)) := h2.cellv 5 rfl
    have k26 : (w4.alloc (.cells #[.int .i64 (fT l), .int .i64 (fI l), .int .i64 (fF l), .int .i64 (fG l), .int .i64 (fL l), .int .i64 (fP l), .int .u32 (fS l), .int .u32 (fD l), .slice Ao2 (optL l).length co2] 58)).cell? ⟨w4.heap.size, 6, none⟩ = some (.int .u32 (fS l)) := h2.cellv 6 rfl
    have k27 : (w4.alloc (.cells #[.int .i64 (fT l), .int .i64 (fI l), .int .i64 (fF l), .int .i64 (fG l), .int .i64 (fL l), .int .i64 (fP l), .int .u32 (fS l), .int .u32 (fD l), .slice Ao2 (optL l).length co2] 58)).cell? ⟨w4.heap.size, 7, none⟩ = some (.int .u32 (fD l)) := h2.cellv 7 rfl
    have k28 : (w4.alloc (.cells #[.int .i64 (fT l), .int .i64 (fI l), .int .i64 (fF l), .int .i64 (fG l), .int .i64 (fL l), .int .i64 (fP l), .int .u32 (fS l), .int .u32 (fD l), .slice Ao2 (optL l).length co2] 58)).cell? ⟨w4.heap.size, 8, none⟩ = some (.slice Ao2 (optL l).length co2) := h2.cellv 8 rfl
    have lt1 := h1.lt
    go_wp2_with fail
    generalize (w4.alloc (.cells #[.int .i64 (fT l), .int .i64 (fI l), .int .i64 (fF l), .int .i64 (fG l), .int .i64 (fL l), .int .i64 (fP l), .int .u32 (fS l), .int .u32 (fD l), .slice Ao2 (optL l).length co2] 58)) = w5 at *
    refine (refSame_any (fT l) (fI l) (fF l) (fG l) (fL l) (fP l) (fS l) (fD l) Ao1 _ co1 (optL l) (fT l) (fI l) (fF l) (fG l) (fL l) (fP l) (fS l) (fD l) Ao2 _ co2 (optL l) _ _ w5 r1 r2 (Nat.le_refl _) (Nat.le_refl _)).mono ?_
    rintro e w6 ⟨rfl, hb⟩
    rw [sameH_refl]
    replace hI := hI.nx hb
    replace hB := hB.trans (hb.mono hB.size)
    clear hb
    clear h1 h2 lt1 k10 k11 k12 k13 k14 k15 k16 k17 k18 k20 k21 k22 k23 k24 k25 k26 k27 k28
    go_wp2_with fail
    refine (is_any w6 A n c l hI hc hc2 hn).mono ?_
    rintro e w7 ⟨rfl, hb⟩
    rw [hx]
    replace hI := hI.nx hb
    replace hB := hB.trans (hb.mono hB.size)
    clear hb
    go_wp2_with fail
    refine (depth_any w7 A n c l hI hc hc2 hn).mono ?_
    rintro e w8 ⟨rfl, hb⟩
    replace hI := hI.nx hb
    replace hB := hB.trans (hb.mono hB.size)
    clear hb
    go_wp2_with fail
    refine (refDepth_any w8 A n c l hI hc hc2 hn).mono ?_
    rintro e w9 ⟨rfl, hb⟩
    replace hI := hI.nx hb
    replace hB := hB.trans (hb.mono hB.size)
    clear hb
    go_wp2_with fail
    refine (lives6_any _).mono ?_
    rintro e w10 ⟨rfl, hb⟩
    go_wp2_with fail
    go_ret
    exact ⟨rfl, hB.trans (hb.mono hB.size)⟩
  · have hx : (unwE l == 0) = false := by simpa using hu
    replace hu := Lib.hid hu
    refine (unwrap_no w2 A n c l hI hc hc2 hn hu.out).mono ?_
    rintro e w3 ⟨rfl, hb⟩
    unfold zCs
    replace hI := hI.nx hb
    replace p1 := p1.nx hb
    replace p2 := p2.nx hb
    replace hB := hB.trans (hb.mono hB.size)
    clear hb
    have hb := (Below.refl w3.heap.size w3).alloc (Nat.le_refl _) (.cells #[.int .i64 0, .int .i64 0, .int .i64 0, .int .i64 0, .int .i64 0, .int .i64 0, .int .u32 0, .int .u32 0, .slice none 0 0] 55)
    have h1 := Blk.new w3 55 #[.int .i64 0, .int .i64 0, .int .i64 0, .int .i64 0, .int .i64 0, .int .i64 0, .int .u32 0, .int .u32 0, .slice none 0 0]
    replace hI := hI.nx hb
    replace p1 := p1.nx hb
    replace p2 := p2.nx hb
    replace hB := hB.trans (hb.mono hB.size)
    clear hb
    go_wp2_with fail
    generalize w3.alloc (.cells #[.int .i64 0, .int .i64 0, .int .i64 0, .int .i64 0, .int .i64 0, .int .i64 0, .int .u32 0, .int .u32 0, .slice none 0 0] 55) = u3 at *
    generalize w3.heap.size = G1 at *
    refine (refUnwrap_no u3 A n c l hI hc hc2 hn hu.out).mono ?_
    rintro e w4 ⟨rfl, hb⟩
    unfold zCs
    replace hI := hI.nx hb
    replace p1 := p1.nx hb
    replace p2 := p2.nx hb
    replace h1 := h1.below hb h1.lt
    replace hB := hB.trans (hb.mono hB.size)
    clear hb
    have hb := (Below.refl w4.heap.size w4).alloc (Nat.le_refl _) (.cells #[.int .i64 0, .int .i64 0, .int .i64 0, .int .i64 0, .int .i64 0, .int .i64 0, .int .u32 0, .int .u32 0, .slice none 0 0] 58)
    have h2 := Blk.new w4 58 #[.int .i64 0, .int .i64 0, .int .i64 0, .int .i64 0, .int .i64 0, .int .i64 0, .int .u32 0, .int .u32 0, .slice none 0 0]
    replace hI := hI.nx hb
    replace p1 := p1.nx hb
    replace p2 := p2.nx hb
    replace h1 := h1.below hb h1.lt
    replace hB := hB.trans (hb.mono hB.size)
    clear hb
    have s1' := run_str (w4.alloc (.cells #[.int .i64 0, .int .i64 0, .int .i64 0, .int .i64 0, .int .i64 0, .int .i64 0, .int .u32 0, .int .u32 0, .slice none 0 0] 58)) p1 c1
    have s2' := run_str (w4.alloc (.cells #[.int .i64 0, .int .i64 0, .int .i64 0, .int .i64 0, .int .i64 0, .int .i64 0, .int .u32 0, .int .u32 0, .slice none 0 0] 58)) p2 c2
    have s3' := run_str (w4.alloc (.cells #[.int .i64 0, .int .i64 0, .int .i64 0, .int .i64 0, .int .i64 0, .int .i64 0, .int .u32 0, .int .u32 0, .slice none 0 0] 58)) (A := none) (Byt.none_ (B := 0)) 0
    have k10 : (w4.alloc (.cells #[.int .i64 0, .int .i64 0, .int .i64 0, .int .i64 0, .int .i64 0, .int .i64 0, .int .u32 0, .int .u32 0, .slice none 0 0] 58)).cell? ⟨G1, 0, none⟩ = some (.int .i64 0) := h1.cellv 0 rfl
    have k11 : (w4.alloc (.cells #[.int .i64 0, .int .i64 0, .int .i64 0, .int .i64 0, .int .i64 0, .int .i64 0, .int .u32 0, .int .u32 0, .slice none 0 0] 58)).cell? ⟨G1, 1, none⟩ = some (.int .i64 0) := h1.cellv 1 rfl
    have k12 : (w4.alloc (.cells #[.int .i64 0, .int .i64 0, .int .i64 0, .int .i64 0, .int .i64 0, .int .i64 0, .int .u32 0, .int .u32 0, .slice none 0 0] 58)).cell? ⟨G1, 2, none⟩ = some (.int .i64 0) := h1.cellv 2 rfl
    have k13 : (w4.alloc (.cells #[.int .i64 0, .int .i64 0, .int .i64 0, .int .i64 0, .int .i64 0, .int .i64 0, .int .u32 0, .int .u32 0, .slice none 0 0] 58)).cell? ⟨G1, 3, none⟩ = some (.int .i64 0) := h1.cellv 3 rfl
    have k14 : (w4.alloc (.cells #[.int .i64 0, .int .i64 0, .int .i64 0, .int .i64 0, .int .i64 0, .int .i64 0, .int .u32 0, .int .u32 0, .slice none 0 0] 58)).cell? ⟨G1, 4, none⟩ = some (.int .i64 0) := h1.cellv 4 rfl
    have k15 : (w4.alloc (.cells #[.int .i64 0, .int .i64 0, .int .i64 0, .int .i64 0, .int .i64 0, .int .i64 0, .int .u32 0, .int .u32 0, .slice none 0 0] 58)).cell? ⟨G1, 5, none⟩ = some (.int .i64 0) := h1.cellv 5 rfl
    have k16 : (w4.alloc (.cells #[.int .i64 0, .int .i64 0, .int .i64 0, .int .i64 0, .int .i64 0, .int .i64 0, .int .u32 0, .int .u32 0, .slice none 0 0] 58)).cell? ⟨G1, 6, none⟩ = some (.int .u32 0) := h1.cellv 6 rfl
    have k17 : (w4.alloc (.cells #[.int .i64 0, .int .i64 0, .int .i64 0, .int .i64 0, .int .i64 0, .int .i64 0, .int .u32 0, .int .u32 0, .slice none 0 0] 58)).cell? ⟨G1, 7, none⟩ = some (.int .u32 0) := h1.cellv 7 rfl
    have k18 : (w4.alloc (.cells #[.int .i64 0, .int .i64 0, .int .i64 0, .int .i64 0, .int .i64 0, .int .i64 0, .int .u32 0, .int .u32 0, .slice none 0 0] 58)).cell? ⟨G1, 8, none⟩ = some (.slice none 0 0) := h1.cellv 8 rfl
    have k20 : (w4.alloc (.cells #[.int .i64 0, .int .i64 0, .int .i64 0, .int .i64 0, .int .i64 0, .int .i64 0, .int .u32 0, .int .u32 0, .slice none 0 0] 58)).cell? ⟨w4.heap.size, 0, none⟩ = some (.int .i64 0) := h2.cellv 0 rfl
    have k21 : (w4.alloc (.cells #[.int .i64 0, .int .i64 0, .int .i64 0, .int .i64 0, .int .i64 0, .int .i64 0, .int .u32 0, .int .u32 0, .slice none 0 0] 58)).cell? ⟨w4.heap.size, 1, none⟩ = some (.int .i64 0) := h2.cellv 1 rfl
    have k22 : (w4.alloc (.cells #[.int .i64 0, .int .i64 0, .int .i64 0, .int .i64 0, .int .i64 0, .int .i64 0, .int .u32 0, .int .u32 0, .slice none 0 0] 58)).cell? ⟨w4.heap.size, 2, none⟩ = some (.int .i64 0) := h2.cellv 2 rfl
    have k23 : (w4.alloc (.cells #[.int .i64 0, .int .i64 0, .int .i64 0, .int .i64 0, .int .i64 0, .int .i64 0, .int .u32 0, .int .u32 0, .slice none 0 0] 58)).cell? ⟨w4.heap.size, 3, none⟩ = some (.int .i64 0) := h2.cellv 3 rfl
    have k24 : (w4.alloc (.cells #[.int .i64 0, .int .i64 0, .int .i64 0, .int .i64 0, .int .i64 0, .int .i64 0, .int .u32 0, .int .u32 0, .slice none 0 0] 58)).cell? ⟨w4.heap.size, 4, none⟩ = some (.int .i64 0) := h2.cellv 4 rfl
    have k25 : (w4.alloc (.cells #[.int .i64 0, .int .i64 0, .int .i64 0, .int .i64 0, .int .i64 0, .int .i64 0, .int .u32 0, .int .u32 0, .slice none 0 0] 58)).cell? ⟨w4.heap.size, 5, none⟩ = some (.int .i64 0) := h2.cellv 5 rfl
    have k26 : (w4.alloc (.cells #[.int .i64 0, .int .i64 0, .int .i64 0, .int .i64 0, .int .i64 0, .int .i64 0, .int .u32 0, .int .u32 0, .slice none 0 0] 58)).cell? ⟨w4.heap.size, 6, none⟩ = some (.int .u32 0) := h2.cellv 6 rfl
    have k27 : (w4.alloc (.cells #[.int .i64 0, .int .i64 0, .int .i64 0, .int .i64 0, .int .i64 0, .int .i64 0, .int .u32 0, .int .u32 0, .slice none 0 0] 58)).cell? ⟨w4.heap.size, 7, none⟩ = some (.int .u32 0) := h2.cellv 7 rfl
    have k28 : (w4.alloc (.cells #[.int .i64 0, .int .i64 0, .int .i64 0, .int .i64 0, .int .i64 0, .int .i64 0, .int .u32 0, .int .u32 0, .slice none 0 0] 58)).cell? ⟨w4.heap.size, 8, none⟩ = some (.slice none 0 0) := h2.cellv 8 rfl
    have lt1 := h1.lt
    go_wp2_with fail
    generalize (w4.alloc (.cells #[.int .i64 0, .int .i64 0, .int .i64 0, .int .i64 0, .int .i64 0, .int .i64 0, .int .u32 0, .int .u32 0, .slice none 0 0] 58)) = w5 at *
    refine (refSame_any 0 0 0 0 0 0 0 0 none 0 0 [] 0 0 0 0 0 0 0 0 none 0 0 [] 0 0 w5 Byt.none_ Byt.none_ (Nat.zero_le _) (Nat.zero_le _)).mono ?_
    rintro e w6 ⟨rfl, hb⟩
    rw [sameH_refl]
    replace hI := hI.nx hb
    replace hB := hB.trans (hb.mono hB.size)
    clear hb
    clear h1 h2 lt1 k10 k11 k12 k13 k14 k15 k16 k17 k18 k20 k21 k22 k23 k24 k25 k26 k27 k28
    go_wp2_with fail
    refine (is_any w6 A n c l hI hc hc2 hn).mono ?_
    rintro e w7 ⟨rfl, hb⟩
    rw [hx]
    replace hI := hI.nx hb
    replace hB := hB.trans (hb.mono hB.size)
    clear hb
    go_wp2_with fail
    refine (depth_any w7 A n c l hI hc hc2 hn).mono ?_
    rintro e w8 ⟨rfl, hb⟩
    replace hI := hI.nx hb
    replace hB := hB.trans (hb.mono hB.size)
    clear hb
    go_wp2_with fail
    refine (refDepth_any w8 A n c l hI hc hc2 hn).mono ?_
    rintro e w9 ⟨rfl, hb⟩
    replace hI := hI.nx hb
    replace hB := hB.trans (hb.mono hB.size)
    clear hb
    go_wp2_with fail
    refine (lives6_any _).mono ?_
    rintro e w10 ⟨rfl, hb⟩
    go_wp2_with fail
    go_ret
    exact ⟨rfl, hB.trans (hb.mono hB.size)⟩
end Go.Proofs.Ytnjbnnceeecekaa
