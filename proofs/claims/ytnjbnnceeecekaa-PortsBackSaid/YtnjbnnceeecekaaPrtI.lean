/- ports: the document's example; PortsReads. -/
import Derived.Test.YtnjbnnceeecekaaPrtG
namespace Go.Proofs.Ytnjbnnceeecekaa
set_option linter.unusedVariables false
open Go.RowKit

set_option maxRecDepth 100000 in
set_option maxHeartbeats 4000000 in
theorem lives5_any (w : World) : Calls Try.prog 9 #[] w fun e w' => e = .returned (.bool true) ∧ Below w.heap.size w w' := by
  have g := seg_udp (s := 1) (d := 2) (sp := 3) (dp := 4) (pl := []) (by decide) (by simp) (by omega) (by omega) (by omega) (by omega)
  have hul := (udp_len (s := 1) (d := 2) (sp := 3) (dp := 4) (pl := []) (by decide) (by simp)).1
  simp at hul
  generalize hU : udpL 1 2 3 4 [] = UL at *
  replace g := Lib.hid g
  replace hul := Lib.hid hul
  replace hU := Lib.hid hU
  go_enter Try.func9, Try.ntmps9
  go_wp2_with fail
  refine (udp_any w 0 1 2 3 4 none 0 0 [] Byt.none_ (Nat.le_refl _) (by omega) (by omega) (by omega) (by omega) (by omega)).mono ?_
  rintro e w1 ⟨v1, rfl, own1, hB⟩
  rw [hU.out, hul.out] at own1
  obtain ⟨A1, c1, rfl, hc1, hcm1, by1, _⟩ := own1.any2
  go_wp2_with fail
  refine (of_yes w1 A1 _ c1 UL by1 hc1 hcm1 (by omega) g.out.e).mono ?_
  rintro e w2 ⟨rfl, hb2⟩
  rw [g.out.a_, g.out.b_, g.out.f_, g.out.m_, g.out.p_, g.out.s_, g.out.d_]
  replace hB := hB.trans (hb2.mono hB.size)
  clear own1
  have hb3 := hB.alloc hB.size (.cells #[.int .i64 17, .int .u32 1, .int .u32 2, .int .i64 3, .int .i64 4, .int .i64 0, .int .i64 ((8 + ([] : List UInt8).length : Nat) : Int)] 33)
  go_wp2_with fail
  go_ret
  exact ⟨rfl, hb3⟩
set_option maxRecDepth 100000 in
set_option maxHeartbeats 8000000 in
theorem reads5_walk (p : Int) (A : Option Addr) (n c : Nat) (l : List UInt8) (w : World) (w0 : (Lit.int .i64 p).wf = true) (hc : n ≤ c) (hc2 : c ≤ maxLen) (hI : Byt w w.heap.size A n l) :
    Calls Try.prog 3 #[.int .i64 p, .slice A n c] w fun e w' => e = .returned (.bool true) ∧ Below w.heap.size w w' := by
  by_cases hbig : 12000 < n
  · have i1 : (12000 : Int) < n := by omega
    go_enter Try.func3, Try.ntmps3
    go_wp2_with fail
    refine (lives5_any _).mono ?_
    rintro e w9 ⟨rfl, hb⟩
    go_wp2_with fail
    go_ret
    exact ⟨rfl, hb⟩
  have i1 : (n : Int) ≤ 12000 := by omega
  replace hbig : n ≤ 12000 := by omega
  have hn : n ≤ 10000000 := by omega
  go_enter Try.func3, Try.ntmps3
  go_wp2_with fail
  refine (portsParse_any w p A n c l hI hc hc2 hn).mono ?_
  rintro e w1 ⟨rfl, hB⟩
  replace hI := hI.nx hB
  go_wp2_with fail
  refine (refPorts_any w1 p A n c l hI hc hc2 hn).mono ?_
  rintro e w2 ⟨rfl, hb⟩
  replace hI := hI.nx hb
  replace hB := hB.trans (hb.mono hB.size)
  clear hb
  go_wp2_with fail
  generalize pqA p l = qA
  generalize pqB p l = qB
  generalize pqF p l = qF
  generalize hpE p l = qE
  by_cases hu : sgE l = 0
  · replace hu := Lib.hid hu
    refine (of_yes w2 A n c l hI hc hc2 hn hu.out).mono ?_
    rintro e w3 ⟨rfl, hb⟩
    replace hI := hI.nx hb
    replace hB := hB.trans (hb.mono hB.size)
    clear hb
    have hb := (Below.refl w3.heap.size w3).alloc (Nat.le_refl _) (.cells #[.int .i64 (fP l), .int .u32 (fS l), .int .u32 (fD l), .int .i64 (pqA (fP l) (payL l)), .int .i64 (pqB (fP l) (payL l)), .int .i64 (pqF (fP l) (payL l)), .int .i64 (payL l).length] 33)
    have h1 := Blk.new w3 33 #[.int .i64 (fP l), .int .u32 (fS l), .int .u32 (fD l), .int .i64 (pqA (fP l) (payL l)), .int .i64 (pqB (fP l) (payL l)), .int .i64 (pqF (fP l) (payL l)), .int .i64 (payL l).length]
    replace hI := hI.nx hb
    replace hB := hB.trans (hb.mono hB.size)
    clear hb
    go_wp2_with fail
    generalize w3.alloc (.cells #[.int .i64 (fP l), .int .u32 (fS l), .int .u32 (fD l), .int .i64 (pqA (fP l) (payL l)), .int .i64 (pqB (fP l) (payL l)), .int .i64 (pqF (fP l) (payL l)), .int .i64 (payL l).length] 33) = u3 at *
    generalize w3.heap.size = G1 at *
    refine (refOf_yes u3 A n c l hI hc hc2 hn hu.out).mono ?_
    rintro e w4 ⟨rfl, hb⟩
    replace hI := hI.nx hb
    replace hB := hB.trans (hb.mono hB.size)
    replace h1 := h1.below hb h1.lt
    clear hb
    have hb := (Below.refl w4.heap.size w4).alloc (Nat.le_refl _) (.cells #[.int .i64 (fP l), .int .u32 (fS l), .int .u32 (fD l), .int .i64 (pqA (fP l) (payL l)), .int .i64 (pqB (fP l) (payL l)), .int .i64 (pqF (fP l) (payL l)), .int .i64 (payL l).length] 36)
    have h2 := Blk.new w4 36 #[.int .i64 (fP l), .int .u32 (fS l), .int .u32 (fD l), .int .i64 (pqA (fP l) (payL l)), .int .i64 (pqB (fP l) (payL l)), .int .i64 (pqF (fP l) (payL l)), .int .i64 (payL l).length]
    replace h1 := h1.below hb h1.lt
    replace hI := hI.nx hb
    replace hB := hB.trans (hb.mono hB.size)
    clear hb
    skip
    have k10 : (w4.alloc (.cells #[.int .i64 (fP l), .int .u32 (fS l), .int .u32 (fD l), .int .i64 (pqA (fP l) (payL l)), .int .i64 (pqB (fP l) (payL l)), .int .i64 (pqF (fP l) (payL l)), .int .i64 (payL l).length] 36)).cell? ⟨G1, 0, none⟩ = some (.int .i64 (fP l)) := h1.cellv 0 rfl
    have k11 : (w4.alloc (.cells #[.int .i64 (fP l), .int .u32 (fS l), .int .u32 (fD l), .int .i64 (pqA (fP l) (payL l)), .int .i64 (pqB (fP l) (payL l)), .int .i64 (pqF (fP l) (payL l)), .int .i64 (payL l).length] 36)).cell? ⟨G1, 1, none⟩ = some (.int .u32 (fS l)) := h1.cellv 1 rfl
    have k12 : (w4.alloc (.cells #[.int .i64 (fP l), .int .u32 (fS l), .int .u32 (fD l), .int .i64 (pqA (fP l) (payL l)), .int .i64 (pqB (fP l) (payL l)), .int .i64 (pqF (fP l) (payL l)), .int .i64 (payL l).length] 36)).cell? ⟨G1, 2, none⟩ = some (.int .u32 (fD l)) := h1.cellv 2 rfl
    have k13 : (w4.alloc (.cells #[.int .i64 (fP l), .int .u32 (fS l), .int .u32 (fD l), .int .i64 (pqA (fP l) (payL l)), .int .i64 (pqB (fP l) (payL l)), .int .i64 (pqF (fP l) (payL l)), .int .i64 (payL l).length] 36)).cell? ⟨G1, 3, none⟩ = some (.int .i64 (pqA (fP l) (payL l))) := h1.cellv 3 rfl
    have k14 : (w4.alloc (.cells #[.int .i64 (fP l), .int .u32 (fS l), .int .u32 (fD l), .int .i64 (pqA (fP l) (payL l)), .int .i64 (pqB (fP l) (payL l)), .int .i64 (pqF (fP l) (payL l)), .int .i64 (payL l).length] 36)).cell? ⟨G1, 4, none⟩ = some (.int .i64 (pqB (fP l) (payL l))) := h1.cellv 4 rfl
    have k15 : (w4.alloc (.cells #[.int .i64 (fP l), .int .u32 (fS l), .int .u32 (fD l), .int .i64 (pqA (fP l) (payL l)), .int .i64 (pqB (fP l) (payL l)), .int .i64 (pqF (fP l) (payL l)), .int .i64 (payL l).length] 36)).cell? ⟨G1, 5, none⟩ = some (.int .i64 (pqF (fP l) (payL l))) := h1.cellv 5 rfl
    have k16 : (w4.alloc (.cells #[.int .i64 (fP l), .int .u32 (fS l), .int .u32 (fD l), .int .i64 (pqA (fP l) (payL l)), .int .i64 (pqB (fP l) (payL l)), .int .i64 (pqF (fP l) (payL l)), .int .i64 (payL l).length] 36)).cell? ⟨G1, 6, none⟩ = some (.int .i64 (payL l).length) := h1.cellv 6 rfl
    have k20 : (w4.alloc (.cells #[.int .i64 (fP l), .int .u32 (fS l), .int .u32 (fD l), .int .i64 (pqA (fP l) (payL l)), .int .i64 (pqB (fP l) (payL l)), .int .i64 (pqF (fP l) (payL l)), .int .i64 (payL l).length] 36)).cell? ⟨w4.heap.size, 0, none⟩ = some (.int .i64 (fP l)) := h2.cellv 0 rfl
    have k21 : (w4.alloc (.cells #[.int .i64 (fP l), .int .u32 (fS l), .int .u32 (fD l), .int .i64 (pqA (fP l) (payL l)), .int .i64 (pqB (fP l) (payL l)), .int .i64 (pqF (fP l) (payL l)), .int .i64 (payL l).length] 36)).cell? ⟨w4.heap.size, 1, none⟩ = some (.int .u32 (fS l)) := h2.cellv 1 rfl
    have k22 : (w4.alloc (.cells #[.int .i64 (fP l), .int .u32 (fS l), .int .u32 (fD l), .int .i64 (pqA (fP l) (payL l)), .int .i64 (pqB (fP l) (payL l)), .int .i64 (pqF (fP l) (payL l)), .int .i64 (payL l).length] 36)).cell? ⟨w4.heap.size, 2, none⟩ = some (.int .u32 (fD l)) := h2.cellv 2 rfl
    have k23 : (w4.alloc (.cells #[.int .i64 (fP l), .int .u32 (fS l), .int .u32 (fD l), .int .i64 (pqA (fP l) (payL l)), .int .i64 (pqB (fP l) (payL l)), .int .i64 (pqF (fP l) (payL l)), .int .i64 (payL l).length] 36)).cell? ⟨w4.heap.size, 3, none⟩ = some (.int .i64 (pqA (fP l) (payL l))) := h2.cellv 3 rfl
    have k24 : (w4.alloc (.cells #[.int .i64 (fP l), .int .u32 (fS l), .int .u32 (fD l), .int .i64 (pqA (fP l) (payL l)), .int .i64 (pqB (fP l) (payL l)), .int .i64 (pqF (fP l) (payL l)), .int .i64 (payL l).length] 36)).cell? ⟨w4.heap.size, 4, none⟩ = some (.int .i64 (pqB (fP l) (payL l))) := h2.cellv 4 rfl
    have k25 : (w4.alloc (.cells #[.int .i64 (fP l), .int .u32 (fS l), .int .u32 (fD l), .int .i64 (pqA (fP l) (payL l)), .int .i64 (pqB (fP l) (payL l)), .int .i64 (pqF (fP l) (payL l)), .int .i64 (payL l).length] 36)).cell? ⟨w4.heap.size, 5, none⟩ = some (.int .i64 (pqF (fP l) (payL l))) := h2.cellv 5 rfl
    have k26 : (w4.alloc (.cells #[.int .i64 (fP l), .int .u32 (fS l), .int .u32 (fD l), .int .i64 (pqA (fP l) (payL l)), .int .i64 (pqB (fP l) (payL l)), .int .i64 (pqF (fP l) (payL l)), .int .i64 (payL l).length] 36)).cell? ⟨w4.heap.size, 6, none⟩ = some (.int .i64 (payL l).length) := h2.cellv 6 rfl
    have lt1 := h1.lt
    go_wp2_with fail
    refine (lives5_any _).mono ?_
    rintro e w10 ⟨rfl, hb⟩
    go_wp2_with fail
    go_ret
    exact ⟨rfl, hB.trans (hb.mono hB.size)⟩
  · replace hu := Lib.hid hu
    refine (of_no w2 A n c l hI hc hc2 hn hu.out).mono ?_
    rintro e w3 ⟨rfl, hb⟩
    replace hI := hI.nx hb
    replace hB := hB.trans (hb.mono hB.size)
    clear hb
    have hb := (Below.refl w3.heap.size w3).alloc (Nat.le_refl _) (.cells #[.int .i64 0, .int .u32 0, .int .u32 0, .int .i64 0, .int .i64 0, .int .i64 0, .int .i64 0] 33)
    have h1 := Blk.new w3 33 #[.int .i64 0, .int .u32 0, .int .u32 0, .int .i64 0, .int .i64 0, .int .i64 0, .int .i64 0]
    replace hI := hI.nx hb
    replace hB := hB.trans (hb.mono hB.size)
    clear hb
    go_wp2_with fail
    generalize w3.alloc (.cells #[.int .i64 0, .int .u32 0, .int .u32 0, .int .i64 0, .int .i64 0, .int .i64 0, .int .i64 0] 33) = u3 at *
    generalize w3.heap.size = G1 at *
    refine (refOf_no u3 A n c l hI hc hc2 hn hu.out).mono ?_
    rintro e w4 ⟨rfl, hb⟩
    replace hI := hI.nx hb
    replace hB := hB.trans (hb.mono hB.size)
    replace h1 := h1.below hb h1.lt
    clear hb
    have hb := (Below.refl w4.heap.size w4).alloc (Nat.le_refl _) (.cells #[.int .i64 0, .int .u32 0, .int .u32 0, .int .i64 0, .int .i64 0, .int .i64 0, .int .i64 0] 36)
    have h2 := Blk.new w4 36 #[.int .i64 0, .int .u32 0, .int .u32 0, .int .i64 0, .int .i64 0, .int .i64 0, .int .i64 0]
    replace h1 := h1.below hb h1.lt
    replace hI := hI.nx hb
    replace hB := hB.trans (hb.mono hB.size)
    clear hb
    skip
    have k10 : (w4.alloc (.cells #[.int .i64 0, .int .u32 0, .int .u32 0, .int .i64 0, .int .i64 0, .int .i64 0, .int .i64 0] 36)).cell? ⟨G1, 0, none⟩ = some (.int .i64 0) := h1.cellv 0 rfl
    have k11 : (w4.alloc (.cells #[.int .i64 0, .int .u32 0, .int .u32 0, .int .i64 0, .int .i64 0, .int .i64 0, .int .i64 0] 36)).cell? ⟨G1, 1, none⟩ = some (.int .u32 0) := h1.cellv 1 rfl
    have k12 : (w4.alloc (.cells #[.int .i64 0, .int .u32 0, .int .u32 0, .int .i64 0, .int .i64 0, .int .i64 0, .int .i64 0] 36)).cell? ⟨G1, 2, none⟩ = some (.int .u32 0) := h1.cellv 2 rfl
    have k13 : (w4.alloc (.cells #[.int .i64 0, .int .u32 0, .int .u32 0, .int .i64 0, .int .i64 0, .int .i64 0, .int .i64 0] 36)).cell? ⟨G1, 3, none⟩ = some (.int .i64 0) := h1.cellv 3 rfl
    have k14 : (w4.alloc (.cells #[.int .i64 0, .int .u32 0, .int .u32 0, .int .i64 0, .int .i64 0, .int .i64 0, .int .i64 0] 36)).cell? ⟨G1, 4, none⟩ = some (.int .i64 0) := h1.cellv 4 rfl
    have k15 : (w4.alloc (.cells #[.int .i64 0, .int .u32 0, .int .u32 0, .int .i64 0, .int .i64 0, .int .i64 0, .int .i64 0] 36)).cell? ⟨G1, 5, none⟩ = some (.int .i64 0) := h1.cellv 5 rfl
    have k16 : (w4.alloc (.cells #[.int .i64 0, .int .u32 0, .int .u32 0, .int .i64 0, .int .i64 0, .int .i64 0, .int .i64 0] 36)).cell? ⟨G1, 6, none⟩ = some (.int .i64 0) := h1.cellv 6 rfl
    have k20 : (w4.alloc (.cells #[.int .i64 0, .int .u32 0, .int .u32 0, .int .i64 0, .int .i64 0, .int .i64 0, .int .i64 0] 36)).cell? ⟨w4.heap.size, 0, none⟩ = some (.int .i64 0) := h2.cellv 0 rfl
    have k21 : (w4.alloc (.cells #[.int .i64 0, .int .u32 0, .int .u32 0, .int .i64 0, .int .i64 0, .int .i64 0, .int .i64 0] 36)).cell? ⟨w4.heap.size, 1, none⟩ = some (.int .u32 0) := h2.cellv 1 rfl
    have k22 : (w4.alloc (.cells #[.int .i64 0, .int .u32 0, .int .u32 0, .int .i64 0, .int .i64 0, .int .i64 0, .int .i64 0] 36)).cell? ⟨w4.heap.size, 2, none⟩ = some (.int .u32 0) := h2.cellv 2 rfl
    have k23 : (w4.alloc (.cells #[.int .i64 0, .int .u32 0, .int .u32 0, .int .i64 0, .int .i64 0, .int .i64 0, .int .i64 0] 36)).cell? ⟨w4.heap.size, 3, none⟩ = some (.int .i64 0) := h2.cellv 3 rfl
    have k24 : (w4.alloc (.cells #[.int .i64 0, .int .u32 0, .int .u32 0, .int .i64 0, .int .i64 0, .int .i64 0, .int .i64 0] 36)).cell? ⟨w4.heap.size, 4, none⟩ = some (.int .i64 0) := h2.cellv 4 rfl
    have k25 : (w4.alloc (.cells #[.int .i64 0, .int .u32 0, .int .u32 0, .int .i64 0, .int .i64 0, .int .i64 0, .int .i64 0] 36)).cell? ⟨w4.heap.size, 5, none⟩ = some (.int .i64 0) := h2.cellv 5 rfl
    have k26 : (w4.alloc (.cells #[.int .i64 0, .int .u32 0, .int .u32 0, .int .i64 0, .int .i64 0, .int .i64 0, .int .i64 0] 36)).cell? ⟨w4.heap.size, 6, none⟩ = some (.int .i64 0) := h2.cellv 6 rfl
    have lt1 := h1.lt
    go_wp2_with fail
    refine (lives5_any _).mono ?_
    rintro e w10 ⟨rfl, hb⟩
    go_wp2_with fail
    go_ret
    exact ⟨rfl, hB.trans (hb.mono hB.size)⟩
end Go.Proofs.Ytnjbnnceeecekaa
