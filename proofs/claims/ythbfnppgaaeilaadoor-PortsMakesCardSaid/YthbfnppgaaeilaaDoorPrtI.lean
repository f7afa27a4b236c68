/- ports: the document's example; PortsReads. -/
import Derived.Test.YthbfnppgaaeilaaDoorPrtG
namespace Go.Proofs.YthbfnppgaaeilaaDoor
set_option linter.unusedVariables false
open Go.RowKit

set_option maxRecDepth 100000 in
set_option maxHeartbeats 4000000 in
theorem lives5_any (w : World) : Calls Tryd.prog 13 #[] w fun e w' => e = .returned (.bool true) ∧ Below w.heap.size w w' := by
  have g := seg_udp (s := 1) (d := 2) (sp := 3) (dp := 4) (pl := []) (by decide) (by simp) (by omega) (by omega) (by omega) (by omega)
  have hul := (udp_len (s := 1) (d := 2) (sp := 3) (dp := 4) (pl := []) (by decide) (by simp)).1
  simp at hul
  generalize hU : udpL 1 2 3 4 [] = UL at *
  replace g := Lib.hid g
  replace hul := Lib.hid hul
  replace hU := Lib.hid hU
  go_enter Tryd.func13, Tryd.ntmps13
  go_wp2_with fail
  refine (udp_any w 0 1 2 3 4 none 0 0 [] Byt.none_ (Nat.le_refl _) (by omega) (by omega) (by omega) (by omega) (by omega)).mono ?_
  rintro e w1 ⟨v1, rfl, own1, hB⟩
  rw [hU.out, hul.out] at own1
  obtain ⟨A1, c1, rfl, hc1, hcm1, by1, _⟩ := own1.any2
  go_wp2_with fail
  refine (of_yes w1 A1 _ c1 UL by1 hc1 hcm1 (by omega) g.out.e).mono ?_
  rintro e w2 ⟨rfl, hb2⟩
  rw [g.out.a_, g.out.b_, g.out.f_, g.out.m_, g.out.p_, g.out.s_, g.out.d_]
  replace hB := hB.trans (hb2.mono hB.size)
  clear own1
  have hb3 := hB.alloc hB.size (.cells #[.int .i64 17, .int .u32 1, .int .u32 2, .int .i64 3, .int .i64 4, .int .i64 0, .int .i64 ((8 + ([] : List UInt8).length : Nat) : Int)] 59)
  go_wp2_with fail
  go_ret
  exact ⟨rfl, hb3⟩
end Go.Proofs.YthbfnppgaaeilaaDoor
