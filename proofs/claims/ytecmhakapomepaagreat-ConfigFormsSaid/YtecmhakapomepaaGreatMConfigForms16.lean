import Derived.Test.YtecmhakapomepaaGreatMConfigForms15
import Derived.Test.YtecmhakapomepaaGreatMConfigForms11
import Derived.Test.YtecmhakapomepaaGreatMConfigForms3
import Derived.Test.YtecmhakapomepaaGreatMConfigForms2
import Derived.BigGuardPart
import Derived.Deep.Cut
import Derived.WalkSpells
import Derived.Test.YtecmhakapomepaaGreatMConfigForms6
/- config: self, the tables' makers, Check's closures, the document's small ones. -/
namespace Go.Proofs.YtecmhakapomepaaGreat
set_option linter.unusedVariables false
open Go Go.RowKit Go.Maps

@[go_sem] theorem make_cnmap (w : World) : (Instr.makeMap 199 none).run Tryz.prog w = .ok (.map (some w.heap.size)) (w.alloc (.map #[] 0)) := rfl
@[go_sem] theorem make_camap (w : World) : (Instr.makeMap 200 none).run Tryz.prog w = .ok (.map (some w.heap.size)) (w.alloc (.map #[] 0)) := rfl
set_option maxRecDepth 100000 in
set_option maxHeartbeats 2000000 in
theorem self_any (w : World) (c : CfgV) : Calls Tryz.prog 56 #[.agg (cfgC c)] w fun e w' => e = .returned (.bool (selfB c)) ∧ Below w.heap.size w w' := by
  have hB := (Below.refl w.heap.size w).alloc (Nat.le_refl _) (.cells (cfgC c) 29)
  have hq := Blk.new w 29 (cfgC c)
  go_enter Tryz.func56, Tryz.ntmps56
  go_upto_region 1 with (fail)
  generalize w.alloc (.cells (cfgC c) 29) = w1 at *
  have q0 : w1.cell? ⟨w.heap.size, 0, none⟩ = some (.int .i64 c.as_) := hq.cellv 0 rfl
  have q1 : w1.cell? ⟨w.heap.size, 1, none⟩ = some (.int .u32 c.id) := hq.cellv 1 rfl
  have q2 : w1.cell? ⟨w.heap.size, 2, none⟩ = some (.int .u32 c.own) := hq.cellv 2 rfl
  have ql := hq.lt
  go_wp2_with fail
  all_goals go_ret
  all_goals refine ⟨ret_bool ?_, hB⟩
  all_goals (unfold selfB rngB; (rw [Bool.eq_iff_iff]; simp <;> omega))
set_option maxRecDepth 100000 in
set_option maxHeartbeats 2000000 in
theorem probeN_any (ev pa : Int) (w : World) : Calls Tryz.prog 95 #[.int .i64 ev, .int .i64 pa] w fun e w' => ∃ p : Option Addr, e = .returned (.pointer p) ∧ p.isSome = probeB ev pa ∧ Below w.heap.size w w' := by
  cases h : probeB ev pa
  · unfold probeB rngB at h
    simp only [Bool.and_eq_false_iff, decide_eq_false_iff_not, Int.not_le] at h
    go_enter Tryz.func95, Tryz.ntmps95
    go_wp2_with fail
    all_goals first
      | (exfalso; omega)
      | (go_ret; exact ⟨none, rfl, rfl, Below.refl _ _⟩)
  · unfold probeB rngB at h
    simp only [Bool.and_eq_true, decide_eq_true_eq] at h
    obtain ⟨⟨h1, h2⟩, h3, h4⟩ := h
    go_enter Tryz.func95, Tryz.ntmps95
    go_wp2_with fail
    all_goals first
      | (exfalso; omega)
      | (go_ret; exact ⟨_, rfl, rfl, (((Below.refl _ _).alloc (Nat.le_refl _) _))⟩)
      | (go_ret; exact ⟨_, rfl, rfl, (((Below.refl _ _).alloc (Nat.le_refl _) _).alloc (by simp) _)⟩)
      | (go_ret; exact ⟨_, rfl, rfl, ((((Below.refl _ _).alloc (Nat.le_refl _) _).alloc (by simp) _).alloc (by simp; omega) _)⟩)
set_option maxRecDepth 100000 in
set_option maxHeartbeats 2000000 in
theorem refProbeN_any (ev pa : Int) (w : World) : Calls Tryz.prog 77 #[.int .i64 ev, .int .i64 pa] w fun e w' => ∃ p : Option Addr, e = .returned (.pointer p) ∧ p.isSome = probeB ev pa ∧ Below w.heap.size w w' := by
  cases h : probeB ev pa
  · unfold probeB rngB at h
    simp only [Bool.and_eq_false_iff, decide_eq_false_iff_not, Int.not_le] at h
    go_enter Tryz.func77, Tryz.ntmps77
    go_wp2_with fail
    all_goals first
      | (exfalso; omega)
      | (go_ret; exact ⟨none, rfl, rfl, Below.refl _ _⟩)
  · unfold probeB rngB at h
    simp only [Bool.and_eq_true, decide_eq_true_eq] at h
    obtain ⟨⟨h1, h2⟩, h3, h4⟩ := h
    go_enter Tryz.func77, Tryz.ntmps77
    go_wp2_with fail
    all_goals first
      | (exfalso; omega)
      | (go_ret; exact ⟨_, rfl, rfl, (((Below.refl _ _).alloc (Nat.le_refl _) _))⟩)
      | (go_ret; exact ⟨_, rfl, rfl, (((Below.refl _ _).alloc (Nat.le_refl _) _).alloc (by simp) _)⟩)
      | (go_ret; exact ⟨_, rfl, rfl, ((((Below.refl _ _).alloc (Nat.le_refl _) _).alloc (by simp) _).alloc (by simp; omega) _)⟩)
set_option maxRecDepth 100000 in
set_option maxHeartbeats 2000000 in
theorem refFlowsN_any (ro idl : Int) (w : World) : Calls Tryz.prog 78 #[.int .i64 ro, .int .i64 idl] w fun e w' => ∃ p : Option Addr, e = .returned (.pointer p) ∧ p.isSome = flowsB ro idl ∧ Below w.heap.size w w' := by
  cases h : flowsB ro idl
  · unfold flowsB rngB at h
    simp only [Bool.and_eq_false_iff, decide_eq_false_iff_not, Int.not_le] at h
    go_enter Tryz.func78, Tryz.ntmps78
    go_wp2_with fail
    all_goals first
      | (exfalso; omega)
      | (go_ret; exact ⟨none, rfl, rfl, Below.refl _ _⟩)
  · unfold flowsB rngB at h
    simp only [Bool.and_eq_true, decide_eq_true_eq] at h
    obtain ⟨⟨h1, h2⟩, h3, h4⟩ := h
    go_enter Tryz.func78, Tryz.ntmps78
    go_wp2_with fail
    all_goals first
      | (exfalso; omega)
      | (go_ret; exact ⟨_, rfl, rfl, (((Below.refl _ _).alloc (Nat.le_refl _) _))⟩)
      | (go_ret; exact ⟨_, rfl, rfl, (((Below.refl _ _).alloc (Nat.le_refl _) _).alloc (by simp) _)⟩)
      | (go_ret; exact ⟨_, rfl, rfl, ((((Below.refl _ _).alloc (Nat.le_refl _) _).alloc (by simp) _).alloc (by simp; omega) _)⟩)
theorem riseN_any (r f : Int) (w : World) : Calls Tryz.prog 94 #[.int .i64 r, .int .i64 f] w fun e w' => ∃ p : Option Addr, e = .returned (.pointer p) ∧ p.isSome = riseB r f ∧ Below w.heap.size w w' := by
  cases h : riseB r f
  · unfold riseB rngB at h
    simp only [Bool.and_eq_false_iff, decide_eq_false_iff_not, Int.not_le] at h
    refine (rs.new_no r f w (by omega)).mono ?_
    rintro e w' ⟨rfl, rfl⟩
    exact ⟨none, rfl, rfl, Below.refl _ _⟩
  · unfold riseB rngB at h
    simp only [Bool.and_eq_true, decide_eq_true_eq] at h
    refine (rs.new_yes r f w h.1 h.2).mono ?_
    rintro e w' ⟨g, rfl, hg, hq, hb⟩
    exact ⟨_, rfl, rfl, hb⟩
theorem refRiseN_any (r f : Int) (w : World) : Calls Tryz.prog 76 #[.int .i64 r, .int .i64 f] w fun e w' => ∃ p : Option Addr, e = .returned (.pointer p) ∧ p.isSome = riseB r f ∧ Below w.heap.size w w' := by
  cases h : riseB r f
  · unfold riseB rngB at h
    simp only [Bool.and_eq_false_iff, decide_eq_false_iff_not, Int.not_le] at h
    refine (rs.refNew_no r f w (by omega)).mono ?_
    rintro e w' ⟨rfl, rfl⟩
    exact ⟨none, rfl, rfl, Below.refl _ _⟩
  · unfold riseB rngB at h
    simp only [Bool.and_eq_true, decide_eq_true_eq] at h
    refine (rs.refNew_yes r f w h.1 h.2).mono ?_
    rintro e w' ⟨g, rfl, hg, hq, hb⟩
    exact ⟨_, rfl, rfl, hb⟩
set_option maxRecDepth 100000 in
set_option maxHeartbeats 2000000 in
theorem flowsN_any (ro idl : Int) (w : World) : Calls Tryz.prog 96 #[.int .i64 ro, .int .i64 idl] w fun e w' => ∃ p : Option Addr, e = .returned (.pointer p) ∧ p.isSome = flowsB ro idl ∧ Below w.heap.size w w' := by
  cases h : flowsB ro idl
  · unfold flowsB rngB at h
    simp only [Bool.and_eq_false_iff, decide_eq_false_iff_not, Int.not_le] at h
    go_enter Tryz.func96, Tryz.ntmps96
    go_upto_region 3 with (fail)
    all_goals first
      | (exfalso; omega)
      | (go_ret; exact ⟨none, rfl, rfl, Below.refl _ _⟩)
  · unfold flowsB rngB at h
    simp only [Bool.and_eq_true, decide_eq_true_eq] at h
    obtain ⟨⟨h1, h2⟩, h3, h4⟩ := h
    refine (newF_in w ro idl h1 h2 h3 h4).mono ?_
    rintro e w' ⟨g, m, x, rfl, _, _, _, _, hb⟩
    exact ⟨_, rfl, rfl, hb⟩
end Go.Proofs.YtecmhakapomepaaGreat

/- config: a peer, its policy and its speaker; the document's. -/
namespace Go.Proofs.YtecmhakapomepaaGreat
set_option linter.unusedVariables false
open Go Go.RowKit Go.Maps

def peerA (p : PeerV) : Array Value := #[.int .i64 p.as_, .int .i64 p.hold, .int .i64 p.retry, .int .i64 p.gap, .int .i64 p.med, .int .i64 p.prep, .int .i64 p.back]
def peerZ : PeerV := ⟨0, 0, 0, 0, 0, 0, 0⟩
/-- the policy, and the speaker's configuration, of a peer. -/
def polA (c : CfgV) (p : PeerV) : Array Value := #[.int .i64 c.as_, .int .u32 c.own, .int .i64 p.med, .int .i64 p.prep, .int .i64 p.back]
def spkA (c : CfgV) (p : PeerV) : Array Value := #[.int .i64 c.as_, .int .i64 p.as_, .int .u32 c.id, .int .i64 p.hold, .int .i64 p.retry, .int .i64 c.queue, .int .i64 p.gap]
def polZ : Array Value := #[.int .i64 0, .int .u32 0, .int .i64 0, .int .i64 0, .int .i64 0]
def spkZ : Array Value := #[.int .i64 0, .int .i64 0, .int .u32 0, .int .i64 0, .int .i64 0, .int .i64 0, .int .i64 0]
set_option maxRecDepth 100000 in
set_option maxHeartbeats 4000000 in
theorem peer_yes (w : World) (c : CfgV) (k : Nat) (p : PeerV) (h : CfgIn w c) (hp : c.P[k]? = some p) : Calls Tryz.prog 112 #[.agg (cfgC c), .int .i64 (k : Int)] w fun e w' => e = .returned (.tuple #[.agg (peerA p), .bool true]) ∧ Below w.heap.size w w' := by
  have hkn : k < c.pn := by have := (List.getElem?_eq_some_iff.1 hp).1; have := h.peers.1; omega
  have hp9 := Lib.hid hp
  have hB := ((Below.refl w.heap.size w).alloc (Nat.le_refl _) (.cells (cfgC c) 29)).alloc (by simp) (.cells #[.int .i64 0, .int .i64 0, .int .i64 0, .int .i64 0, .int .i64 0, .int .i64 0, .int .i64 0] 62)
  have hq := (Blk.new w 29 (cfgC c)).alloc (.cells #[.int .i64 0, .int .i64 0, .int .i64 0, .int .i64 0, .int .i64 0, .int .i64 0, .int .i64 0] 62)
  have hz := Blk.new (w.alloc (.cells (cfgC c) 29)) 62 #[.int .i64 0, .int .i64 0, .int .i64 0, .int .i64 0, .int .i64 0, .int .i64 0, .int .i64 0]
  rw [World.size_alloc] at hz
  have hC := h.nx hB
  have hi : (Tryz.prog.info? 62).map (·.size) = some (#[.int .i64 0, .int .i64 0, .int .i64 0, .int .i64 0, .int .i64 0, .int .i64 0, .int .i64 0] : Array Value).size := by kernel_rfl
  go_enter Tryz.func112, Tryz.ntmps112
  go_upto_region 1 with (fail)
  generalize (w.alloc (.cells (cfgC c) 29)).alloc (.cells #[.int .i64 0, .int .i64 0, .int .i64 0, .int .i64 0, .int .i64 0, .int .i64 0, .int .i64 0] 62) = w1 at *
  have q3 : w1.cell? ⟨w.heap.size, 3, none⟩ = some (.slice c.pA c.pn c.pc) := hq.cellv 3 rfl
  have ql := hq.lt
  have zl := hz.lt
  obtain ⟨b, off, p', e1, hb, hp', hok, r0, r1, r2, r3, r4, r5, r6⟩ := peer_cells hC.peers hkn
  rw [hp9.out] at hp'
  injection hp' with hp'
  subst hp'
  rw [e1] at q3
  have k1 : (k : Int) < c.pn := by omega
  have k0 : (0 : Int) ≤ k := by omega
  have k2 : decide ((k : Int) < 0) = false := by simp
  have k3 : decide ((c.pn : Int) ≤ k) = false := by simp; omega
  clear hp
  go_wp2_with (refine wpList_store_blk rfl hz 62 (.tmp 4) (.tmp 20) rfl rfl rfl rfl hi (by simp [Value.oneCell']) ?_; intro w9 hz9 hg9)
  exact bodyPost_ret (results_ct rfl _ rfl (load_blk hz9 Tryz.underlying62 rfl hi)) rfl ⟨rfl, below_own hB hg9 hB.size (by omega)⟩
set_option maxRecDepth 100000 in
set_option maxHeartbeats 4000000 in
theorem refPolicy_yes (w : World) (c : CfgV) (k : Nat) (p : PeerV) (h : CfgIn w c) (hp : c.P[k]? = some p) : Calls Tryz.prog 106 #[.agg (cfgC c), .int .i64 (k : Int)] w fun e w' => e = .returned (.agg (polA c p)) ∧ Below w.heap.size w w' := by
  have hkn : k < c.pn := by have := (List.getElem?_eq_some_iff.1 hp).1; have := h.peers.1; omega
  have hp9 := Lib.hid hp
  have hB := ((Below.refl w.heap.size w).alloc (Nat.le_refl _) (.cells (cfgC c) 41)).alloc (by simp) (.cells #[.int .i64 0, .int .u32 0, .int .i64 0, .int .i64 0, .int .i64 0] 162)
  have hq := (Blk.new w 41 (cfgC c)).alloc (.cells #[.int .i64 0, .int .u32 0, .int .i64 0, .int .i64 0, .int .i64 0] 162)
  have hz := Blk.new (w.alloc (.cells (cfgC c) 41)) 162 #[.int .i64 0, .int .u32 0, .int .i64 0, .int .i64 0, .int .i64 0]
  rw [World.size_alloc] at hz
  have hC := h.nx hB
  have hi : (Tryz.prog.info? 162).map (·.size) = some (#[.int .i64 0, .int .u32 0, .int .i64 0, .int .i64 0, .int .i64 0] : Array Value).size := by kernel_rfl
  go_enter Tryz.func106, Tryz.ntmps106
  go_upto_region 1 with (fail)
  generalize (w.alloc (.cells (cfgC c) 41)).alloc (.cells #[.int .i64 0, .int .u32 0, .int .i64 0, .int .i64 0, .int .i64 0] 162) = w1 at *
  have q0 : w1.cell? ⟨w.heap.size, 0, none⟩ = some (.int .i64 c.as_) := hq.cellv 0 rfl
  have q2 : w1.cell? ⟨w.heap.size, 2, none⟩ = some (.int .u32 c.own) := hq.cellv 2 rfl
  have q3 : w1.cell? ⟨w.heap.size, 3, none⟩ = some (.slice c.pA c.pn c.pc) := hq.cellv 3 rfl
  have ql := hq.lt
  have zl := hz.lt
  obtain ⟨b, off, p', e1, hb, hp', hok, r0, r1, r2, r3, r4, r5, r6⟩ := peer_cells hC.peers hkn
  rw [hp9.out] at hp'
  injection hp' with hp'
  subst hp'
  rw [e1] at q3
  have k1 : (k : Int) < c.pn := by omega
  have k0 : (0 : Int) ≤ k := by omega
  have k2 : decide ((k : Int) < 0) = false := by simp
  have k3 : decide ((c.pn : Int) ≤ k) = false := by simp; omega
  clear hp
  have hbx := (Below.refl w1.heap.size w1).alloc (Nat.le_refl _) (.cells #[.int .i64 p.as_, .int .i64 p.hold, .int .i64 p.retry, .int .i64 p.gap, .int .i64 p.med, .int .i64 p.prep, .int .i64 p.back] 80)
  have hq5 := Blk.new w1 80 #[.int .i64 p.as_, .int .i64 p.hold, .int .i64 p.retry, .int .i64 p.gap, .int .i64 p.med, .int .i64 p.prep, .int .i64 p.back]
  go_upto_region 4 with (fail)
  generalize w1.alloc (.cells #[.int .i64 p.as_, .int .i64 p.hold, .int .i64 p.retry, .int .i64 p.gap, .int .i64 p.med, .int .i64 p.prep, .int .i64 p.back] 80) = w2 at *
  replace hq := hq.below hbx ql
  replace hz := hz.below hbx zl
  replace hB := hB.trans (hbx.mono hB.size)
  clear q0 q2 q3 r0 r1 r2 r3 r4 r5 r6 ql zl hbx
  have q0 : w2.cell? ⟨w.heap.size, 0, none⟩ = some (.int .i64 c.as_) := hq.cellv 0 rfl
  have q2 : w2.cell? ⟨w.heap.size, 2, none⟩ = some (.int .u32 c.own) := hq.cellv 2 rfl
  have ql := hq.lt
  have zl := hz.lt
  have p0 : w2.cell? ⟨w1.heap.size, 0, none⟩ = some (.int .i64 p.as_) := hq5.cellv 0 rfl
  have p1 : w2.cell? ⟨w1.heap.size, 1, none⟩ = some (.int .i64 p.hold) := hq5.cellv 1 rfl
  have p2 : w2.cell? ⟨w1.heap.size, 2, none⟩ = some (.int .i64 p.retry) := hq5.cellv 2 rfl
  have p3 : w2.cell? ⟨w1.heap.size, 3, none⟩ = some (.int .i64 p.gap) := hq5.cellv 3 rfl
  have p4 : w2.cell? ⟨w1.heap.size, 4, none⟩ = some (.int .i64 p.med) := hq5.cellv 4 rfl
  have p5 : w2.cell? ⟨w1.heap.size, 5, none⟩ = some (.int .i64 p.prep) := hq5.cellv 5 rfl
  have p6 : w2.cell? ⟨w1.heap.size, 6, none⟩ = some (.int .i64 p.back) := hq5.cellv 6 rfl
  have pl := hq5.lt
  go_wp2_with (refine wpList_store_blk rfl hz 162 (.tmp 4) (.tmp 31) rfl rfl rfl rfl hi (by simp [Value.oneCell']) ?_; intro w9 hz9 hg9)
  exact bodyPost_ret (results_c rfl _ rfl (load_blk hz9 Tryz.underlying162 rfl hi)) rfl ⟨rfl, below_own hB hg9 hB.size (by omega)⟩
set_option maxRecDepth 100000 in
set_option maxHeartbeats 4000000 in
theorem refSpeaker_yes (w : World) (c : CfgV) (k : Nat) (p : PeerV) (h : CfgIn w c) (hp : c.P[k]? = some p) : Calls Tryz.prog 103 #[.agg (cfgC c), .int .i64 (k : Int)] w fun e w' => e = .returned (.agg (spkA c p)) ∧ Below w.heap.size w w' := by
  have hkn : k < c.pn := by have := (List.getElem?_eq_some_iff.1 hp).1; have := h.peers.1; omega
  have hp9 := Lib.hid hp
  have hB := ((Below.refl w.heap.size w).alloc (Nat.le_refl _) (.cells (cfgC c) 41)).alloc (by simp) (.cells #[.int .i64 0, .int .i64 0, .int .u32 0, .int .i64 0, .int .i64 0, .int .i64 0, .int .i64 0] 158)
  have hq := (Blk.new w 41 (cfgC c)).alloc (.cells #[.int .i64 0, .int .i64 0, .int .u32 0, .int .i64 0, .int .i64 0, .int .i64 0, .int .i64 0] 158)
  have hz := Blk.new (w.alloc (.cells (cfgC c) 41)) 158 #[.int .i64 0, .int .i64 0, .int .u32 0, .int .i64 0, .int .i64 0, .int .i64 0, .int .i64 0]
  rw [World.size_alloc] at hz
  have hC := h.nx hB
  have hi : (Tryz.prog.info? 158).map (·.size) = some (#[.int .i64 0, .int .i64 0, .int .u32 0, .int .i64 0, .int .i64 0, .int .i64 0, .int .i64 0] : Array Value).size := by kernel_rfl
  go_enter Tryz.func103, Tryz.ntmps103
  go_upto_region 1 with (fail)
  generalize (w.alloc (.cells (cfgC c) 41)).alloc (.cells #[.int .i64 0, .int .i64 0, .int .u32 0, .int .i64 0, .int .i64 0, .int .i64 0, .int .i64 0] 158) = w1 at *
  have q0 : w1.cell? ⟨w.heap.size, 0, none⟩ = some (.int .i64 c.as_) := hq.cellv 0 rfl
  have q1 : w1.cell? ⟨w.heap.size, 1, none⟩ = some (.int .u32 c.id) := hq.cellv 1 rfl
  have q3 : w1.cell? ⟨w.heap.size, 3, none⟩ = some (.slice c.pA c.pn c.pc) := hq.cellv 3 rfl
  have q12 : w1.cell? ⟨w.heap.size, 12, none⟩ = some (.int .i64 c.queue) := hq.cellv 12 rfl
  have ql := hq.lt
  have zl := hz.lt
  obtain ⟨b, off, p', e1, hb, hp', hok, r0, r1, r2, r3, r4, r5, r6⟩ := peer_cells hC.peers hkn
  rw [hp9.out] at hp'
  injection hp' with hp'
  subst hp'
  rw [e1] at q3
  have k1 : (k : Int) < c.pn := by omega
  have k0 : (0 : Int) ≤ k := by omega
  have k2 : decide ((k : Int) < 0) = false := by simp
  have k3 : decide ((c.pn : Int) ≤ k) = false := by simp; omega
  clear hp
  have hbx := (Below.refl w1.heap.size w1).alloc (Nat.le_refl _) (.cells #[.int .i64 p.as_, .int .i64 p.hold, .int .i64 p.retry, .int .i64 p.gap, .int .i64 p.med, .int .i64 p.prep, .int .i64 p.back] 80)
  have hq5 := Blk.new w1 80 #[.int .i64 p.as_, .int .i64 p.hold, .int .i64 p.retry, .int .i64 p.gap, .int .i64 p.med, .int .i64 p.prep, .int .i64 p.back]
  go_upto_region 4 with (fail)
  generalize w1.alloc (.cells #[.int .i64 p.as_, .int .i64 p.hold, .int .i64 p.retry, .int .i64 p.gap, .int .i64 p.med, .int .i64 p.prep, .int .i64 p.back] 80) = w2 at *
  replace hq := hq.below hbx ql
  replace hz := hz.below hbx zl
  replace hB := hB.trans (hbx.mono hB.size)
  clear q0 q1 q3 q12 r0 r1 r2 r3 r4 r5 r6 ql zl hbx
  have q0 : w2.cell? ⟨w.heap.size, 0, none⟩ = some (.int .i64 c.as_) := hq.cellv 0 rfl
  have q1 : w2.cell? ⟨w.heap.size, 1, none⟩ = some (.int .u32 c.id) := hq.cellv 1 rfl
  have q12 : w2.cell? ⟨w.heap.size, 12, none⟩ = some (.int .i64 c.queue) := hq.cellv 12 rfl
  have ql := hq.lt
  have zl := hz.lt
  have p0 : w2.cell? ⟨w1.heap.size, 0, none⟩ = some (.int .i64 p.as_) := hq5.cellv 0 rfl
  have p1 : w2.cell? ⟨w1.heap.size, 1, none⟩ = some (.int .i64 p.hold) := hq5.cellv 1 rfl
  have p2 : w2.cell? ⟨w1.heap.size, 2, none⟩ = some (.int .i64 p.retry) := hq5.cellv 2 rfl
  have p3 : w2.cell? ⟨w1.heap.size, 3, none⟩ = some (.int .i64 p.gap) := hq5.cellv 3 rfl
  have p4 : w2.cell? ⟨w1.heap.size, 4, none⟩ = some (.int .i64 p.med) := hq5.cellv 4 rfl
  have p5 : w2.cell? ⟨w1.heap.size, 5, none⟩ = some (.int .i64 p.prep) := hq5.cellv 5 rfl
  have p6 : w2.cell? ⟨w1.heap.size, 6, none⟩ = some (.int .i64 p.back) := hq5.cellv 6 rfl
  have pl := hq5.lt
  go_wp2_with (refine wpList_store_blk rfl hz 158 (.tmp 4) (.tmp 36) rfl rfl rfl rfl hi (by simp [Value.oneCell']) ?_; intro w9 hz9 hg9)
  exact bodyPost_ret (results_c rfl _ rfl (load_blk hz9 Tryz.underlying158 rfl hi)) rfl ⟨rfl, below_own hB hg9 hB.size (by omega)⟩
set_option maxRecDepth 100000 in
set_option maxHeartbeats 4000000 in
theorem policyC_yes (w : World) (c : CfgV) (k : Nat) (p : PeerV) (h : CfgIn w c) (hp : c.P[k]? = some p) : Calls Tryz.prog 85 #[.agg (cfgC c), .int .i64 (k : Int)] w fun e w' => e = .returned (.agg (polA c p)) ∧ Below w.heap.size w w' := by
  have hB := ((Below.refl w.heap.size w).alloc (Nat.le_refl _) (.cells (cfgC c) 29)).alloc (by simp) (.cells #[.int .i64 0, .int .u32 0, .int .i64 0, .int .i64 0, .int .i64 0] 135)
  have hq := (Blk.new w 29 (cfgC c)).alloc (.cells #[.int .i64 0, .int .u32 0, .int .i64 0, .int .i64 0, .int .i64 0] 135)
  have hz := Blk.new (w.alloc (.cells (cfgC c) 29)) 135 #[.int .i64 0, .int .u32 0, .int .i64 0, .int .i64 0, .int .i64 0]
  rw [World.size_alloc] at hz
  have hC := h.nx hB
  have hi : (Tryz.prog.info? 135).map (·.size) = some (#[.int .i64 0, .int .u32 0, .int .i64 0, .int .i64 0, .int .i64 0] : Array Value).size := by kernel_rfl
  go_enter Tryz.func85, Tryz.ntmps85
  go_upto_region 1 with (fail)
  generalize (w.alloc (.cells (cfgC c) 29)).alloc (.cells #[.int .i64 0, .int .u32 0, .int .i64 0, .int .i64 0, .int .i64 0] 135) = w1 at *
  have ql := hq.lt
  have zl := hz.lt
  have hiC : (Tryz.prog.info? 29).map (·.size) = some (cfgC c).size := by kernel_rfl
  go_wp2_with (refine wpList_load_blk rfl hq 29 (.tmp 2) rfl rfl Tryz.underlying29 rfl hiC ?_)
  refine (peer_yes w1 c k p hC hp).mono ?_
  rintro e w2 ⟨rfl, hb⟩
  replace hq := hq.below hb ql
  replace hz := hz.below hb zl
  replace hB := hB.trans (hb.mono hB.size)
  clear hb ql zl
  have ql := hq.lt
  have zl := hz.lt
  rw [show peerA p = #[.int .i64 p.as_, .int .i64 p.hold, .int .i64 p.retry, .int .i64 p.gap, .int .i64 p.med, .int .i64 p.prep, .int .i64 p.back] from rfl]
  have hbx := (Below.refl w2.heap.size w2).alloc (Nat.le_refl _) (.cells #[.int .i64 p.as_, .int .i64 p.hold, .int .i64 p.retry, .int .i64 p.gap, .int .i64 p.med, .int .i64 p.prep, .int .i64 p.back] 62)
  have hq5 := Blk.new w2 62 #[.int .i64 p.as_, .int .i64 p.hold, .int .i64 p.retry, .int .i64 p.gap, .int .i64 p.med, .int .i64 p.prep, .int .i64 p.back]
  go_upto_region 2 with (fail)
  generalize w2.alloc (.cells #[.int .i64 p.as_, .int .i64 p.hold, .int .i64 p.retry, .int .i64 p.gap, .int .i64 p.med, .int .i64 p.prep, .int .i64 p.back] 62) = w3 at *
  replace hq := hq.below hbx ql
  replace hz := hz.below hbx zl
  replace hB := hB.trans (hbx.mono hB.size)
  clear ql zl hbx
  have q0 : w3.cell? ⟨w.heap.size, 0, none⟩ = some (.int .i64 c.as_) := hq.cellv 0 rfl
  have q2 : w3.cell? ⟨w.heap.size, 2, none⟩ = some (.int .u32 c.own) := hq.cellv 2 rfl
  have ql := hq.lt
  have zl := hz.lt
  have p0 : w3.cell? ⟨w2.heap.size, 0, none⟩ = some (.int .i64 p.as_) := hq5.cellv 0 rfl
  have p1 : w3.cell? ⟨w2.heap.size, 1, none⟩ = some (.int .i64 p.hold) := hq5.cellv 1 rfl
  have p2 : w3.cell? ⟨w2.heap.size, 2, none⟩ = some (.int .i64 p.retry) := hq5.cellv 2 rfl
  have p3 : w3.cell? ⟨w2.heap.size, 3, none⟩ = some (.int .i64 p.gap) := hq5.cellv 3 rfl
  have p4 : w3.cell? ⟨w2.heap.size, 4, none⟩ = some (.int .i64 p.med) := hq5.cellv 4 rfl
  have p5 : w3.cell? ⟨w2.heap.size, 5, none⟩ = some (.int .i64 p.prep) := hq5.cellv 5 rfl
  have p6 : w3.cell? ⟨w2.heap.size, 6, none⟩ = some (.int .i64 p.back) := hq5.cellv 6 rfl
  have pl := hq5.lt
  go_wp2_with (refine wpList_store_blk rfl hz 135 (.tmp 4) (.tmp 26) rfl rfl rfl rfl hi (by simp [Value.oneCell']) ?_; intro w9 hz9 hg9)
  exact bodyPost_ret (results_c rfl _ rfl (load_blk hz9 Tryz.underlying135 rfl hi)) rfl ⟨rfl, below_own hB hg9 hB.size (by omega)⟩
set_option maxRecDepth 100000 in
set_option maxHeartbeats 4000000 in
theorem speakerC_yes (w : World) (c : CfgV) (k : Nat) (p : PeerV) (h : CfgIn w c) (hp : c.P[k]? = some p) : Calls Tryz.prog 83 #[.agg (cfgC c), .int .i64 (k : Int)] w fun e w' => e = .returned (.agg (spkA c p)) ∧ Below w.heap.size w w' := by
  have hB := ((Below.refl w.heap.size w).alloc (Nat.le_refl _) (.cells (cfgC c) 29)).alloc (by simp) (.cells #[.int .i64 0, .int .i64 0, .int .u32 0, .int .i64 0, .int .i64 0, .int .i64 0, .int .i64 0] 131)
  have hq := (Blk.new w 29 (cfgC c)).alloc (.cells #[.int .i64 0, .int .i64 0, .int .u32 0, .int .i64 0, .int .i64 0, .int .i64 0, .int .i64 0] 131)
  have hz := Blk.new (w.alloc (.cells (cfgC c) 29)) 131 #[.int .i64 0, .int .i64 0, .int .u32 0, .int .i64 0, .int .i64 0, .int .i64 0, .int .i64 0]
  rw [World.size_alloc] at hz
  have hC := h.nx hB
  have hi : (Tryz.prog.info? 131).map (·.size) = some (#[.int .i64 0, .int .i64 0, .int .u32 0, .int .i64 0, .int .i64 0, .int .i64 0, .int .i64 0] : Array Value).size := by kernel_rfl
  go_enter Tryz.func83, Tryz.ntmps83
  go_upto_region 1 with (fail)
  generalize (w.alloc (.cells (cfgC c) 29)).alloc (.cells #[.int .i64 0, .int .i64 0, .int .u32 0, .int .i64 0, .int .i64 0, .int .i64 0, .int .i64 0] 131) = w1 at *
  have ql := hq.lt
  have zl := hz.lt
  have hiC : (Tryz.prog.info? 29).map (·.size) = some (cfgC c).size := by kernel_rfl
  go_wp2_with (refine wpList_load_blk rfl hq 29 (.tmp 2) rfl rfl Tryz.underlying29 rfl hiC ?_)
  refine (peer_yes w1 c k p hC hp).mono ?_
  rintro e w2 ⟨rfl, hb⟩
  replace hq := hq.below hb ql
  replace hz := hz.below hb zl
  replace hB := hB.trans (hb.mono hB.size)
  clear hb ql zl
  have ql := hq.lt
  have zl := hz.lt
  rw [show peerA p = #[.int .i64 p.as_, .int .i64 p.hold, .int .i64 p.retry, .int .i64 p.gap, .int .i64 p.med, .int .i64 p.prep, .int .i64 p.back] from rfl]
  have hbx := (Below.refl w2.heap.size w2).alloc (Nat.le_refl _) (.cells #[.int .i64 p.as_, .int .i64 p.hold, .int .i64 p.retry, .int .i64 p.gap, .int .i64 p.med, .int .i64 p.prep, .int .i64 p.back] 62)
  have hq5 := Blk.new w2 62 #[.int .i64 p.as_, .int .i64 p.hold, .int .i64 p.retry, .int .i64 p.gap, .int .i64 p.med, .int .i64 p.prep, .int .i64 p.back]
  go_upto_region 2 with (fail)
  generalize w2.alloc (.cells #[.int .i64 p.as_, .int .i64 p.hold, .int .i64 p.retry, .int .i64 p.gap, .int .i64 p.med, .int .i64 p.prep, .int .i64 p.back] 62) = w3 at *
  replace hq := hq.below hbx ql
  replace hz := hz.below hbx zl
  replace hB := hB.trans (hbx.mono hB.size)
  clear ql zl hbx
  have q0 : w3.cell? ⟨w.heap.size, 0, none⟩ = some (.int .i64 c.as_) := hq.cellv 0 rfl
  have q1 : w3.cell? ⟨w.heap.size, 1, none⟩ = some (.int .u32 c.id) := hq.cellv 1 rfl
  have q12 : w3.cell? ⟨w.heap.size, 12, none⟩ = some (.int .i64 c.queue) := hq.cellv 12 rfl
  have ql := hq.lt
  have zl := hz.lt
  have p0 : w3.cell? ⟨w2.heap.size, 0, none⟩ = some (.int .i64 p.as_) := hq5.cellv 0 rfl
  have p1 : w3.cell? ⟨w2.heap.size, 1, none⟩ = some (.int .i64 p.hold) := hq5.cellv 1 rfl
  have p2 : w3.cell? ⟨w2.heap.size, 2, none⟩ = some (.int .i64 p.retry) := hq5.cellv 2 rfl
  have p3 : w3.cell? ⟨w2.heap.size, 3, none⟩ = some (.int .i64 p.gap) := hq5.cellv 3 rfl
  have p4 : w3.cell? ⟨w2.heap.size, 4, none⟩ = some (.int .i64 p.med) := hq5.cellv 4 rfl
  have p5 : w3.cell? ⟨w2.heap.size, 5, none⟩ = some (.int .i64 p.prep) := hq5.cellv 5 rfl
  have p6 : w3.cell? ⟨w2.heap.size, 6, none⟩ = some (.int .i64 p.back) := hq5.cellv 6 rfl
  have pl := hq5.lt
  have hbs := (Below.refl w3.heap.size w3).alloc (Nat.le_refl _) (.cells #[.int .i64 c.as_, .int .i64 p.as_, .int .u32 c.id, .int .i64 p.hold, .int .i64 p.retry, .int .i64 c.queue] 129)
  have hq7 := Blk.new w3 129 #[.int .i64 c.as_, .int .i64 p.as_, .int .u32 c.id, .int .i64 p.hold, .int .i64 p.retry, .int .i64 c.queue]
  go_upto_region 5 with (fail)
  generalize w3.alloc (.cells #[.int .i64 c.as_, .int .i64 p.as_, .int .u32 c.id, .int .i64 p.hold, .int .i64 p.retry, .int .i64 c.queue] 129) = w4 at *
  replace hq5 := hq5.below hbs pl
  replace hz := hz.below hbs zl
  replace hB := hB.trans (hbs.mono hB.size)
  clear q0 q1 q12 p0 p1 p2 p3 p4 p5 p6 pl zl hbs ql hq
  have zl := hz.lt
  have pl := hq5.lt
  have p3 : w4.cell? ⟨w2.heap.size, 3, none⟩ = some (.int .i64 p.gap) := hq5.cellv 3 rfl
  have s0 : w4.cell? ⟨w3.heap.size, 0, none⟩ = some (.int .i64 c.as_) := hq7.cellv 0 rfl
  have s1 : w4.cell? ⟨w3.heap.size, 1, none⟩ = some (.int .i64 p.as_) := hq7.cellv 1 rfl
  have s2 : w4.cell? ⟨w3.heap.size, 2, none⟩ = some (.int .u32 c.id) := hq7.cellv 2 rfl
  have s3 : w4.cell? ⟨w3.heap.size, 3, none⟩ = some (.int .i64 p.hold) := hq7.cellv 3 rfl
  have s4 : w4.cell? ⟨w3.heap.size, 4, none⟩ = some (.int .i64 p.retry) := hq7.cellv 4 rfl
  have s5 : w4.cell? ⟨w3.heap.size, 5, none⟩ = some (.int .i64 c.queue) := hq7.cellv 5 rfl
  have sl := hq7.lt
  go_wp2_with (refine wpList_store_blk rfl hz 131 (.tmp 4) (.tmp 33) rfl rfl rfl rfl hi (by simp [Value.oneCell']) ?_; intro w9 hz9 hg9)
  exact bodyPost_ret (results_c rfl _ rfl (load_blk hz9 Tryz.underlying131 rfl hi)) rfl ⟨rfl, below_own hB hg9 hB.size (by omega)⟩
end Go.Proofs.YtecmhakapomepaaGreat

/- config: session.Good, speaker.Good, the document's; part 2. -/
namespace Go.Proofs.YtecmhakapomepaaGreat
set_option linter.unusedVariables false
open Go Go.RowKit Go.Maps

theorem isAs16_any (n : Int) (w : World) : Calls Tryz.prog 125 #[.int .i64 n] w fun e w' => e = .returned (.bool (rngB 1 65535 n)) ∧ w = w' := by
  go_enter Tryz.func125, Tryz.ntmps125
  go_wp2_with fail
  all_goals go_ret
  all_goals (refine ⟨ret_bool ?_, rfl⟩; unfold rngB; rw [Bool.eq_iff_iff]; simp <;> omega)
set_option maxRecDepth 100000 in
set_option maxHeartbeats 8000000 in
theorem sessGood_any (a p id ho re ro : Int) (w : World) : Calls Tryz.prog 111 #[.agg #[.int .i64 a, .int .i64 p, .int .u32 id, .int .i64 ho, .int .i64 re, .int .i64 ro]] w fun e w' => e = .returned (.bool (sessG a p id ho re ro)) ∧ Below w.heap.size w w' := by
  have hB := (Below.refl w.heap.size w).alloc (Nat.le_refl _) (.cells #[.int .i64 a, .int .i64 p, .int .u32 id, .int .i64 ho, .int .i64 re, .int .i64 ro] 129)
  have hq := Blk.new w 129 #[.int .i64 a, .int .i64 p, .int .u32 id, .int .i64 ho, .int .i64 re, .int .i64 ro]
  go_enter Tryz.func111, Tryz.ntmps111
  go_upto_region 1 with (fail)
  generalize w.alloc (.cells #[.int .i64 a, .int .i64 p, .int .u32 id, .int .i64 ho, .int .i64 re, .int .i64 ro] 129) = w1 at *
  have q0 : w1.cell? ⟨w.heap.size, 0, none⟩ = some (.int .i64 a) := hq.cellv 0 rfl
  have q1 : w1.cell? ⟨w.heap.size, 1, none⟩ = some (.int .i64 p) := hq.cellv 1 rfl
  have q2 : w1.cell? ⟨w.heap.size, 2, none⟩ = some (.int .u32 id) := hq.cellv 2 rfl
  have q3 : w1.cell? ⟨w.heap.size, 3, none⟩ = some (.int .i64 ho) := hq.cellv 3 rfl
  have q4 : w1.cell? ⟨w.heap.size, 4, none⟩ = some (.int .i64 re) := hq.cellv 4 rfl
  have q5 : w1.cell? ⟨w.heap.size, 5, none⟩ = some (.int .i64 ro) := hq.cellv 5 rfl
  have ql := hq.lt
  go_wp2_with (go_at_call 125; refine (isAs16_any _ _).mono ?_; rintro e w' ⟨rfl, rfl⟩)
  all_goals go_ret
  all_goals (refine ⟨ret_bool ?_, hB⟩; clear hB hq q0 q1 q2 q3 q4 q5 ql; unfold sessG rngB at *; first | (simp_all; done) | (simp_all; omega) | (simp at *; rw [Bool.eq_iff_iff]; simp; omega))
set_option maxRecDepth 100000 in
set_option maxHeartbeats 8000000 in
theorem refSessGood_any (a p id ho re ro : Int) (w : World) : Calls Tryz.prog 104 #[.agg #[.int .i64 a, .int .i64 p, .int .u32 id, .int .i64 ho, .int .i64 re, .int .i64 ro]] w fun e w' => e = .returned (.bool (sessG a p id ho re ro)) ∧ Below w.heap.size w w' := by
  have hB := (Below.refl w.heap.size w).alloc (Nat.le_refl _) (.cells #[.int .i64 a, .int .i64 p, .int .u32 id, .int .i64 ho, .int .i64 re, .int .i64 ro] 156)
  have hq := Blk.new w 156 #[.int .i64 a, .int .i64 p, .int .u32 id, .int .i64 ho, .int .i64 re, .int .i64 ro]
  go_enter Tryz.func104, Tryz.ntmps104
  go_upto_region 1 with (fail)
  generalize w.alloc (.cells #[.int .i64 a, .int .i64 p, .int .u32 id, .int .i64 ho, .int .i64 re, .int .i64 ro] 156) = w1 at *
  have q0 : w1.cell? ⟨w.heap.size, 0, none⟩ = some (.int .i64 a) := hq.cellv 0 rfl
  have q1 : w1.cell? ⟨w.heap.size, 1, none⟩ = some (.int .i64 p) := hq.cellv 1 rfl
  have q2 : w1.cell? ⟨w.heap.size, 2, none⟩ = some (.int .u32 id) := hq.cellv 2 rfl
  have q3 : w1.cell? ⟨w.heap.size, 3, none⟩ = some (.int .i64 ho) := hq.cellv 3 rfl
  have q4 : w1.cell? ⟨w.heap.size, 4, none⟩ = some (.int .i64 re) := hq.cellv 4 rfl
  have q5 : w1.cell? ⟨w.heap.size, 5, none⟩ = some (.int .i64 ro) := hq.cellv 5 rfl
  have ql := hq.lt
  go_wp2_with fail
  all_goals go_ret
  all_goals (refine ⟨ret_bool ?_, hB⟩; clear hB hq q0 q1 q2 q3 q4 q5 ql; unfold sessG rngB at *; first | (simp_all; done) | (simp_all; omega) | (simp at *; rw [Bool.eq_iff_iff]; simp; omega))
set_option maxRecDepth 100000 in
set_option maxHeartbeats 8000000 in
theorem spkGood_any (a p id ho re ro g : Int) (w : World) : Calls Tryz.prog 82 #[.agg #[.int .i64 a, .int .i64 p, .int .u32 id, .int .i64 ho, .int .i64 re, .int .i64 ro, .int .i64 g]] w fun e w' => e = .returned (.bool (sessG a p id ho re ro && rngB 0 65535 g)) ∧ Below w.heap.size w w' := by
  have hB := (Below.refl w.heap.size w).alloc (Nat.le_refl _) (.cells #[.int .i64 a, .int .i64 p, .int .u32 id, .int .i64 ho, .int .i64 re, .int .i64 ro, .int .i64 g] 131)
  have hq := Blk.new w 131 #[.int .i64 a, .int .i64 p, .int .u32 id, .int .i64 ho, .int .i64 re, .int .i64 ro, .int .i64 g]
  go_enter Tryz.func82, Tryz.ntmps82
  go_upto_region 1 with (fail)
  generalize w.alloc (.cells #[.int .i64 a, .int .i64 p, .int .u32 id, .int .i64 ho, .int .i64 re, .int .i64 ro, .int .i64 g] 131) = w1 at *
  have q0 : w1.cell? ⟨w.heap.size, 0, none⟩ = some (.int .i64 a) := hq.cellv 0 rfl
  have q1 : w1.cell? ⟨w.heap.size, 1, none⟩ = some (.int .i64 p) := hq.cellv 1 rfl
  have q2 : w1.cell? ⟨w.heap.size, 2, none⟩ = some (.int .u32 id) := hq.cellv 2 rfl
  have q3 : w1.cell? ⟨w.heap.size, 3, none⟩ = some (.int .i64 ho) := hq.cellv 3 rfl
  have q4 : w1.cell? ⟨w.heap.size, 4, none⟩ = some (.int .i64 re) := hq.cellv 4 rfl
  have q5 : w1.cell? ⟨w.heap.size, 5, none⟩ = some (.int .i64 ro) := hq.cellv 5 rfl
  have q6 : w1.cell? ⟨w.heap.size, 6, none⟩ = some (.int .i64 g) := hq.cellv 6 rfl
  have ql := hq.lt
  have hS := fun w => sessGood_any a p id ho re ro w
  obtain ⟨B, hBe⟩ : ∃ B, sessG a p id ho re ro = B := ⟨_, rfl⟩
  rw [hBe] at hS
  replace hBe := Lib.hid hBe
  go_wp2_with (go_at_call 111; refine (hS _).mono ?_; rintro e w2 ⟨rfl, hb⟩; have hq := hq.below hb hq.lt; have hB := hB.trans (hb.mono hB.size); have q6 : w2.cell? ⟨w.heap.size, 6, none⟩ = some (.int .i64 g) := hq.cellv 6 rfl; have ql := hq.lt; cases B)
  all_goals go_ret
  all_goals (refine ⟨ret_bool ?_, hB⟩; rw [hBe.out]; unfold rngB; first | (simp; done) | (rw [Bool.eq_iff_iff]; simp; omega))
end Go.Proofs.YtecmhakapomepaaGreat

/- config: part 2, the document's part 2. -/
namespace Go.Proofs.YtecmhakapomepaaGreat
set_option linter.unusedVariables false
open Go Go.RowKit Go.Maps

/-- a load of a whole struct by an operation whose guard says yes. -/
theorem wpList_load_blk_w {P : Program} {w : World} {g : Nat} {T : TypeId} {cs : Array Value} {ops : Array Oper} {rest : List Oper} {op : Oper} {a : Act} {Q : Exit → Act → World → Prop} (hgd : Region.wanted op (yielded ops a.tmps) = true) (h : Blk w g T cs) (ty : TypeId) (x : Operand) (ho : op.op = .load ty x)
    (hx : a.eval x = .pointer (some ⟨g, 0, none⟩)) {d : TypeDesc} (hu : P.underlying ty = some d) (hd : d.isRow = true) (hi : (P.info? ty).map (·.size) = some cs.size)
    (hk : wpList P ops Q rest (a.put op.dst (.agg cs)) w) : wpList P ops Q (op :: rest) a w := by
  refine wpList_step fun K hK => ?_
  simp only [hgd, if_true]
  exact wp_load_mid ty x ho g 0 hx cs.toList d (fun j v hj => by rw [Nat.zero_add, h.cell]; simpa using hj) hu hd (by simpa using hi) (hK _ _ hk)
theorem cfg_cells {w : World} {g : Nat} {T : TypeId} {c : CfgV} (h : Blk w g T (cfgC c)) : w.cell? ⟨g, 0, none⟩ = some (.int .i64 c.as_) ∧ w.cell? ⟨g, 1, none⟩ = some (.int .u32 c.id) ∧ w.cell? ⟨g, 2, none⟩ = some (.int .u32 c.own) ∧ w.cell? ⟨g, 3, none⟩ = some (.slice c.pA c.pn c.pc) ∧ w.cell? ⟨g, 4, none⟩ = some (.slice c.vA c.vn c.vc) ∧ w.cell? ⟨g, 5, none⟩ = some (.slice c.sA c.sn c.sc) ∧ w.cell? ⟨g, 6, none⟩ = some (.int .i64 c.rise) ∧ w.cell? ⟨g, 7, none⟩ = some (.int .i64 c.fall) ∧ w.cell? ⟨g, 8, none⟩ = some (.int .i64 c.every) ∧ w.cell? ⟨g, 9, none⟩ = some (.int .i64 c.pat) ∧ w.cell? ⟨g, 10, none⟩ = some (.int .i64 c.room) ∧ w.cell? ⟨g, 11, none⟩ = some (.int .i64 c.idle) ∧ w.cell? ⟨g, 12, none⟩ = some (.int .i64 c.queue) ∧ w.cell? ⟨g, 13, none⟩ = some (.int .i64 c.dF) ∧ w.cell? ⟨g, 14, none⟩ = some (.int .i64 c.dS) ∧ w.cell? ⟨g, 15, none⟩ = some (.int .i64 c.dR) ∧ w.cell? ⟨g, 16, none⟩ = some (.int .i64 c.dC) ∧ w.cell? ⟨g, 17, none⟩ = some (.int .i64 c.dH) ∧ w.cell? ⟨g, 18, none⟩ = some (.int .i64 c.ttl) :=
  ⟨h.cellv 0 rfl, h.cellv 1 rfl, h.cellv 2 rfl, h.cellv 3 rfl, h.cellv 4 rfl, h.cellv 5 rfl, h.cellv 6 rfl, h.cellv 7 rfl, h.cellv 8 rfl, h.cellv 9 rfl, h.cellv 10 rfl, h.cellv 11 rfl, h.cellv 12 rfl, h.cellv 13 rfl, h.cellv 14 rfl, h.cellv 15 rfl, h.cellv 16 rfl, h.cellv 17 rfl, h.cellv 18 rfl⟩
set_option maxRecDepth 100000 in
set_option maxHeartbeats 8000000 in
theorem peersC_any (w : World) (c : CfgV) (h : CfgIn w c) : Calls Tryz.prog 57 #[.agg (cfgC c)] w fun e w' => e = .returned (.bool (peersB c)) ∧ Below w.heap.size w w' := by
  have hB := (Below.refl w.heap.size w).alloc (Nat.le_refl _) (.cells (cfgC c) 29)
  have hq := Blk.new w 29 (cfgC c)
  have hC := h.nx hB
  have hPl := Lib.hid h.peers.1
  have hpn := h.lens.1.1
  have hown := h.own_
  clear h
  go_enter Tryz.func57, Tryz.ntmps57
  go_upto_region 1 with (fail)
  generalize w.alloc (.cells (cfgC c) 29) = w1 at *
  obtain ⟨q0, q1, q2, q3, q4, q5, q6, q7, q8, q9, q10, q11, q12, q13, q14, q15, q16, q17, q18⟩ := cfg_cells hq
  have ql := hq.lt
  by_cases h8 : c.pn ≤ 8
  rotate_left
  · have k1 : (8 : Int) < c.pn := by omega
    go_wp2_with fail
    go_ret
    exact ⟨ret_bool (by unfold peersB; rw [hPl.out]; simp; omega), hB⟩
  have k1 : (c.pn : Int) ≤ 8 := by omega
  go_wp2_with fail
  clear q0 q1 q2 q3 q4 q5 q6 q7 q8 q9 q10 q11 q12 q13 q14 q15 q16 q17 q18
  clear ql
  have hiC : (Tryz.prog.info? 29).map (·.size) = some (cfgC c).size := by kernel_rfl
  go_loopw [11] (fun i wr => ∃ k : Nat, k ≤ c.pn ∧ i = .int .i64 (k : Int) ∧ (∀ j a, j < k → c.P[j]? = some a → peerB c a = true) ∧ CfgIn wr c ∧ Blk wr w.heap.size 29 (cfgC c) ∧ Below w.heap.size w wr) (fun i _ => c.pn - (intOf i).toNat)
  case atStart => exact ⟨0, Nat.zero_le _, rfl, fun j a hj => absurd hj (by omega), hC, hq, hB⟩
  case round =>
  clear hC hq hB
  obtain ⟨k, hk, rfl, hall, hC, hq, hB⟩ := hrel
  replace hall := Lib.hid hall
  by_cases hlt : k < c.pn
  · have hki : (k : Int) < c.pn := by omega
    obtain ⟨p, hp⟩ : ∃ p, c.P[k]? = some p := ⟨_, List.getElem?_eq_getElem (by rw [hPl.out]; exact hlt)⟩
    have hp9 := Lib.hid hp
    have cS := fun w hC => speakerC_yes w c k p hC hp
    have cP := fun w hC => policyC_yes w c k p hC hp
    have hno : peerB c p = false → peersB c = false := fun hf => by
      unfold peersB
      rw [all_no hp hf]
      simp
    have hyes : peerB c p = true → ∀ j a, j < k + 1 → c.P[j]? = some a → peerB c a = true := fun ht j a hj ha => by
      by_cases hjk : j < k
      · exact hall.out j a hjk ha
      · obtain rfl : j = k := by omega
        rw [hp] at ha; injection ha with ha; subst ha
        exact ht
    have cG := fun w => spkGood_any c.as_ p.as_ c.id p.hold p.retry c.queue p.gap w
    have eS : (sessG c.as_ p.as_ c.id p.hold p.retry c.queue && rngB 0 65535 p.gap) = spkB c p := rfl
    rw [eS] at cG
    have cV := fun w => pl.good_any c.as_ c.own p.med p.prep p.back w hown.1 hown.2
    have eP : pl.goodV c.as_ c.own p.med p.prep p.back = polB c p := rfl
    rw [eP] at cV
    clear hp eS eP
    go_wp2_with (refine wpList_load_blk rfl hq 29 (.tmp 1) rfl rfl Tryz.underlying29 rfl hiC ?_)
    refine (cS wr hC).mono ?_
    rintro e wa ⟨rfl, hb⟩
    replace hC := hC.nx hb
    replace hq := hq.below hb hq.lt
    replace hB := hB.trans (hb.mono hB.size)
    clear hb
    unfold spkA
    go_wp2_with fail
    refine (cG wa).mono ?_
    rintro e wb ⟨rfl, hb⟩
    replace hC := hC.nx hb
    replace hq := hq.below hb hq.lt
    replace hB := hB.trans (hb.mono hB.size)
    clear hb
    cases hs : spkB c p
    · have hf := Lib.hid (hno (by unfold peerB; rw [hs]; rfl))
      clear hs hno hyes
      go_wp2_with fail
      go_ret
      exact ⟨ret_bool hf.out.symm, hB⟩
    · replace hs := Lib.hid hs
      go_wp2_with (refine wpList_load_blk_w (by rfl) hq 29 (.tmp 1) rfl rfl Tryz.underlying29 rfl hiC ?_)
      refine (cP wb hC).mono ?_
      rintro e wc ⟨rfl, hb⟩
      replace hC := hC.nx hb
      replace hq := hq.below hb hq.lt
      replace hB := hB.trans (hb.mono hB.size)
      clear hb
      unfold polA
      go_wp2_with fail
      refine (cV wc).mono ?_
      rintro e wd ⟨rfl, hb⟩
      replace hC := hC.nx hb
      replace hq := hq.below hb hq.lt
      replace hB := hB.trans (hb.mono hB.size)
      clear hb
      cases hv : polB c p
      · have hf := Lib.hid (hno (by unfold peerB; rw [hv, Bool.and_false]))
        clear hv hno hyes
        go_wp2_with fail
        go_ret
        exact ⟨ret_bool hf.out.symm, hB⟩
      · have hy := Lib.hid (hyes (by unfold peerB; rw [hs.out, hv]; rfl))
        clear hv hno hyes
        go_wp2_with fail
        exact ⟨⟨k + 1, by omega, by go_num, hy.out, hC, hq, hB⟩, by simp [intOf]; omega⟩
  · obtain rfl : k = c.pn := by omega
    go_wp2_with fail
    go_ret
    refine ⟨ret_bool ?_, hB⟩
    unfold peersB
    rw [hPl.out, all_yes fun j a ha => hall.out j a (by have := (List.getElem?_eq_some_iff.1 ha).1; have := hPl.out; omega) ha]
    simp [h8]
set_option maxRecDepth 100000 in
set_option maxHeartbeats 8000000 in
theorem refPeers_any (w : World) (c : CfgV) (h : CfgIn w c) : Calls Tryz.prog 72 #[.agg (cfgC c)] w fun e w' => e = .returned (.bool (peersB c)) ∧ Below w.heap.size w w' := by
  have hB := (Below.refl w.heap.size w).alloc (Nat.le_refl _) (.cells (cfgC c) 41)
  have hq := Blk.new w 41 (cfgC c)
  have hC := h.nx hB
  have hPl := Lib.hid h.peers.1
  have hpn := h.lens.1.1
  have hown := h.own_
  clear h
  go_enter Tryz.func72, Tryz.ntmps72
  go_upto_region 1 with (fail)
  generalize w.alloc (.cells (cfgC c) 41) = w1 at *
  have q3 : w1.cell? ⟨w.heap.size, 3, none⟩ = some (.slice c.pA c.pn c.pc) := hq.cellv 3 rfl
  have ql := hq.lt
  go_wp2_with fail
  clear ql q3
  have hiC : (Tryz.prog.info? 41).map (·.size) = some (cfgC c).size := by kernel_rfl
  go_loopw [8] (fun i wr => ∃ k : Nat, k ≤ c.pn ∧ i = .int .i64 (k : Int) ∧ (∀ j a, j < k → c.P[j]? = some a → peerB c a = true) ∧ k ≤ 8 ∧ CfgIn wr c ∧ Blk wr w.heap.size 41 (cfgC c) ∧ Below w.heap.size w wr) (fun i _ => c.pn - (intOf i).toNat)
  case atStart => exact ⟨0, Nat.zero_le _, rfl, fun j a hj => absurd hj (by omega), by omega, hC, hq, hB⟩
  case round =>
  clear hC hq hB
  obtain ⟨k, hk, rfl, hall, hk8, hC, hq, hB⟩ := hrel
  replace hall := Lib.hid hall
  by_cases hlt : k < c.pn
  · have hki : (k : Int) < c.pn := by omega
    by_cases h8 : k < 8
    rotate_left
    · have k8 : decide ((8 : Int) ≤ k) = true := by simp; omega
      go_wp2_with fail
      go_ret
      exact ⟨ret_bool (by unfold peersB; rw [hPl.out]; simp; omega), hB⟩
    have k8 : decide ((8 : Int) ≤ k) = false := by simp; omega
    obtain ⟨p, hp⟩ : ∃ p, c.P[k]? = some p := ⟨_, List.getElem?_eq_getElem (by rw [hPl.out]; exact hlt)⟩
    have cS := fun w hC => refSpeaker_yes w c k p hC hp
    have cP := fun w hC => refPolicy_yes w c k p hC hp
    have hno : peerB c p = false → peersB c = false := fun hf => by
      unfold peersB
      rw [all_no hp hf]
      simp
    have hyes : peerB c p = true → ∀ j a, j < k + 1 → c.P[j]? = some a → peerB c a = true := fun ht j a hj ha => by
      by_cases hjk : j < k
      · exact hall.out j a hjk ha
      · obtain rfl : j = k := by omega
        rw [hp] at ha; injection ha with ha; subst ha
        exact ht
    have cG := fun w => refSessGood_any c.as_ p.as_ c.id p.hold p.retry c.queue w
    obtain ⟨SB, hSB⟩ : ∃ SB, sessG c.as_ p.as_ c.id p.hold p.retry c.queue = SB := ⟨_, rfl⟩
    have eS : spkB c p = (SB && rngB 0 65535 p.gap) := by rw [← hSB]; rfl
    rw [hSB] at cG
    clear hSB
    have cV := fun w => pl.refGood17_any c.as_ c.own p.med p.prep p.back w hown.1 hown.2
    have eP : pl.goodV c.as_ c.own p.med p.prep p.back = polB c p := rfl
    rw [eP] at cV
    replace eS := Lib.hid eS
    clear hp eP
    go_upto_region 6 with (fail)
    go_wp2_with (refine wpList_load_blk rfl hq 41 (.tmp 1) rfl rfl Tryz.underlying41 rfl hiC ?_)
    refine (cS wr hC).mono ?_
    rintro e wa ⟨rfl, hb⟩
    replace hC := hC.nx hb
    replace hq := hq.below hb hq.lt
    replace hB := hB.trans (hb.mono hB.size)
    clear hb
    unfold spkA
    have hb := (Below.refl wa.heap.size wa).alloc (Nat.le_refl _) (.cells #[.int .i64 c.as_, .int .i64 p.as_, .int .u32 c.id, .int .i64 p.hold, .int .i64 p.retry, .int .i64 c.queue, .int .i64 p.gap] 158)
    have h5 := Blk.new wa 158 #[.int .i64 c.as_, .int .i64 p.as_, .int .u32 c.id, .int .i64 p.hold, .int .i64 p.retry, .int .i64 c.queue, .int .i64 p.gap]
    replace hC := hC.nx hb
    replace hq := hq.below hb hq.lt
    replace hB := hB.trans (hb.mono hB.size)
    clear hb
    go_upto_region 7 with (fail)
    generalize wa.alloc (.cells #[.int .i64 c.as_, .int .i64 p.as_, .int .u32 c.id, .int .i64 p.hold, .int .i64 p.retry, .int .i64 c.queue, .int .i64 p.gap] 158) = wb at *
    generalize wa.heap.size = g5 at *
    have s0 : wb.cell? ⟨g5, 0, none⟩ = some (.int .i64 c.as_) := h5.cellv 0 rfl
    have s1 : wb.cell? ⟨g5, 1, none⟩ = some (.int .i64 p.as_) := h5.cellv 1 rfl
    have s2 : wb.cell? ⟨g5, 2, none⟩ = some (.int .u32 c.id) := h5.cellv 2 rfl
    have s3 : wb.cell? ⟨g5, 3, none⟩ = some (.int .i64 p.hold) := h5.cellv 3 rfl
    have s4 : wb.cell? ⟨g5, 4, none⟩ = some (.int .i64 p.retry) := h5.cellv 4 rfl
    have s5 : wb.cell? ⟨g5, 5, none⟩ = some (.int .i64 c.queue) := h5.cellv 5 rfl
    have s6 : wb.cell? ⟨g5, 6, none⟩ = some (.int .i64 p.gap) := h5.cellv 6 rfl
    have sl := h5.lt
    go_wp2_with fail
    refine (cG wb).mono ?_
    rintro e wc ⟨rfl, hb⟩
    clear s0 s1 s2 s3 s4 s5 s6 sl
    replace h5 := h5.below hb h5.lt
    replace hC := hC.nx hb
    replace hq := hq.below hb hq.lt
    replace hB := hB.trans (hb.mono hB.size)
    clear hb
    have s6 : wc.cell? ⟨g5, 6, none⟩ = some (.int .i64 p.gap) := h5.cellv 6 rfl
    have sl := h5.lt
    cases SB
    · skip
      have hf := Lib.hid (hno (by unfold peerB; rw [eS.out]; rfl))
      clear hno hyes
      go_wp2_with fail
      go_ret
      exact ⟨ret_bool hf.out.symm, hB⟩
    by_cases g0 : p.gap < 0
    · have d0 : decide (p.gap < 0) = true := by simpa using g0
      have e0 : rngB 0 65535 p.gap = false := by unfold rngB; simp; omega
      have hf := Lib.hid (hno (by unfold peerB; rw [eS.out, e0]; rfl))
      clear hno hyes
      go_wp2_with fail
      go_ret
      exact ⟨ret_bool hf.out.symm, hB⟩
    have d0 : decide (p.gap < 0) = false := by simpa using g0
    by_cases g1 : 65535 < p.gap
    · have d1 : decide (65535 < p.gap) = true := by simpa using g1
      have e0 : rngB 0 65535 p.gap = false := by unfold rngB; simp; omega
      have hf := Lib.hid (hno (by unfold peerB; rw [eS.out, e0]; rfl))
      clear hno hyes
      go_wp2_with fail
      go_ret
      exact ⟨ret_bool hf.out.symm, hB⟩
    have d1 : decide (65535 < p.gap) = false := by simpa using g1
    have hs := Lib.hid (show spkB c p = true by rw [eS.out]; unfold rngB; simp; omega)
    go_wp2_with (refine wpList_load_blk_w (by rfl) hq 41 (.tmp 1) rfl rfl Tryz.underlying41 rfl hiC ?_)
    refine (cP wc hC).mono ?_
    rintro e wd ⟨rfl, hb⟩
    clear s6 sl h5
    replace hC := hC.nx hb
    replace hq := hq.below hb hq.lt
    replace hB := hB.trans (hb.mono hB.size)
    clear hb
    unfold polA
    go_wp2_with fail
    refine (cV wd).mono ?_
    rintro e we ⟨rfl, hb⟩
    replace hC := hC.nx hb
    replace hq := hq.below hb hq.lt
    replace hB := hB.trans (hb.mono hB.size)
    clear hb
    cases hv : polB c p
    · have hf := Lib.hid (hno (by unfold peerB; rw [hv, Bool.and_false]))
      clear hv hno hyes
      go_wp2_with fail
      go_ret
      exact ⟨ret_bool hf.out.symm, hB⟩
    · have hy := Lib.hid (hyes (by unfold peerB; rw [hs.out, hv]; rfl))
      clear hv hno hyes
      go_wp2_with fail
      exact ⟨⟨k + 1, by omega, by go_num, hy.out, by omega, hC, hq, hB⟩, by simp [intOf]; omega⟩
  · obtain rfl : k = c.pn := by omega
    go_wp2_with fail
    go_ret
    refine ⟨ret_bool ?_, hB⟩
    unfold peersB
    rw [hPl.out, all_yes fun j a ha => hall.out j a (by have := (List.getElem?_eq_some_iff.1 ha).1; have := hPl.out; omega) ha]
    simp [hk8]
end Go.Proofs.YtecmhakapomepaaGreat
