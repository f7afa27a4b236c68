/- config: self, the tables' makers, Check's closures, the document's small ones. -/
import Derived.Test.YtgdeecmhhbdjgaaCgB
import Derived.Test.YtgdeecmhhbdjgaaRis
import Derived.Test.YtgdeecmhhbdjgaaFlE
import Derived.Test.YtgdeecmhhbdjgaaLate
import Derived.BigGuardPart
import Derived.Deep.Cut
import Derived.WalkSpells
namespace Go.Proofs.Ytgdeecmhhbdjgaa
set_option linter.unusedVariables false
open Go Go.RowKit Go.Maps

@[go_sem] theorem make_cnmap (w : World) : (Instr.makeMap 148 none).run Try.prog w = .ok (.map (some w.heap.size)) (w.alloc (.map #[] 0)) := rfl
@[go_sem] theorem make_camap (w : World) : (Instr.makeMap 149 none).run Try.prog w = .ok (.map (some w.heap.size)) (w.alloc (.map #[] 0)) := rfl
set_option maxRecDepth 100000 in
set_option maxHeartbeats 2000000 in
theorem self_any (w : World) (c : CfgV) : Calls Try.prog 22 #[.agg (cfgC c)] w fun e w' => e = .returned (.bool (selfB c)) ∧ Below w.heap.size w w' := by
  have hB := (Below.refl w.heap.size w).alloc (Nat.le_refl _) (.cells (cfgC c) 29)
  have hq := Blk.new w 29 (cfgC c)
  go_enter Try.func22, Try.ntmps22
  go_upto_region 1 with (fail)
  generalize w.alloc (.cells (cfgC c) 29) = w1 at *
  have q0 : w1.cell? ⟨w.heap.size, 0, none⟩ = some (.int .i64 c.as_) := hq.cellv 0 rfl
  have q1 : w1.cell? ⟨w.heap.size, 1, none⟩ = some (.int .u32 c.id) := hq.cellv 1 rfl
  have q2 : w1.cell? ⟨w.heap.size, 2, none⟩ = some (.int .u32 c.own) := hq.cellv 2 rfl
  have ql := hq.lt
  go_wp2_with fail
  all_goals go_ret
  all_goals refine ⟨ret_bool ?_, hB⟩
  all_goals (unfold selfB rngB; (rw [Bool.eq_iff_iff]; simp <;> omega))
set_option maxRecDepth 100000 in
set_option maxHeartbeats 2000000 in
theorem probeN_any (ev pa : Int) (w : World) : Calls Try.prog 51 #[.int .i64 ev, .int .i64 pa] w fun e w' => ∃ p : Option Addr, e = .returned (.pointer p) ∧ p.isSome = probeB ev pa ∧ Below w.heap.size w w' := by
  cases h : probeB ev pa
  · unfold probeB rngB at h
    simp only [Bool.and_eq_false_iff, decide_eq_false_iff_not, Int.not_le] at h
    go_enter Try.func51, Try.ntmps51
    go_wp2_with fail
    all_goals first
      | (exfalso; omega)
      | (go_ret; exact ⟨none, rfl, rfl, Below.refl _ _⟩)
  · unfold probeB rngB at h
    simp only [Bool.and_eq_true, decide_eq_true_eq] at h
    obtain ⟨⟨h1, h2⟩, h3, h4⟩ := h
    go_enter Try.func51, Try.ntmps51
    go_wp2_with fail
    all_goals first
      | (exfalso; omega)
      | (go_ret; exact ⟨_, rfl, rfl, (((Below.refl _ _).alloc (Nat.le_refl _) _))⟩)
      | (go_ret; exact ⟨_, rfl, rfl, (((Below.refl _ _).alloc (Nat.le_refl _) _).alloc (by simp) _)⟩)
      | (go_ret; exact ⟨_, rfl, rfl, ((((Below.refl _ _).alloc (Nat.le_refl _) _).alloc (by simp) _).alloc (by simp; omega) _)⟩)
set_option maxRecDepth 100000 in
set_option maxHeartbeats 2000000 in
theorem refProbeN_any (ev pa : Int) (w : World) : Calls Try.prog 33 #[.int .i64 ev, .int .i64 pa] w fun e w' => ∃ p : Option Addr, e = .returned (.pointer p) ∧ p.isSome = probeB ev pa ∧ Below w.heap.size w w' := by
  cases h : probeB ev pa
  · unfold probeB rngB at h
    simp only [Bool.and_eq_false_iff, decide_eq_false_iff_not, Int.not_le] at h
    go_enter Try.func33, Try.ntmps33
    go_wp2_with fail
    all_goals first
      | (exfalso; omega)
      | (go_ret; exact ⟨none, rfl, rfl, Below.refl _ _⟩)
  · unfold probeB rngB at h
    simp only [Bool.and_eq_true, decide_eq_true_eq] at h
    obtain ⟨⟨h1, h2⟩, h3, h4⟩ := h
    go_enter Try.func33, Try.ntmps33
    go_wp2_with fail
    all_goals first
      | (exfalso; omega)
      | (go_ret; exact ⟨_, rfl, rfl, (((Below.refl _ _).alloc (Nat.le_refl _) _))⟩)
      | (go_ret; exact ⟨_, rfl, rfl, (((Below.refl _ _).alloc (Nat.le_refl _) _).alloc (by simp) _)⟩)
      | (go_ret; exact ⟨_, rfl, rfl, ((((Below.refl _ _).alloc (Nat.le_refl _) _).alloc (by simp) _).alloc (by simp; omega) _)⟩)
set_option maxRecDepth 100000 in
set_option maxHeartbeats 2000000 in
theorem refFlowsN_any (ro idl : Int) (w : World) : Calls Try.prog 34 #[.int .i64 ro, .int .i64 idl] w fun e w' => ∃ p : Option Addr, e = .returned (.pointer p) ∧ p.isSome = flowsB ro idl ∧ Below w.heap.size w w' := by
  cases h : flowsB ro idl
  · unfold flowsB rngB at h
    simp only [Bool.and_eq_false_iff, decide_eq_false_iff_not, Int.not_le] at h
    go_enter Try.func34, Try.ntmps34
    go_wp2_with fail
    all_goals first
      | (exfalso; omega)
      | (go_ret; exact ⟨none, rfl, rfl, Below.refl _ _⟩)
  · unfold flowsB rngB at h
    simp only [Bool.and_eq_true, decide_eq_true_eq] at h
    obtain ⟨⟨h1, h2⟩, h3, h4⟩ := h
    go_enter Try.func34, Try.ntmps34
    go_wp2_with fail
    all_goals first
      | (exfalso; omega)
      | (go_ret; exact ⟨_, rfl, rfl, (((Below.refl _ _).alloc (Nat.le_refl _) _))⟩)
      | (go_ret; exact ⟨_, rfl, rfl, (((Below.refl _ _).alloc (Nat.le_refl _) _).alloc (by simp) _)⟩)
      | (go_ret; exact ⟨_, rfl, rfl, ((((Below.refl _ _).alloc (Nat.le_refl _) _).alloc (by simp) _).alloc (by simp; omega) _)⟩)
theorem riseN_any (r f : Int) (w : World) : Calls Try.prog 50 #[.int .i64 r, .int .i64 f] w fun e w' => ∃ p : Option Addr, e = .returned (.pointer p) ∧ p.isSome = riseB r f ∧ Below w.heap.size w w' := by
  cases h : riseB r f
  · unfold riseB rngB at h
    simp only [Bool.and_eq_false_iff, decide_eq_false_iff_not, Int.not_le] at h
    refine (rs.new_no r f w (by omega)).mono ?_
    rintro e w' ⟨rfl, rfl⟩
    exact ⟨none, rfl, rfl, Below.refl _ _⟩
  · unfold riseB rngB at h
    simp only [Bool.and_eq_true, decide_eq_true_eq] at h
    refine (rs.new_yes r f w h.1 h.2).mono ?_
    rintro e w' ⟨g, rfl, hg, hq, hb⟩
    exact ⟨_, rfl, rfl, hb⟩
theorem refRiseN_any (r f : Int) (w : World) : Calls Try.prog 32 #[.int .i64 r, .int .i64 f] w fun e w' => ∃ p : Option Addr, e = .returned (.pointer p) ∧ p.isSome = riseB r f ∧ Below w.heap.size w w' := by
  cases h : riseB r f
  · unfold riseB rngB at h
    simp only [Bool.and_eq_false_iff, decide_eq_false_iff_not, Int.not_le] at h
    refine (rs.refNew_no r f w (by omega)).mono ?_
    rintro e w' ⟨rfl, rfl⟩
    exact ⟨none, rfl, rfl, Below.refl _ _⟩
  · unfold riseB rngB at h
    simp only [Bool.and_eq_true, decide_eq_true_eq] at h
    refine (rs.refNew_yes r f w h.1 h.2).mono ?_
    rintro e w' ⟨g, rfl, hg, hq, hb⟩
    exact ⟨_, rfl, rfl, hb⟩
set_option maxRecDepth 100000 in
set_option maxHeartbeats 2000000 in
theorem flowsN_any (ro idl : Int) (w : World) : Calls Try.prog 52 #[.int .i64 ro, .int .i64 idl] w fun e w' => ∃ p : Option Addr, e = .returned (.pointer p) ∧ p.isSome = flowsB ro idl ∧ Below w.heap.size w w' := by
  cases h : flowsB ro idl
  · unfold flowsB rngB at h
    simp only [Bool.and_eq_false_iff, decide_eq_false_iff_not, Int.not_le] at h
    go_enter Try.func52, Try.ntmps52
    go_upto_region 3 with (fail)
    all_goals first
      | (exfalso; omega)
      | (go_ret; exact ⟨none, rfl, rfl, Below.refl _ _⟩)
  · unfold flowsB rngB at h
    simp only [Bool.and_eq_true, decide_eq_true_eq] at h
    obtain ⟨⟨h1, h2⟩, h3, h4⟩ := h
    refine (newF_in w ro idl h1 h2 h3 h4).mono ?_
    rintro e w' ⟨g, m, x, rfl, _, _, _, _, hb⟩
    exact ⟨_, rfl, rfl, hb⟩
end Go.Proofs.Ytgdeecmhhbdjgaa
