/- ports: Of, and the document's. -/
import Derived.Test.YthbfnppgaaeilaaDoorPrtE
import Derived.Test.YthbfnppgaaeilaaDoorTunB
namespace Go.Proofs.YthbfnppgaaeilaaDoor
set_option linter.unusedVariables false
open Go.RowKit

theorem fF_nn (l : List UInt8) : 0 ≤ fF l := by
  unfold fF; split
  · have : 0 ≤ pW (hdL l) := by unfold pW; exact numV_lo _ _
    omega
  · omega
theorem fF_tm (l : List UInt8) : Int.tmod (fF l) 2 = fF l % 2 := Int.tmod_eq_emod_of_nonneg (fF_nn l)
def sgE (l : List UInt8) : Int := if errV l ≠ 0 then errV l else if 0 < fG l ∨ fF l % 2 ≠ 0 then 8 else if hpE (fP l) (payL l) = 2 then 7 else hpE (fP l) (payL l)
theorem sgE_ok {l : List UInt8} (h : sgE l = 0) : errV l = 0 ∧ fG l ≤ 0 ∧ fF l % 2 = 0 ∧ hpE (fP l) (payL l) = 0 := by
  unfold sgE at h
  split at h
  · omega
  split at h
  · omega
  split at h
  · omega
  rename_i h1 h2 h3
  exact ⟨by omega, by omega, by omega, h⟩
set_option maxRecDepth 100000 in
set_option maxHeartbeats 4000000 in
theorem of_no (w : World) (A : Option Addr) (n c : Nat) (l : List UInt8) (h : Byt w w.heap.size A n l) (hc : n ≤ c) (hc2 : c ≤ maxLen) (hn : n ≤ 10000000) (hu : sgE l ≠ 0) :
    Calls Tryd.prog 34 #[.slice A n c] w fun e w' => e = .returned (.tuple #[.agg #[.int .i64 0, .int .u32 0, .int .u32 0, .int .i64 0, .int .i64 0, .int .i64 0, .int .i64 0], .int .i64 (sgE l)]) ∧ Below w.heap.size w w' := by
  have hi : (Tryd.prog.info? 59).map (·.size) = some 7 := by kernel_rfl
  have hr := Blk.new w 59 #[.int .i64 0, .int .u32 0, .int .u32 0, .int .i64 0, .int .i64 0, .int .i64 0, .int .i64 0]
  have hB := (Below.refl w.heap.size w).alloc (Nat.le_refl _) (.cells #[.int .i64 0, .int .u32 0, .int .u32 0, .int .i64 0, .int .i64 0, .int .i64 0, .int .i64 0] 59)
  have hI := h.nx hB
  have hpl := payL_len l
  have htm := fF_tm l
  go_enter Tryd.func34, Tryd.ntmps34
  go_wp2_with fail
  refine (ipParse_any _ A n c l hI hc hc2 hn).mono ?_
  rintro e w1 ⟨vo, vp, rfl, owno, ownp, hb1⟩
  unfold parsed
  obtain ⟨Ap1, cp1, rfl, hcp1, hcm1, hp1, _⟩ := ownp.any2
  obtain ⟨Ao1, co1, rfl, hco1, _, _⟩ := owno.any
  replace hB := hB.trans (hb1.mono hB.size)
  replace hr := hr.below hb1 hr.lt
  have hwz := hr.lt
  have hbx := (Below.refl w1.heap.size w1).alloc (Nat.le_refl _) (.cells #[.int .i64 (fT l), .int .i64 (fI l), .int .i64 (fF l), .int .i64 (fG l), .int .i64 (fL l), .int .i64 (fP l), .int .u32 (fS l), .int .u32 (fD l), .slice Ao1 (optL l).length co1] 83)
  replace hB := hB.trans (hbx.mono hB.size)
  replace hr := hr.below hbx hr.lt
  replace hp1 := hp1.nx hbx
  clear hb1 hI ownp owno hbx
  by_cases he : errV l = 0
  rotate_left
  · have hb : (errV l != 0) = true := by simpa using he
    have e1 : sgE l = errV l := if_pos he
    replace he := Lib.hid he
    replace e1 := Lib.hid e1
    replace hu := Lib.hid hu
    go_wp2_with (refine wpList_store_blk rfl hr 59 (.tmp 2) (.tmp 20) rfl rfl rfl rfl hi (by simp [Value.oneCell']) ?_; intro w3 hr3 hg3)
    try rw [Exit.noGoto_ret]
    refine bodyPost_ret (results_ct rfl _ rfl (load_blk hr3 Tryd.underlying59 rfl hi)) rfl ?_
    exact ⟨by rw [e1.out]; rfl, below_own hB hg3 hB.size (Nat.le_refl _)⟩
  rw [he]
  by_cases hf : 0 < fG l ∨ fF l % 2 ≠ 0
  · have e1 : sgE l = 8 := by unfold sgE; rw [if_neg (by simpa using he), if_pos hf]
    replace he := Lib.hid he
    replace e1 := Lib.hid e1
    replace hu := Lib.hid hu
    by_cases hg : 0 < fG l
    · clear hf
      go_wp2_with (refine wpList_store_blk rfl hr 59 (.tmp 2) (.tmp 32) rfl rfl rfl rfl hi (by simp [Value.oneCell']) ?_; intro w3 hr3 hg3)
      try rw [Exit.noGoto_ret]
      refine bodyPost_ret (results_ct rfl _ rfl (load_blk hr3 Tryd.underlying59 rfl hi)) rfl ?_
      exact ⟨by rw [e1.out]; rfl, below_own hB hg3 hB.size (Nat.le_refl _)⟩
    · have hf2 : (fF l % 2 != 0) = true := by rw [bne_iff_ne]; omega
      replace hg : fG l ≤ 0 := by omega
      have hgb : decide (0 < fG l) = false := by rw [decide_eq_false_iff_not]; omega
      clear hf
      go_wp2_with (refine wpList_store_blk rfl hr 59 (.tmp 2) (.tmp 32) rfl rfl rfl rfl hi (by simp [Value.oneCell']) ?_; intro w3 hr3 hg3)
      try rw [Exit.noGoto_ret]
      refine bodyPost_ret (results_ct rfl _ rfl (load_blk hr3 Tryd.underlying59 rfl hi)) rfl ?_
      exact ⟨by rw [e1.out]; rfl, below_own hB hg3 hB.size (Nat.le_refl _)⟩
  have hg : fG l ≤ 0 := by omega
  have hgb : decide (0 < fG l) = false := by rw [decide_eq_false_iff_not]; omega
  have hf2 : (fF l % 2 != 0) = false := by rw [bne_eq_false_iff_eq]; omega
  have e0 : sgE l = if hpE (fP l) (payL l) = 2 then 7 else hpE (fP l) (payL l) := by unfold sgE; rw [if_neg (by simpa using he), if_neg hf]
  clear hf
  replace he := Lib.hid he
  replace hu := Lib.hid hu
  replace e0 := Lib.hid e0
  go_wp2_with fail
  generalize w1.alloc (.cells #[.int .i64 (fT l), .int .i64 (fI l), .int .i64 (fF l), .int .i64 (fG l), .int .i64 (fL l), .int .i64 (fP l), .int .u32 (fS l), .int .u32 (fD l), .slice Ao1 (optL l).length co1] 83) = u1 at *
  refine (portsParse_any u1 (fP l) Ap1 _ cp1 (payL l) hp1 hcp1 hcm1 (by omega)).mono ?_
  rintro e w2 ⟨rfl, hb2⟩
  replace hB := hB.trans (hb2.mono hB.size)
  replace hr := hr.below hb2 hr.lt
  by_cases h2 : hpE (fP l) (payL l) = 2
  · have e1 : sgE l = 7 := by rw [e0.out, if_pos h2]
    rw [h2]
    replace h2 := Lib.hid h2
    replace e1 := Lib.hid e1
    go_wp2_with (refine wpList_store_blk rfl hr 59 (.tmp 2) (.tmp 61) rfl rfl rfl rfl hi (by simp [Value.oneCell']) ?_; intro w3 hr3 hg3)
    try rw [Exit.noGoto_ret]
    refine bodyPost_ret (results_ct rfl _ rfl (load_blk hr3 Tryd.underlying59 rfl hi)) rfl ?_
    exact ⟨by rw [e1.out]; rfl, below_own hB hg3 hB.size (Nat.le_refl _)⟩
  · have e1 : sgE l = hpE (fP l) (payL l) := by rw [e0.out, if_neg h2]
    have h0 : hpE (fP l) (payL l) ≠ 0 := by rw [← e1]; exact hu.out
    have hb0 : (hpE (fP l) (payL l) == 0) = false := by simpa using h0
    have hb9 : (hpE (fP l) (payL l) != 0) = true := by simpa using h0
    have hb2' : (hpE (fP l) (payL l) == 2) = false := by simpa using h2
    replace h2 := Lib.hid h2
    replace h0 := Lib.hid h0
    replace e1 := Lib.hid e1
    go_wp2_with (refine wpList_store_blk rfl hr 59 (.tmp 2) (.tmp 61) rfl rfl rfl rfl hi (by simp [Value.oneCell']) ?_; intro w3 hr3 hg3)
    try rw [Exit.noGoto_ret]
    refine bodyPost_ret (results_ct rfl _ rfl (load_blk hr3 Tryd.underlying59 rfl hi)) rfl ?_
    exact ⟨by rw [e1.out]; rfl, below_own hB hg3 hB.size (Nat.le_refl _)⟩
set_option maxRecDepth 100000 in
set_option maxHeartbeats 4000000 in
theorem of_yes (w : World) (A : Option Addr) (n c : Nat) (l : List UInt8) (h : Byt w w.heap.size A n l) (hc : n ≤ c) (hc2 : c ≤ maxLen) (hn : n ≤ 10000000) (hu : sgE l = 0) :
    Calls Tryd.prog 34 #[.slice A n c] w fun e w' => e = .returned (.tuple #[.agg #[.int .i64 (fP l), .int .u32 (fS l), .int .u32 (fD l), .int .i64 (pqA (fP l) (payL l)), .int .i64 (pqB (fP l) (payL l)), .int .i64 (pqF (fP l) (payL l)), .int .i64 (payL l).length], .int .i64 0]) ∧ Below w.heap.size w w' := by
  obtain ⟨he, hg, hf, h0⟩ := sgE_ok hu
  have hf' : ¬ (0 < fG l ∨ fF l % 2 ≠ 0) := by omega
  have hg : fG l ≤ 0 := by omega
  have hgb : decide (0 < fG l) = false := by rw [decide_eq_false_iff_not]; omega
  have hf2 : (fF l % 2 != 0) = false := by rw [bne_eq_false_iff_eq]; omega
  clear hf hf'
  replace hu := Lib.hid hu
  replace he := Lib.hid he
  replace h0 := Lib.hid h0
  have hi : (Tryd.prog.info? 59).map (·.size) = some 7 := by kernel_rfl
  have hr := Blk.new w 59 #[.int .i64 0, .int .u32 0, .int .u32 0, .int .i64 0, .int .i64 0, .int .i64 0, .int .i64 0]
  have hB := (Below.refl w.heap.size w).alloc (Nat.le_refl _) (.cells #[.int .i64 0, .int .u32 0, .int .u32 0, .int .i64 0, .int .i64 0, .int .i64 0, .int .i64 0] 59)
  have hI := h.nx hB
  have hpl := payL_len l
  have htm := fF_tm l
  go_enter Tryd.func34, Tryd.ntmps34
  go_wp2_with fail
  refine (ipParse_any _ A n c l hI hc hc2 hn).mono ?_
  rintro e w1 ⟨vo, vp, rfl, owno, ownp, hb1⟩
  unfold parsed
  obtain ⟨Ap1, cp1, rfl, hcp1, hcm1, hp1, _⟩ := ownp.any2
  obtain ⟨Ao1, co1, rfl, hco1, _, _⟩ := owno.any
  replace hB := hB.trans (hb1.mono hB.size)
  replace hr := hr.below hb1 hr.lt
  have hwz := hr.lt
  have hbx := (Below.refl w1.heap.size w1).alloc (Nat.le_refl _) (.cells #[.int .i64 (fT l), .int .i64 (fI l), .int .i64 (fF l), .int .i64 (fG l), .int .i64 (fL l), .int .i64 (fP l), .int .u32 (fS l), .int .u32 (fD l), .slice Ao1 (optL l).length co1] 83)
  replace hB := hB.trans (hbx.mono hB.size)
  replace hr := hr.below hbx hr.lt
  replace hp1 := hp1.nx hbx
  clear hb1 hI ownp owno hbx
  rw [he.out]
  go_wp2_with fail
  have hq1 := Blk.new w1 83 #[.int .i64 (fT l), .int .i64 (fI l), .int .i64 (fF l), .int .i64 (fG l), .int .i64 (fL l), .int .i64 (fP l), .int .u32 (fS l), .int .u32 (fD l), .slice Ao1 (optL l).length co1]
  generalize w1.alloc (.cells #[.int .i64 (fT l), .int .i64 (fI l), .int .i64 (fF l), .int .i64 (fG l), .int .i64 (fL l), .int .i64 (fP l), .int .u32 (fS l), .int .u32 (fD l), .slice Ao1 (optL l).length co1] 83) = u1 at *
  generalize w1.heap.size = G1 at *
  refine (portsParse_any u1 (fP l) Ap1 _ cp1 (payL l) hp1 hcp1 hcm1 (by omega)).mono ?_
  rintro e w2 ⟨rfl, hb2⟩
  rw [h0.out]
  replace hB := hB.trans (hb2.mono hB.size)
  replace hr := hr.below hb2 hr.lt
  replace hq1 := hq1.below hb2 hq1.lt
  have lt1 := hr.lt
  have lt2 := hq1.lt
  have k5 : w2.cell? ⟨G1, 5, none⟩ = some (.int .i64 (fP l)) := hq1.cellv 5 rfl
  have k6 : w2.cell? ⟨G1, 6, none⟩ = some (.int .u32 (fS l)) := hq1.cellv 6 rfl
  have k7 : w2.cell? ⟨G1, 7, none⟩ = some (.int .u32 (fD l)) := hq1.cellv 7 rfl
  replace hr := hr.alloc (.cells #[.int .i64 (fP l), .int .u32 (fS l), .int .u32 (fD l), .int .i64 (pqA (fP l) (payL l)), .int .i64 (pqB (fP l) (payL l))] 42)
  replace hB := hB.alloc hB.size (.cells #[.int .i64 (fP l), .int .u32 (fS l), .int .u32 (fD l), .int .i64 (pqA (fP l) (payL l)), .int .i64 (pqB (fP l) (payL l))] 42)
  go_wp2_with (refine wpList_store_blk rfl hr 59 (.tmp 2) (.tmp 58) rfl rfl rfl rfl hi (by simp [Value.oneCell']) ?_; intro w3 hr3 hg3)
  try rw [Exit.noGoto_ret]
  refine bodyPost_ret (results_ct rfl _ rfl (load_blk hr3 Tryd.underlying59 rfl hi)) rfl ?_
  exact ⟨rfl, below_own hB hg3 hB.size (Nat.le_refl _)⟩
end Go.Proofs.YthbfnppgaaeilaaDoor
