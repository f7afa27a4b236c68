/- config: part 2, the document's part 2. -/
import Derived.Test.YtgdeecmhhbdjgaaCgE
namespace Go.Proofs.Ytgdeecmhhbdjgaa
set_option linter.unusedVariables false
open Go Go.RowKit Go.Maps

/-- a load of a whole struct by an operation whose guard says yes. -/
theorem wpList_load_blk_w {P : Program} {w : World} {g : Nat} {T : TypeId} {cs : Array Value} {ops : Array Oper} {rest : List Oper} {op : Oper} {a : Act} {Q : Exit → Act → World → Prop} (hgd : Region.wanted op (yielded ops a.tmps) = true) (h : Blk w g T cs) (ty : TypeId) (x : Operand) (ho : op.op = .load ty x)
    (hx : a.eval x = .pointer (some ⟨g, 0, none⟩)) {d : TypeDesc} (hu : P.underlying ty = some d) (hd : d.isRow = true) (hi : (P.info? ty).map (·.size) = some cs.size)
    (hk : wpList P ops Q rest (a.put op.dst (.agg cs)) w) : wpList P ops Q (op :: rest) a w := by
  refine wpList_step fun K hK => ?_
  simp only [hgd, if_true]
  exact wp_load_mid ty x ho g 0 hx cs.toList d (fun j v hj => by rw [Nat.zero_add, h.cell]; simpa using hj) hu hd (by simpa using hi) (hK _ _ hk)
theorem cfg_cells {w : World} {g : Nat} {T : TypeId} {c : CfgV} (h : Blk w g T (cfgC c)) : w.cell? ⟨g, 0, none⟩ = some (.int .i64 c.as_) ∧ w.cell? ⟨g, 1, none⟩ = some (.int .u32 c.id) ∧ w.cell? ⟨g, 2, none⟩ = some (.int .u32 c.own) ∧ w.cell? ⟨g, 3, none⟩ = some (.slice c.pA c.pn c.pc) ∧ w.cell? ⟨g, 4, none⟩ = some (.slice c.vA c.vn c.vc) ∧ w.cell? ⟨g, 5, none⟩ = some (.slice c.sA c.sn c.sc) ∧ w.cell? ⟨g, 6, none⟩ = some (.int .i64 c.rise) ∧ w.cell? ⟨g, 7, none⟩ = some (.int .i64 c.fall) ∧ w.cell? ⟨g, 8, none⟩ = some (.int .i64 c.every) ∧ w.cell? ⟨g, 9, none⟩ = some (.int .i64 c.pat) ∧ w.cell? ⟨g, 10, none⟩ = some (.int .i64 c.room) ∧ w.cell? ⟨g, 11, none⟩ = some (.int .i64 c.idle) ∧ w.cell? ⟨g, 12, none⟩ = some (.int .i64 c.queue) ∧ w.cell? ⟨g, 13, none⟩ = some (.int .i64 c.dF) ∧ w.cell? ⟨g, 14, none⟩ = some (.int .i64 c.dS) ∧ w.cell? ⟨g, 15, none⟩ = some (.int .i64 c.dR) ∧ w.cell? ⟨g, 16, none⟩ = some (.int .i64 c.dC) ∧ w.cell? ⟨g, 17, none⟩ = some (.int .i64 c.dH) ∧ w.cell? ⟨g, 18, none⟩ = some (.int .i64 c.ttl) :=
  ⟨h.cellv 0 rfl, h.cellv 1 rfl, h.cellv 2 rfl, h.cellv 3 rfl, h.cellv 4 rfl, h.cellv 5 rfl, h.cellv 6 rfl, h.cellv 7 rfl, h.cellv 8 rfl, h.cellv 9 rfl, h.cellv 10 rfl, h.cellv 11 rfl, h.cellv 12 rfl, h.cellv 13 rfl, h.cellv 14 rfl, h.cellv 15 rfl, h.cellv 16 rfl, h.cellv 17 rfl, h.cellv 18 rfl⟩
set_option maxRecDepth 100000 in
set_option maxHeartbeats 8000000 in
theorem peersC_any (w : World) (c : CfgV) (h : CfgIn w c) : Calls Try.prog 23 #[.agg (cfgC c)] w fun e w' => e = .returned (.bool (peersB c)) ∧ Below w.heap.size w w' := by
  have hB := (Below.refl w.heap.size w).alloc (Nat.le_refl _) (.cells (cfgC c) 29)
  have hq := Blk.new w 29 (cfgC c)
  have hC := h.nx hB
  have hPl := Lib.hid h.peers.1
  have hpn := h.lens.1.1
  have hown := h.own_
  clear h
  go_enter Try.func23, Try.ntmps23
  go_upto_region 1 with (fail)
  generalize w.alloc (.cells (cfgC c) 29) = w1 at *
  obtain ⟨q0, q1, q2, q3, q4, q5, q6, q7, q8, q9, q10, q11, q12, q13, q14, q15, q16, q17, q18⟩ := cfg_cells hq
  have ql := hq.lt
  by_cases h8 : c.pn ≤ 8
  rotate_left
  · have k1 : (8 : Int) < c.pn := by omega
    go_wp2_with fail
    go_ret
    exact ⟨ret_bool (by unfold peersB; rw [hPl.out]; simp; omega), hB⟩
  have k1 : (c.pn : Int) ≤ 8 := by omega
  go_wp2_with fail
  clear q0 q1 q2 q3 q4 q5 q6 q7 q8 q9 q10 q11 q12 q13 q14 q15 q16 q17 q18
  clear ql
  have hiC : (Try.prog.info? 29).map (·.size) = some (cfgC c).size := by kernel_rfl
  go_loopw [11] (fun i wr => ∃ k : Nat, k ≤ c.pn ∧ i = .int .i64 (k : Int) ∧ (∀ j a, j < k → c.P[j]? = some a → peerB c a = true) ∧ CfgIn wr c ∧ Blk wr w.heap.size 29 (cfgC c) ∧ Below w.heap.size w wr) (fun i _ => c.pn - (intOf i).toNat)
  case atStart => exact ⟨0, Nat.zero_le _, rfl, fun j a hj => absurd hj (by omega), hC, hq, hB⟩
  case round =>
  clear hC hq hB
  obtain ⟨k, hk, rfl, hall, hC, hq, hB⟩ := hrel
  replace hall := Lib.hid hall
  by_cases hlt : k < c.pn
  · have hki : (k : Int) < c.pn := by omega
    obtain ⟨p, hp⟩ : ∃ p, c.P[k]? = some p := ⟨_, List.getElem?_eq_getElem (by rw [hPl.out]; exact hlt)⟩
    have hp9 := Lib.hid hp
    have cS := fun w hC => speakerC_yes w c k p hC hp
    have cP := fun w hC => policyC_yes w c k p hC hp
    have hno : peerB c p = false → peersB c = false := fun hf => by
      unfold peersB
      rw [all_no hp hf]
      simp
    have hyes : peerB c p = true → ∀ j a, j < k + 1 → c.P[j]? = some a → peerB c a = true := fun ht j a hj ha => by
      by_cases hjk : j < k
      · exact hall.out j a hjk ha
      · obtain rfl : j = k := by omega
        rw [hp] at ha; injection ha with ha; subst ha
        exact ht
    have cG := fun w => spkGood_any c.as_ p.as_ c.id p.hold p.retry c.queue p.gap w
    have eS : (sessG c.as_ p.as_ c.id p.hold p.retry c.queue && rngB 0 65535 p.gap) = spkB c p := rfl
    rw [eS] at cG
    have cV := fun w => pl.good_any c.as_ c.own p.med p.prep p.back w hown.1 hown.2
    have eP : pl.goodV c.as_ c.own p.med p.prep p.back = polB c p := rfl
    rw [eP] at cV
    clear hp eS eP
    go_wp2_with (refine wpList_load_blk rfl hq 29 (.tmp 1) rfl rfl Try.underlying29 rfl hiC ?_)
    refine (cS wr hC).mono ?_
    rintro e wa ⟨rfl, hb⟩
    replace hC := hC.nx hb
    replace hq := hq.below hb hq.lt
    replace hB := hB.trans (hb.mono hB.size)
    clear hb
    unfold spkA
    go_wp2_with fail
    refine (cG wa).mono ?_
    rintro e wb ⟨rfl, hb⟩
    replace hC := hC.nx hb
    replace hq := hq.below hb hq.lt
    replace hB := hB.trans (hb.mono hB.size)
    clear hb
    cases hs : spkB c p
    · have hf := Lib.hid (hno (by unfold peerB; rw [hs]; rfl))
      clear hs hno hyes
      go_wp2_with fail
      go_ret
      exact ⟨ret_bool hf.out.symm, hB⟩
    · replace hs := Lib.hid hs
      go_wp2_with (refine wpList_load_blk_w (by rfl) hq 29 (.tmp 1) rfl rfl Try.underlying29 rfl hiC ?_)
      refine (cP wb hC).mono ?_
      rintro e wc ⟨rfl, hb⟩
      replace hC := hC.nx hb
      replace hq := hq.below hb hq.lt
      replace hB := hB.trans (hb.mono hB.size)
      clear hb
      unfold polA
      go_wp2_with fail
      refine (cV wc).mono ?_
      rintro e wd ⟨rfl, hb⟩
      replace hC := hC.nx hb
      replace hq := hq.below hb hq.lt
      replace hB := hB.trans (hb.mono hB.size)
      clear hb
      cases hv : polB c p
      · have hf := Lib.hid (hno (by unfold peerB; rw [hv, Bool.and_false]))
        clear hv hno hyes
        go_wp2_with fail
        go_ret
        exact ⟨ret_bool hf.out.symm, hB⟩
      · have hy := Lib.hid (hyes (by unfold peerB; rw [hs.out, hv]; rfl))
        clear hv hno hyes
        go_wp2_with fail
        exact ⟨⟨k + 1, by omega, by go_num, hy.out, hC, hq, hB⟩, by simp [intOf]; omega⟩
  · obtain rfl : k = c.pn := by omega
    go_wp2_with fail
    go_ret
    refine ⟨ret_bool ?_, hB⟩
    unfold peersB
    rw [hPl.out, all_yes fun j a ha => hall.out j a (by have := (List.getElem?_eq_some_iff.1 ha).1; have := hPl.out; omega) ha]
    simp [h8]
set_option maxRecDepth 100000 in
set_option maxHeartbeats 8000000 in
theorem refPeers_any (w : World) (c : CfgV) (h : CfgIn w c) : Calls Try.prog 28 #[.agg (cfgC c)] w fun e w' => e = .returned (.bool (peersB c)) ∧ Below w.heap.size w w' := by
  have hB := (Below.refl w.heap.size w).alloc (Nat.le_refl _) (.cells (cfgC c) 37)
  have hq := Blk.new w 37 (cfgC c)
  have hC := h.nx hB
  have hPl := Lib.hid h.peers.1
  have hpn := h.lens.1.1
  have hown := h.own_
  clear h
  go_enter Try.func28, Try.ntmps28
  go_upto_region 1 with (fail)
  generalize w.alloc (.cells (cfgC c) 37) = w1 at *
  have q3 : w1.cell? ⟨w.heap.size, 3, none⟩ = some (.slice c.pA c.pn c.pc) := hq.cellv 3 rfl
  have ql := hq.lt
  go_wp2_with fail
  clear ql q3
  have hiC : (Try.prog.info? 37).map (·.size) = some (cfgC c).size := by kernel_rfl
  go_loopw [8] (fun i wr => ∃ k : Nat, k ≤ c.pn ∧ i = .int .i64 (k : Int) ∧ (∀ j a, j < k → c.P[j]? = some a → peerB c a = true) ∧ k ≤ 8 ∧ CfgIn wr c ∧ Blk wr w.heap.size 37 (cfgC c) ∧ Below w.heap.size w wr) (fun i _ => c.pn - (intOf i).toNat)
  case atStart => exact ⟨0, Nat.zero_le _, rfl, fun j a hj => absurd hj (by omega), by omega, hC, hq, hB⟩
  case round =>
  clear hC hq hB
  obtain ⟨k, hk, rfl, hall, hk8, hC, hq, hB⟩ := hrel
  replace hall := Lib.hid hall
  by_cases hlt : k < c.pn
  · have hki : (k : Int) < c.pn := by omega
    by_cases h8 : k < 8
    rotate_left
    · have k8 : decide ((8 : Int) ≤ k) = true := by simp; omega
      go_wp2_with fail
      go_ret
      exact ⟨ret_bool (by unfold peersB; rw [hPl.out]; simp; omega), hB⟩
    have k8 : decide ((8 : Int) ≤ k) = false := by simp; omega
    obtain ⟨p, hp⟩ : ∃ p, c.P[k]? = some p := ⟨_, List.getElem?_eq_getElem (by rw [hPl.out]; exact hlt)⟩
    have cS := fun w hC => refSpeaker_yes w c k p hC hp
    have cP := fun w hC => refPolicy_yes w c k p hC hp
    have hno : peerB c p = false → peersB c = false := fun hf => by
      unfold peersB
      rw [all_no hp hf]
      simp
    have hyes : peerB c p = true → ∀ j a, j < k + 1 → c.P[j]? = some a → peerB c a = true := fun ht j a hj ha => by
      by_cases hjk : j < k
      · exact hall.out j a hjk ha
      · obtain rfl : j = k := by omega
        rw [hp] at ha; injection ha with ha; subst ha
        exact ht
    have cG := fun w => refSessGood_any c.as_ p.as_ c.id p.hold p.retry c.queue w
    obtain ⟨SB, hSB⟩ : ∃ SB, sessG c.as_ p.as_ c.id p.hold p.retry c.queue = SB := ⟨_, rfl⟩
    have eS : spkB c p = (SB && rngB 0 65535 p.gap) := by rw [← hSB]; rfl
    rw [hSB] at cG
    clear hSB
    have cV := fun w => pl.refGood17_any c.as_ c.own p.med p.prep p.back w hown.1 hown.2
    have eP : pl.goodV c.as_ c.own p.med p.prep p.back = polB c p := rfl
    rw [eP] at cV
    replace eS := Lib.hid eS
    clear hp eP
    go_upto_region 6 with (fail)
    go_wp2_with (refine wpList_load_blk rfl hq 37 (.tmp 1) rfl rfl Try.underlying37 rfl hiC ?_)
    refine (cS wr hC).mono ?_
    rintro e wa ⟨rfl, hb⟩
    replace hC := hC.nx hb
    replace hq := hq.below hb hq.lt
    replace hB := hB.trans (hb.mono hB.size)
    clear hb
    unfold spkA
    have hb := (Below.refl wa.heap.size wa).alloc (Nat.le_refl _) (.cells #[.int .i64 c.as_, .int .i64 p.as_, .int .u32 c.id, .int .i64 p.hold, .int .i64 p.retry, .int .i64 c.queue, .int .i64 p.gap] 51)
    have h5 := Blk.new wa 51 #[.int .i64 c.as_, .int .i64 p.as_, .int .u32 c.id, .int .i64 p.hold, .int .i64 p.retry, .int .i64 c.queue, .int .i64 p.gap]
    replace hC := hC.nx hb
    replace hq := hq.below hb hq.lt
    replace hB := hB.trans (hb.mono hB.size)
    clear hb
    go_upto_region 7 with (fail)
    generalize wa.alloc (.cells #[.int .i64 c.as_, .int .i64 p.as_, .int .u32 c.id, .int .i64 p.hold, .int .i64 p.retry, .int .i64 c.queue, .int .i64 p.gap] 51) = wb at *
    generalize wa.heap.size = g5 at *
    have s0 : wb.cell? ⟨g5, 0, none⟩ = some (.int .i64 c.as_) := h5.cellv 0 rfl
    have s1 : wb.cell? ⟨g5, 1, none⟩ = some (.int .i64 p.as_) := h5.cellv 1 rfl
    have s2 : wb.cell? ⟨g5, 2, none⟩ = some (.int .u32 c.id) := h5.cellv 2 rfl
    have s3 : wb.cell? ⟨g5, 3, none⟩ = some (.int .i64 p.hold) := h5.cellv 3 rfl
    have s4 : wb.cell? ⟨g5, 4, none⟩ = some (.int .i64 p.retry) := h5.cellv 4 rfl
    have s5 : wb.cell? ⟨g5, 5, none⟩ = some (.int .i64 c.queue) := h5.cellv 5 rfl
    have s6 : wb.cell? ⟨g5, 6, none⟩ = some (.int .i64 p.gap) := h5.cellv 6 rfl
    have sl := h5.lt
    go_wp2_with fail
    refine (cG wb).mono ?_
    rintro e wc ⟨rfl, hb⟩
    clear s0 s1 s2 s3 s4 s5 s6 sl
    replace h5 := h5.below hb h5.lt
    replace hC := hC.nx hb
    replace hq := hq.below hb hq.lt
    replace hB := hB.trans (hb.mono hB.size)
    clear hb
    have s6 : wc.cell? ⟨g5, 6, none⟩ = some (.int .i64 p.gap) := h5.cellv 6 rfl
    have sl := h5.lt
    cases SB
    · skip
      have hf := Lib.hid (hno (by unfold peerB; rw [eS.out]; rfl))
      clear hno hyes
      go_wp2_with fail
      go_ret
      exact ⟨ret_bool hf.out.symm, hB⟩
    by_cases g0 : p.gap < 0
    · have d0 : decide (p.gap < 0) = true := by simpa using g0
      have e0 : rngB 0 65535 p.gap = false := by unfold rngB; simp; omega
      have hf := Lib.hid (hno (by unfold peerB; rw [eS.out, e0]; rfl))
      clear hno hyes
      go_wp2_with fail
      go_ret
      exact ⟨ret_bool hf.out.symm, hB⟩
    have d0 : decide (p.gap < 0) = false := by simpa using g0
    by_cases g1 : 65535 < p.gap
    · have d1 : decide (65535 < p.gap) = true := by simpa using g1
      have e0 : rngB 0 65535 p.gap = false := by unfold rngB; simp; omega
      have hf := Lib.hid (hno (by unfold peerB; rw [eS.out, e0]; rfl))
      clear hno hyes
      go_wp2_with fail
      go_ret
      exact ⟨ret_bool hf.out.symm, hB⟩
    have d1 : decide (65535 < p.gap) = false := by simpa using g1
    have hs := Lib.hid (show spkB c p = true by rw [eS.out]; unfold rngB; simp; omega)
    go_wp2_with (refine wpList_load_blk_w (by rfl) hq 37 (.tmp 1) rfl rfl Try.underlying37 rfl hiC ?_)
    refine (cP wc hC).mono ?_
    rintro e wd ⟨rfl, hb⟩
    clear s6 sl h5
    replace hC := hC.nx hb
    replace hq := hq.below hb hq.lt
    replace hB := hB.trans (hb.mono hB.size)
    clear hb
    unfold polA
    go_wp2_with fail
    refine (cV wd).mono ?_
    rintro e we ⟨rfl, hb⟩
    replace hC := hC.nx hb
    replace hq := hq.below hb hq.lt
    replace hB := hB.trans (hb.mono hB.size)
    clear hb
    cases hv : polB c p
    · have hf := Lib.hid (hno (by unfold peerB; rw [hv, Bool.and_false]))
      clear hv hno hyes
      go_wp2_with fail
      go_ret
      exact ⟨ret_bool hf.out.symm, hB⟩
    · have hy := Lib.hid (hyes (by unfold peerB; rw [hs.out, hv]; rfl))
      clear hv hno hyes
      go_wp2_with fail
      exact ⟨⟨k + 1, by omega, by go_num, hy.out, by omega, hC, hq, hB⟩, by simp [intOf]; omega⟩
  · obtain rfl : k = c.pn := by omega
    go_wp2_with fail
    go_ret
    refine ⟨ret_bool ?_, hB⟩
    unfold peersB
    rw [hPl.out, all_yes fun j a ha => hall.out j a (by have := (List.getElem?_eq_some_iff.1 ha).1; have := hPl.out; omega) ha]
    simp [hk8]
end Go.Proofs.Ytgdeecmhhbdjgaa
