import Derived.Test.YtecmhakapomepaaGreatMConfigForms19
import Derived.Test.YtecmhakapomepaaGreatMConfigForms12
/- config: the document's part 5. -/
namespace Go.Proofs.YtecmhakapomepaaGreat
set_option linter.unusedVariables false
open Go Go.RowKit Go.Maps

theorem sfind_mem : ∀ {L : List SiteV} {id : Int} {k : Nat}, sb.findF L id = some k → ∃ m ∈ L, m.id = id
  | [], id, k, h => by simp [sb.findF] at h
  | a :: L, id, k, h => by
    unfold sb.findF at h
    split at h
    · rename_i e; exact ⟨a, List.mem_cons_self, e⟩
    · cases hf : sb.findF L id with
      | none => rw [hf] at h; simp at h
      | some j =>
        obtain ⟨m, hm, e⟩ := sfind_mem hf
        exact ⟨m, List.mem_cons_of_mem _ hm, e⟩
theorem sins_perm (L : List SiteV) (m : SiteV) : (sb.insM L m).Perm (m :: L) := by
  unfold sb.insM
  refine List.perm_middle.trans ?_
  rw [List.takeWhile_append_dropWhile]
theorem srel_add {M L : List SiteV} (h : L.Perm M) (s : SiteV) : ((sb.addR L s.id s.ad s.cost).1 = 0 ↔ sAddV M s = 0) ∧ (sAddV M s = 0 → (sb.addR L s.id s.ad s.cost).2.Perm (M ++ [s])) := by
  have hok : sb.addOk s.id s.ad s.cost = siteOk s := rfl
  have hl := h.length_eq
  unfold sb.addR sAddV
  rw [hok]
  cases h1 : siteOk s
  · simp
  · simp only [Bool.true_eq_false, if_false]
    cases hf : sb.findF L s.id with
    | some k =>
      obtain ⟨m, hm, e⟩ := sfind_mem hf
      have hc : ((M.map SiteV.id).contains s.id) = true := by
        rw [List.contains_iff_mem]
        exact List.mem_map.2 ⟨m, h.mem_iff.1 hm, e⟩
      simp only [hc, if_true]
      simp
    | none =>
      have hc : ((M.map SiteV.id).contains s.id) = false := by
        rw [← Bool.not_eq_true, List.contains_iff_mem]
        intro hm
        obtain ⟨m, hm, e⟩ := List.mem_map.1 hm
        have hm2 := h.mem_iff.2 hm
        obtain ⟨j, hj, rfl⟩ := List.getElem_of_mem hm2
        -- the first such place
        have : ∀ {L : List SiteV}, sb.findF L s.id = none → ∀ m ∈ L, m.id ≠ s.id := by
          intro L
          induction L with
          | nil => intro _ m hm; cases hm
          | cons a L ih =>
            intro hn m hm e
            unfold sb.findF at hn
            split at hn
            · cases hn
            · rename_i hne
              rcases List.mem_cons.1 hm with rfl | hm
              · exact hne e
              · cases hf2 : sb.findF L s.id with
                | none => exact ih hf2 m hm e
                | some j => rw [hf2] at hn; simp at hn
        exact this hf _ hm2 e
      simp only [hc, Bool.false_eq_true, if_false]
      by_cases h8 : 8 ≤ M.length
      · rw [if_pos h8, if_pos (by omega)]
        simp
      · rw [if_neg h8, if_neg (by omega)]
        refine ⟨by simp, fun _ => ?_⟩
        refine (sins_perm L s).trans ?_
        refine (List.Perm.cons s h).trans ?_
        exact (List.perm_append_singleton s M).symm
theorem sRefAdd (w : World) (X : Nat → Prop) (g : Nat) (L : List SiteV) (s : SiteV) (h : sb.RefIn w X g L) (hn : L.length ≤ 8) (hX : ∀ b, w.heap.size ≤ b → X b) :
    Calls Tryz.prog 110 #[.pointer (some ⟨g, 0, none⟩), .agg #[.int .i64 s.id, .int .u32 s.ad, .int .i64 s.cost]] w fun e w' => e = .returned (.int .i64 (sb.addR L s.id s.ad s.cost).1) ∧ sb.RefIn w' X g (sb.addR L s.id s.ad s.cost).2 ∧ w.grownBy w' (some g) := by
  by_cases hok : sb.addOk s.id s.ad s.cost = false
  · exact sb.refAddBad w X g L s.id s.ad s.cost h hok
  · exact sb.refAddOk w X g L s.id s.ad s.cost h (by simpa using hok) hn hX
set_option maxRecDepth 100000 in
set_option maxHeartbeats 4000000 in
theorem refSites_any (w : World) (c : CfgV) (h : CfgIn w c) (hs : CfgSm c) : Calls Tryz.prog 75 #[.agg (cfgC c)] w fun e w' => e = .returned (.bool (sitesB c)) ∧ Below w.heap.size w w' := by
  have hB := (Below.refl w.heap.size w).alloc (Nat.le_refl _) (.cells (cfgC c) 41)
  have hq := Blk.new w 41 (cfgC c)
  have hSl := Lib.hid h.sites.1
  have hsn := h.lens.2.2.1
  obtain ⟨A, hA⟩ : ∃ A, A = c.sA := ⟨_, rfl⟩
  have hSv := h.sites
  rw [← hA] at hSv
  go_enter Tryz.func75, Tryz.ntmps75
  go_upto_region 1 with (fail)
  generalize w.alloc (.cells (cfgC c) 41) = w1 at *
  have hbx := (Below.refl w1.heap.size w1).alloc (Nat.le_refl _) (.cells #[.slice none 0 0] 170)
  have h5 := Blk.new w1 170 #[.slice none 0 0]
  have hz1 := hB.size
  have hl1 := hq.lt
  replace hq := hq.below hbx hq.lt
  replace hB := hB.trans (hbx.mono hB.size)
  go_upto_region 2 with (fail)
  generalize w1.alloc (.cells #[.slice none 0 0] 170) = w2 at *
  have hgz : w1.heap.size < w2.heap.size := h5.lt
  generalize hgp : w1.heap.size = gp at *
  clear hgp hbx
  have hR : sb.RefIn w2 (fun b => gp ≤ b) gp [] := ⟨none, 0, 0, Nat.le_refl _, Nat.zero_le _, h5, Seen.none_⟩
  have q5 : w2.cell? ⟨w.heap.size, 5, none⟩ = some (.slice A c.sn c.sc) := by rw [hA]; exact hq.cellv 5 rfl
  have ql := hq.lt
  replace hA := Lib.hid hA
  go_upto_region 3 with (fail)
  clear q5 ql h5
  go_loopw [11] (fun i wr => ∃ (k : Nat) (L : List SiteV), k ≤ c.sn ∧ i = .int .i64 (k : Int) ∧ (∀ j a, j < k → c.S[j]? = some a → siteB c.own (c.S.take j) a = true) ∧ L.Perm (c.S.take k) ∧ L.length ≤ 8 ∧ sb.RefIn wr (fun b => gp ≤ b) gp L ∧ Blk wr w.heap.size 41 (cfgC c) ∧ gp ≤ wr.heap.size ∧ Below w.heap.size w wr) (fun i _ => c.sn - (intOf i).toNat)
  case atStart => exact ⟨0, [], Nat.zero_le _, rfl, fun j a hj => absurd hj (by omega), List.Perm.refl _, by simp, hR, hq, by omega, hB⟩
  case round =>
  clear hR hq hB
  obtain ⟨k, L, hk, rfl, hall, hRel, hL8, hR, hq, hzg, hB⟩ := hrel
  replace hall := Lib.hid hall
  by_cases hlt : k < c.sn
  · have hki : (k : Int) < c.sn := by omega
    have hk0 : (0 : Int) ≤ k := by omega
    have hk40 : (k : Int) ≤ 300 := by have := hs.s; omega
    obtain ⟨b, off, s, e1, hb, hsv, hok, r0, r1, r2⟩ := site_cells (seen_nx hSv hB) hlt
    subst e1
    have hno : siteB c.own (c.S.take k) s = false → sitesB c = false := fun hf => by
      unfold sitesB
      refine range_no (k := k) (List.getElem?_eq_some_iff.1 hsv).1 ?_
      simp only [hsv]
      exact hf
    have hyes : siteB c.own (c.S.take k) s = true → ∀ j a, j < k + 1 → c.S[j]? = some a → siteB c.own (c.S.take j) a = true := fun ht j a hj ha => by
      by_cases hjk : j < k
      · exact hall.out j a hjk ha
      · obtain rfl : j = k := by omega
        rw [hsv] at ha; injection ha with ha; subst ha
        exact ht
    have htk : c.S.take (k + 1) = c.S.take k ++ [s] := by rw [List.take_add_one, hsv]; rfl
    have hbx := (Below.refl wr.heap.size wr).alloc (Nat.le_refl _) (.cells #[.int .i64 s.id, .int .u32 s.ad, .int .i64 s.cost] 82)
    have h6 := Blk.new wr 82 #[.int .i64 s.id, .int .u32 s.ad, .int .i64 s.cost]
    replace hq := hq.below hbx hq.lt
    replace hR := hR.nx hbx
    replace hB := hB.trans (hbx.mono hB.size)
    have hz3 := hbx.size
    go_upto_region 5 with (fail)
    generalize wr.alloc (.cells #[.int .i64 s.id, .int .u32 s.ad, .int .i64 s.cost] 82) = w3 at *
    generalize wr.heap.size = g5 at *
    have s0 : w3.cell? ⟨g5, 0, none⟩ = some (.int .i64 s.id) := h6.cellv 0 rfl
    have s1 : w3.cell? ⟨g5, 1, none⟩ = some (.int .u32 s.ad) := h6.cellv 1 rfl
    have s2 : w3.cell? ⟨g5, 2, none⟩ = some (.int .i64 s.cost) := h6.cellv 2 rfl
    have sl := h6.lt
    have q2 : w3.cell? ⟨w.heap.size, 2, none⟩ = some (.int .u32 c.own) := hq.cellv 2 rfl
    have ql := hq.lt
    clear r0 r1 r2 hbx hb
    rw [siteB_eq] at hno hyes
    obtain ⟨k1, k2⟩ := srel_add hRel s
    have hA := sRefAdd w3 (fun b => gp ≤ b) gp L s hR hL8 (fun b hb => by omega)
    have hl2 : (sb.addR L s.id s.ad s.cost).1 = 0 → (sb.addR L s.id s.ad s.cost).2.length ≤ 8   := fun hz => by
      have e0 := k1.1 hz
      rw [(k2 e0).length_eq]
      have := (sAddV_iff.1 e0)
      simp only [Bool.and_eq_true, decide_eq_true_eq] at this
      have h8 := this.2
      rw [List.length_append, List.length_singleton]
      omega
    by_cases ho : s.ad = c.own
    · have d0 : (s.ad == c.own) = true := by simpa using ho
      have ev := Lib.hid (hno (by simp [ho]))
      clear hno hyes ho hA
      go_wp2_with fail
      go_ret
      exact ⟨ret_bool ev.out.symm, hB⟩
    have d0 : (s.ad == c.own) = false := by simpa using ho
    replace ho := Lib.hid ho
    generalize (sb.addR L s.id s.ad s.cost).1 = rr at *
    generalize (sb.addR L s.id s.ad s.cost).2 = L2 at *
    go_wp2_with fail
    refine hA.mono ?_
    rintro e w4 ⟨rfl, hR4, hg⟩
    have hB4 := hB.trans (Below.of_grown (B := w.heap.size) hg hB.size (by omega))
    have hq4 := hq.grown hg (by intro e; injection e with e; omega)
    have hz4 := hg.size
    clear hA s0 s1 s2 sl q2 ql hR hq
    by_cases hr0 : rr = 0
    · have d2 : (rr != 0) = false := by simpa using hr0
      have hp := k2 (k1.1 hr0)
      rw [← htk] at hp
      have hy := Lib.hid (hyes (by rw [k1.1 hr0]; simp [ho.out]))
      have hl3 := hl2 hr0
      replace hr0 := Lib.hid hr0
      clear hno hyes k1 k2 hl2 htk
      go_wp2_with fail
      exact ⟨⟨k + 1, L2, by omega, by go_num, hy.out, hp, hl3, hR4, hq4, by omega, hB4⟩, by simp [intOf]; omega⟩
    · have d2 : (rr != 0) = true := by simpa using hr0
      have ev := Lib.hid (hno (by have : sAddV (c.S.take k) s ≠ 0 := fun e => hr0 (k1.2 e); simp [this]))
      clear hno hyes k1 k2 hl2 htk
      go_wp2_with fail
      go_ret
      exact ⟨ret_bool ev.out.symm, hB4⟩
  · obtain rfl : k = c.sn := by omega
    have ev := Lib.hid (show sitesB c = true by
      unfold sitesB
      refine range_yes fun k hk => ?_
      have ha := List.getElem?_eq_getElem hk
      simp only [ha]
      exact hall.out k _ (by have := hSl.out; omega) ha)
    go_wp2_with fail
    go_ret
    exact ⟨ret_bool ev.out.symm, hB⟩
end Go.Proofs.YtecmhakapomepaaGreat

/- config: the tables, the rule, the time to live; Check. -/
namespace Go.Proofs.YtecmhakapomepaaGreat
set_option linter.unusedVariables false
open Go Go.RowKit Go.Maps

set_option maxRecDepth 100000 in
set_option maxHeartbeats 8000000 in
theorem tabC_any (w : World) (c : CfgV) : Calls Tryz.prog 61 #[.agg (cfgC c)] w fun e w' => e = .returned (.bool (tabB c)) ∧ Below w.heap.size w w' := by
  have hB := (Below.refl w.heap.size w).alloc (Nat.le_refl _) (.cells (cfgC c) 29)
  have hq := Blk.new w 29 (cfgC c)
  go_enter Tryz.func61, Tryz.ntmps61
  go_upto_region 1 with (fail)
  generalize w.alloc (.cells (cfgC c) 29) = w1 at *
  have q6 : w1.cell? ⟨w.heap.size, 6, none⟩ = some (.int .i64 c.rise) := hq.cellv 6 rfl
  have q7 : w1.cell? ⟨w.heap.size, 7, none⟩ = some (.int .i64 c.fall) := hq.cellv 7 rfl
  have q8 : w1.cell? ⟨w.heap.size, 8, none⟩ = some (.int .i64 c.every) := hq.cellv 8 rfl
  have q9 : w1.cell? ⟨w.heap.size, 9, none⟩ = some (.int .i64 c.pat) := hq.cellv 9 rfl
  have q10 : w1.cell? ⟨w.heap.size, 10, none⟩ = some (.int .i64 c.room) := hq.cellv 10 rfl
  have q11 : w1.cell? ⟨w.heap.size, 11, none⟩ = some (.int .i64 c.idle) := hq.cellv 11 rfl
  have ql := hq.lt
  go_wp2_with fail
  refine (riseN_any c.rise c.fall w1).mono ?_
  rintro e w2 ⟨p, rfl, hp, hb⟩
  clear q6 q7 q8 q9 q10 q11 ql
  replace hq := hq.below hb hq.lt
  replace hB := hB.trans (hb.mono hB.size)
  clear hb
  have q6 : w2.cell? ⟨w.heap.size, 6, none⟩ = some (.int .i64 c.rise) := hq.cellv 6 rfl
  have q7 : w2.cell? ⟨w.heap.size, 7, none⟩ = some (.int .i64 c.fall) := hq.cellv 7 rfl
  have q8 : w2.cell? ⟨w.heap.size, 8, none⟩ = some (.int .i64 c.every) := hq.cellv 8 rfl
  have q9 : w2.cell? ⟨w.heap.size, 9, none⟩ = some (.int .i64 c.pat) := hq.cellv 9 rfl
  have q10 : w2.cell? ⟨w.heap.size, 10, none⟩ = some (.int .i64 c.room) := hq.cellv 10 rfl
  have q11 : w2.cell? ⟨w.heap.size, 11, none⟩ = some (.int .i64 c.idle) := hq.cellv 11 rfl
  have ql := hq.lt
  cases p with
  | none =>
    have ev := Lib.hid (show tabB c = false by unfold tabB; rw [← hp]; rfl)
    clear hp
    go_wp2_with fail
    go_ret
    exact ⟨ret_bool ev.out.symm, hB⟩
  | some a1 =>
  replace hp := Lib.hid hp
  go_wp2_with fail
  refine (probeN_any c.every c.pat w2).mono ?_
  rintro e w3 ⟨p, rfl, hp2, hb⟩
  clear q6 q7 q8 q9 q10 q11 ql
  replace hq := hq.below hb hq.lt
  replace hB := hB.trans (hb.mono hB.size)
  clear hb
  have q6 : w3.cell? ⟨w.heap.size, 6, none⟩ = some (.int .i64 c.rise) := hq.cellv 6 rfl
  have q7 : w3.cell? ⟨w.heap.size, 7, none⟩ = some (.int .i64 c.fall) := hq.cellv 7 rfl
  have q8 : w3.cell? ⟨w.heap.size, 8, none⟩ = some (.int .i64 c.every) := hq.cellv 8 rfl
  have q9 : w3.cell? ⟨w.heap.size, 9, none⟩ = some (.int .i64 c.pat) := hq.cellv 9 rfl
  have q10 : w3.cell? ⟨w.heap.size, 10, none⟩ = some (.int .i64 c.room) := hq.cellv 10 rfl
  have q11 : w3.cell? ⟨w.heap.size, 11, none⟩ = some (.int .i64 c.idle) := hq.cellv 11 rfl
  have ql := hq.lt
  cases p with
  | none =>
    have ev := Lib.hid (show tabB c = false by unfold tabB; rw [← hp.out, ← hp2]; rfl)
    clear hp2
    go_wp2_with fail
    go_ret
    exact ⟨ret_bool ev.out.symm, hB⟩
  | some a2 =>
  replace hp2 := Lib.hid hp2
  go_wp2_with fail
  refine (flowsN_any c.room c.idle w3).mono ?_
  rintro e w4 ⟨p, rfl, hp3, hb⟩
  clear q6 q7 q8 q9 q10 q11 ql
  replace hq := hq.below hb hq.lt
  replace hB := hB.trans (hb.mono hB.size)
  clear hb
  have q6 : w4.cell? ⟨w.heap.size, 6, none⟩ = some (.int .i64 c.rise) := hq.cellv 6 rfl
  have q7 : w4.cell? ⟨w.heap.size, 7, none⟩ = some (.int .i64 c.fall) := hq.cellv 7 rfl
  have q8 : w4.cell? ⟨w.heap.size, 8, none⟩ = some (.int .i64 c.every) := hq.cellv 8 rfl
  have q9 : w4.cell? ⟨w.heap.size, 9, none⟩ = some (.int .i64 c.pat) := hq.cellv 9 rfl
  have q10 : w4.cell? ⟨w.heap.size, 10, none⟩ = some (.int .i64 c.room) := hq.cellv 10 rfl
  have q11 : w4.cell? ⟨w.heap.size, 11, none⟩ = some (.int .i64 c.idle) := hq.cellv 11 rfl
  have ql := hq.lt
  have ev := Lib.hid (show tabB c = p.isSome by unfold tabB; rw [← hp.out, ← hp2.out, ← hp3]; simp)
  clear hp3
  cases p with
  | none =>
    go_wp2_with fail
    go_ret
    exact ⟨ret_bool ev.out.symm, hB⟩
  | some a3 =>
    go_wp2_with fail
    go_ret
    exact ⟨ret_bool ev.out.symm, hB⟩
theorem dGood_any (F S R C H : Int) (w : World) : Calls Tryz.prog 53 #[.agg #[.int .i64 F, .int .i64 S, .int .i64 R, .int .i64 C, .int .i64 H]] w fun e w' => e = .returned (.bool (dm.goodR F S R C H)) ∧ Below w.heap.size w w' := by
  cases h : dm.goodR F S R C H
  · exact dm.good_no F S R C H w h
  · exact dm.good_yes F S R C H w h
set_option maxRecDepth 100000 in
set_option maxHeartbeats 8000000 in
theorem rule_any (w : World) (c : CfgV) (cb : Nat) (hq : Blk w cb 29 (cfgC c)) : Calls Tryz.prog 52 #[.pointer (some ⟨cb, 0, none⟩)] w fun e w' => e = .returned (.bool (dampB c)) ∧ Below w.heap.size w w' := by
  go_enter Tryz.func52, Tryz.ntmps52
  go_upto_region 1 with (fail)
  have q13 : w.cell? ⟨cb, 13, none⟩ = some (.int .i64 c.dF) := hq.cellv 13 rfl
  have q14 : w.cell? ⟨cb, 14, none⟩ = some (.int .i64 c.dS) := hq.cellv 14 rfl
  have q15 : w.cell? ⟨cb, 15, none⟩ = some (.int .i64 c.dR) := hq.cellv 15 rfl
  have q16 : w.cell? ⟨cb, 16, none⟩ = some (.int .i64 c.dC) := hq.cellv 16 rfl
  have q17 : w.cell? ⟨cb, 17, none⟩ = some (.int .i64 c.dH) := hq.cellv 17 rfl
  have ql := hq.lt
  go_wp2_with fail
  refine (dGood_any c.dF c.dS c.dR c.dC c.dH w).mono ?_
  rintro e w2 ⟨rfl, hb⟩
  go_wp2_with fail
  go_ret
  exact ⟨rfl, hb⟩
set_option maxRecDepth 100000 in
set_option maxHeartbeats 8000000 in
theorem ttlC_any (w : World) (c : CfgV) (cb : Nat) (hq : Blk w cb 29 (cfgC c)) : Calls Tryz.prog 54 #[.pointer (some ⟨cb, 0, none⟩)] w fun e w' => e = .returned (.bool (ttlB c)) ∧ Below w.heap.size w w' := by
  go_enter Tryz.func54, Tryz.ntmps54
  go_upto_region 1 with (fail)
  have q12 : w.cell? ⟨cb, 12, none⟩ = some (.int .i64 c.queue) := hq.cellv 12 rfl
  have q18 : w.cell? ⟨cb, 18, none⟩ = some (.int .i64 c.ttl) := hq.cellv 18 rfl
  have ql := hq.lt
  go_wp2_with fail
  all_goals go_ret
  all_goals refine ⟨ret_bool ?_, Below.refl _ _⟩
  all_goals (unfold ttlB rngB; rw [Bool.eq_iff_iff]; simp <;> omega)
set_option maxRecDepth 100000 in
set_option maxHeartbeats 8000000 in
theorem first_any (w : World) (c : CfgV) (cb fb : Nat) (hC : CfgIn w c) (hs : CfgSm c) (hq : Blk w cb 29 (cfgC c)) (hF : Blk w fb 32 #[.func (.func 56) #[.agg (cfgC c)] #[], .func (.func 57) #[.agg (cfgC c)] #[], .func (.func 58) #[.agg (cfgC c)] #[], .func (.func 59) #[.agg (cfgC c)] #[], .func (.func 60) #[.agg (cfgC c)] #[], .func (.func 61) #[.agg (cfgC c)] #[], .func (.func 52) #[] #[.pointer (some ⟨cb, 0, none⟩)], .func (.func 54) #[] #[.pointer (some ⟨cb, 0, none⟩)]]) : Calls Tryz.prog 55 #[.slice (some ⟨fb, 0, none⟩) 8 8] w fun e w' => e = .returned (.int .i64 (partC c : Nat)) ∧ Below w.heap.size w w' := by
  have hB := Below.refl w.heap.size w
  go_enter Tryz.func55, Tryz.ntmps55
  go_wp2_with fail
  refine wp_loop_rounds 9 ?_
  change Code.rounds _ _ _ _ _ w
  rw [rounds_succ]
  have f0 : w.cell? ⟨fb, 0, none⟩ = some (.func (.func 56) #[.agg (cfgC c)] #[]) := hF.cellv 0 rfl
  have fl := hF.lt
  go_wp2_with fail
  refine (self_any w c).mono ?_
  rintro e u0 ⟨rfl, hb⟩
  clear f0 fl
  replace hC := hC.nx hb
  replace hq := hq.below hb hq.lt
  replace hF := hF.below hb hF.lt
  replace hB := hB.trans (hb.mono hB.size)
  clear hb
  cases e0 : selfB c
  · have ev := Lib.hid (show partC c = 1 by unfold partC; simp only [e0, if_true])
    clear e0
    go_wp2_with fail
    go_ret
    rw [ev.out]
    exact ⟨rfl, hB⟩
  replace e0 := Lib.hid e0
  go_wp2_with fail
  rw [rounds_succ]
  have f0 : u0.cell? ⟨fb, 1, none⟩ = some (.func (.func 57) #[.agg (cfgC c)] #[]) := hF.cellv 1 rfl
  have fl := hF.lt
  go_wp2_with fail
  refine (peersC_any u0 c hC).mono ?_
  rintro e u1 ⟨rfl, hb⟩
  clear f0 fl
  replace hC := hC.nx hb
  replace hq := hq.below hb hq.lt
  replace hF := hF.below hb hF.lt
  replace hB := hB.trans (hb.mono hB.size)
  clear hb
  cases e1 : peersB c
  · have ev := Lib.hid (show partC c = 2 by unfold partC; simp only [e0.out, e1, if_true, Bool.true_eq_false, if_false])
    clear e1
    go_wp2_with fail
    go_ret
    rw [ev.out]
    exact ⟨rfl, hB⟩
  replace e1 := Lib.hid e1
  go_wp2_with fail
  rw [rounds_succ]
  have f0 : u1.cell? ⟨fb, 2, none⟩ = some (.func (.func 58) #[.agg (cfgC c)] #[]) := hF.cellv 2 rfl
  have fl := hF.lt
  go_wp2_with fail
  refine (vipsC_any u1 c hC).mono ?_
  rintro e u2 ⟨rfl, hb⟩
  clear f0 fl
  replace hC := hC.nx hb
  replace hq := hq.below hb hq.lt
  replace hF := hF.below hb hF.lt
  replace hB := hB.trans (hb.mono hB.size)
  clear hb
  cases e2 : vipsB c
  · have ev := Lib.hid (show partC c = 3 by unfold partC; simp only [e0.out, e1.out, e2, if_true, Bool.true_eq_false, if_false])
    clear e2
    go_wp2_with fail
    go_ret
    rw [ev.out]
    exact ⟨rfl, hB⟩
  replace e2 := Lib.hid e2
  go_wp2_with fail
  rw [rounds_succ]
  have f0 : u2.cell? ⟨fb, 3, none⟩ = some (.func (.func 59) #[.agg (cfgC c)] #[]) := hF.cellv 3 rfl
  have fl := hF.lt
  go_wp2_with fail
  refine (poolsC_any u2 c hC hs).mono ?_
  rintro e u3 ⟨rfl, hb⟩
  clear f0 fl
  replace hC := hC.nx hb
  replace hq := hq.below hb hq.lt
  replace hF := hF.below hb hF.lt
  replace hB := hB.trans (hb.mono hB.size)
  clear hb
  cases e3 : poolsB c
  · have ev := Lib.hid (show partC c = 4 by unfold partC; simp only [e0.out, e1.out, e2.out, e3, if_true, Bool.true_eq_false, if_false])
    clear e3
    go_wp2_with fail
    go_ret
    rw [ev.out]
    exact ⟨rfl, hB⟩
  replace e3 := Lib.hid e3
  go_wp2_with fail
  rw [rounds_succ]
  have f0 : u3.cell? ⟨fb, 4, none⟩ = some (.func (.func 60) #[.agg (cfgC c)] #[]) := hF.cellv 4 rfl
  have fl := hF.lt
  go_wp2_with fail
  refine (sitesC_any u3 c hC hs).mono ?_
  rintro e u4 ⟨rfl, hb⟩
  clear f0 fl
  replace hC := hC.nx hb
  replace hq := hq.below hb hq.lt
  replace hF := hF.below hb hF.lt
  replace hB := hB.trans (hb.mono hB.size)
  clear hb
  cases e4 : sitesB c
  · have ev := Lib.hid (show partC c = 5 by unfold partC; simp only [e0.out, e1.out, e2.out, e3.out, e4, if_true, Bool.true_eq_false, if_false])
    clear e4
    go_wp2_with fail
    go_ret
    rw [ev.out]
    exact ⟨rfl, hB⟩
  replace e4 := Lib.hid e4
  go_wp2_with fail
  rw [rounds_succ]
  have f0 : u4.cell? ⟨fb, 5, none⟩ = some (.func (.func 61) #[.agg (cfgC c)] #[]) := hF.cellv 5 rfl
  have fl := hF.lt
  go_wp2_with fail
  refine (tabC_any u4 c).mono ?_
  rintro e u5 ⟨rfl, hb⟩
  clear f0 fl
  replace hC := hC.nx hb
  replace hq := hq.below hb hq.lt
  replace hF := hF.below hb hF.lt
  replace hB := hB.trans (hb.mono hB.size)
  clear hb
  cases e5 : tabB c
  · have ev := Lib.hid (show partC c = 6 by unfold partC; simp only [e0.out, e1.out, e2.out, e3.out, e4.out, e5, if_true, Bool.true_eq_false, if_false])
    clear e5
    go_wp2_with fail
    go_ret
    rw [ev.out]
    exact ⟨rfl, hB⟩
  replace e5 := Lib.hid e5
  go_wp2_with fail
  rw [rounds_succ]
  have f0 : u5.cell? ⟨fb, 6, none⟩ = some (.func (.func 52) #[] #[.pointer (some ⟨cb, 0, none⟩)]) := hF.cellv 6 rfl
  have fl := hF.lt
  go_wp2_with fail
  refine (rule_any u5 c cb hq).mono ?_
  rintro e u6 ⟨rfl, hb⟩
  clear f0 fl
  replace hC := hC.nx hb
  replace hq := hq.below hb hq.lt
  replace hF := hF.below hb hF.lt
  replace hB := hB.trans (hb.mono hB.size)
  clear hb
  cases e6 : dampB c
  · have ev := Lib.hid (show partC c = 7 by unfold partC; simp only [e0.out, e1.out, e2.out, e3.out, e4.out, e5.out, e6, if_true, Bool.true_eq_false, if_false])
    clear e6
    go_wp2_with fail
    go_ret
    rw [ev.out]
    exact ⟨rfl, hB⟩
  replace e6 := Lib.hid e6
  go_wp2_with fail
  rw [rounds_succ]
  have f0 : u6.cell? ⟨fb, 7, none⟩ = some (.func (.func 54) #[] #[.pointer (some ⟨cb, 0, none⟩)]) := hF.cellv 7 rfl
  have fl := hF.lt
  go_wp2_with fail
  refine (ttlC_any u6 c cb hq).mono ?_
  rintro e u7 ⟨rfl, hb⟩
  clear f0 fl
  replace hC := hC.nx hb
  replace hq := hq.below hb hq.lt
  replace hF := hF.below hb hF.lt
  replace hB := hB.trans (hb.mono hB.size)
  clear hb
  cases e7 : ttlB c
  · have ev := Lib.hid (show partC c = 8 by unfold partC; simp only [e0.out, e1.out, e2.out, e3.out, e4.out, e5.out, e6.out, e7, if_true, Bool.true_eq_false, if_false])
    clear e7
    go_wp2_with fail
    go_ret
    rw [ev.out]
    exact ⟨rfl, hB⟩
  replace e7 := Lib.hid e7
  go_wp2_with fail
  rw [rounds_succ]
  have ev := Lib.hid (show partC c = 0 by unfold partC; simp only [e0.out, e1.out, e2.out, e3.out, e4.out, e5.out, e6.out, e7.out, Bool.true_eq_false, if_false])
  go_wp2_with fail
  go_ret
  rw [ev.out]
  exact ⟨rfl, hB⟩
/-- Check's answers. -/
def errC (c : CfgV) : Int := if partC c = 0 then 0 else 12
set_option maxRecDepth 100000 in
set_option maxHeartbeats 8000000 in
theorem checkC_any (w : World) (c : CfgV) (h : CfgIn w c) (hs : CfgSm c) : Calls Tryz.prog 14 #[.agg (cfgC c)] w fun e w' => e = .returned (.tuple #[.int .i64 (partC c : Nat), .int .i64 (errC c)]) ∧ Below w.heap.size w w' := by
  have hB := (Below.refl w.heap.size w).alloc (Nat.le_refl _) (.cells (cfgC c) 29)
  have hq := Blk.new w 29 (cfgC c)
  have hC := h.nx hB
  have hiC : (Tryz.prog.info? 29).map (·.size) = some (cfgC c).size := by kernel_rfl
  go_enter Tryz.func14, Tryz.ntmps14
  go_upto_region 3 with (fail)
  generalize w.alloc (.cells (cfgC c) 29) = w1 at *
  have ql := hq.lt
  go_wp2_with (refine wpList_load_blk rfl hq 29 (.tmp 1) rfl rfl Tryz.underlying29 rfl hiC ?_)
  have hbx := (Below.refl w1.heap.size w1).alloc (Nat.le_refl _) (.cells #[.func (.func 56) #[.agg (cfgC c)] #[], .func (.func 57) #[.agg (cfgC c)] #[], .func (.func 58) #[.agg (cfgC c)] #[], .func (.func 59) #[.agg (cfgC c)] #[], .func (.func 60) #[.agg (cfgC c)] #[], .func (.func 61) #[.agg (cfgC c)] #[], .func (.func 52) #[] #[.pointer (some ⟨w.heap.size, 0, none⟩)], .func (.func 54) #[] #[.pointer (some ⟨w.heap.size, 0, none⟩)]] 32)
  have hF := Blk.new w1 32 #[.func (.func 56) #[.agg (cfgC c)] #[], .func (.func 57) #[.agg (cfgC c)] #[], .func (.func 58) #[.agg (cfgC c)] #[], .func (.func 59) #[.agg (cfgC c)] #[], .func (.func 60) #[.agg (cfgC c)] #[], .func (.func 61) #[.agg (cfgC c)] #[], .func (.func 52) #[] #[.pointer (some ⟨w.heap.size, 0, none⟩)], .func (.func 54) #[] #[.pointer (some ⟨w.heap.size, 0, none⟩)]]
  have hf := first_any _ c w.heap.size w1.heap.size (hC.nx hbx) hs (hq.below hbx ql) hF
  refine hf.mono ?_
  rintro e w2 ⟨rfl, hb⟩
  have hB2 := hB.trans ((hbx.trans (hb.mono hbx.size)).mono hB.size)
  clear hf hF hbx hb ql
  obtain ⟨pt, hpt⟩ : ∃ pt, partC c = pt := ⟨_, rfl⟩
  rw [hpt]
  have e9 : errC c = if pt = 0 then 0 else 12 := by unfold errC; rw [hpt]
  replace hpt := Lib.hid hpt
  by_cases h0 : pt = 0
  · rw [if_pos h0] at e9
    replace e9 := Lib.hid e9
    subst h0
    go_wp2_with fail
    go_ret2
    exact ⟨by rw [e9.out, hpt.out]; rfl, hB2⟩
  · have d0 : decide ((0 : Int) < (pt : Nat)) = true := by simp; omega
    have d1 : decide (0 < pt) = true := by simp; omega
    rw [if_neg h0] at e9
    replace e9 := Lib.hid e9
    replace h0 := Lib.hid h0
    go_wp2_with fail
    go_ret2
    exact ⟨by rw [e9.out, hpt.out]; rfl, hB2⟩
end Go.Proofs.YtecmhakapomepaaGreat

/- config: the document's Check. -/
namespace Go.Proofs.YtecmhakapomepaaGreat
set_option linter.unusedVariables false
open Go Go.RowKit Go.Maps

set_option maxRecDepth 100000 in
set_option maxHeartbeats 8000000 in
theorem refCheck_any (w : World) (c : CfgV) (h : CfgIn w c) (hs : CfgSm c) : Calls Tryz.prog 39 #[.agg (cfgC c)] w fun e w' => e = .returned (.tuple #[.int .i64 (partC c : Nat), .int .i64 (errC c)]) ∧ Below w.heap.size w w' := by
  have hB := (Below.refl w.heap.size w).alloc (Nat.le_refl _) (.cells (cfgC c) 41)
  have hq := Blk.new w 41 (cfgC c)
  have hC := h.nx hB
  have hiC : (Tryz.prog.info? 41).map (·.size) = some (cfgC c).size := by kernel_rfl
  have hend : ∀ k : Nat, k ≠ 0 → partC c = k → errC c = 12 := fun k hk e => by unfold errC; rw [e, if_neg hk]
  go_enter Tryz.func39, Tryz.ntmps39
  go_upto_region 2 with (fail)
  generalize w.alloc (.cells (cfgC c) 41) = w1 at *
  have q0 : w1.cell? ⟨w.heap.size, 0, none⟩ = some (.int .i64 c.as_) := hq.cellv 0 rfl
  have q1 : w1.cell? ⟨w.heap.size, 1, none⟩ = some (.int .u32 c.id) := hq.cellv 1 rfl
  have q2 : w1.cell? ⟨w.heap.size, 2, none⟩ = some (.int .u32 c.own) := hq.cellv 2 rfl
  have ql := hq.lt
  cases e0 : selfB c
  · have hsf := e0
    unfold selfB rngB at hsf
    have ev := Lib.hid (show partC c = 1 by unfold partC; simp only [e0, if_true])
    have e12 := Lib.hid (hend 1 (by omega) ev.out)
    clear hend
    go_upto_region 4 with (fail)
    all_goals first
      | (exfalso; have r5 := beq_eq_false_iff_ne.1 (by assumption : (c.own == 0) = false); revert hsf; rw [imp_false, Bool.not_eq_false]; simp; omega)
      | (go_ret2; rw [ev.out, e12.out]; exact ⟨rfl, hB⟩)
      | (go_wp2_with fail; go_ret2; rw [ev.out, e12.out]; exact ⟨rfl, hB⟩)
  have hsf := e0
  unfold selfB rngB at hsf
  simp only [Bool.and_eq_true, decide_eq_true_eq, bne_iff_ne, ne_eq] at hsf
  obtain ⟨⟨⟨a1, a2⟩, a3⟩, a4⟩ := hsf
  have d1 : decide (c.as_ < 1) = false := by simp; omega
  have d2 : decide (65535 < c.as_) = false := by simp; omega
  have d3 : (c.id == 0) = false := by simpa using a3
  have d4 : (c.own == 0) = false := by simpa using a4
  clear a1 a2 a3 a4
  replace e0 := Lib.hid e0
  go_upto_region 4 with (fail)
  clear q0 q1 q2 ql
  clear d1 d2 d3 d4
  go_wp2_with (refine wpList_load_blk rfl hq 41 (.tmp 1) rfl rfl Tryz.underlying41 rfl hiC ?_)
  refine (refPeers_any w1 c hC).mono ?_
  rintro e u0 ⟨rfl, hb⟩
  replace hC := hC.nx hb
  replace hq := hq.below hb hq.lt
  replace hB := hB.trans (hb.mono hB.size)
  clear hb
  cases e1 : peersB c
  · skip
    have ev := Lib.hid (show partC c = 2 by unfold partC; simp only [e0.out, e1, if_true, Bool.true_eq_false, if_false])
    have e12 := Lib.hid (hend 2 (by omega) ev.out)
    clear hend
    go_wp2_with fail
    all_goals go_ret2
    all_goals (rw [ev.out, e12.out]; exact ⟨rfl, hB⟩)
  replace e1 := Lib.hid e1
  go_upto_region 6 with (fail)
  go_wp2_with (refine wpList_load_blk rfl hq 41 (.tmp 1) rfl rfl Tryz.underlying41 rfl hiC ?_)
  refine (refVips_any u0 c hC).mono ?_
  rintro e u1 ⟨rfl, hb⟩
  replace hC := hC.nx hb
  replace hq := hq.below hb hq.lt
  replace hB := hB.trans (hb.mono hB.size)
  clear hb
  cases e2 : vipsB c
  · skip
    have ev := Lib.hid (show partC c = 3 by unfold partC; simp only [e0.out, e1.out, e2, if_true, Bool.true_eq_false, if_false])
    have e12 := Lib.hid (hend 3 (by omega) ev.out)
    clear hend
    go_wp2_with fail
    all_goals go_ret2
    all_goals (rw [ev.out, e12.out]; exact ⟨rfl, hB⟩)
  replace e2 := Lib.hid e2
  go_upto_region 8 with (fail)
  go_wp2_with (refine wpList_load_blk rfl hq 41 (.tmp 1) rfl rfl Tryz.underlying41 rfl hiC ?_)
  refine (refPools_any u1 c hC hs).mono ?_
  rintro e u2 ⟨rfl, hb⟩
  replace hC := hC.nx hb
  replace hq := hq.below hb hq.lt
  replace hB := hB.trans (hb.mono hB.size)
  clear hb
  cases e3 : poolsB c
  · skip
    have ev := Lib.hid (show partC c = 4 by unfold partC; simp only [e0.out, e1.out, e2.out, e3, if_true, Bool.true_eq_false, if_false])
    have e12 := Lib.hid (hend 4 (by omega) ev.out)
    clear hend
    go_wp2_with fail
    all_goals go_ret2
    all_goals (rw [ev.out, e12.out]; exact ⟨rfl, hB⟩)
  replace e3 := Lib.hid e3
  go_upto_region 10 with (fail)
  go_wp2_with (refine wpList_load_blk rfl hq 41 (.tmp 1) rfl rfl Tryz.underlying41 rfl hiC ?_)
  refine (refSites_any u2 c hC hs).mono ?_
  rintro e u3 ⟨rfl, hb⟩
  replace hC := hC.nx hb
  replace hq := hq.below hb hq.lt
  replace hB := hB.trans (hb.mono hB.size)
  clear hb
  cases e4 : sitesB c
  · skip
    have ev := Lib.hid (show partC c = 5 by unfold partC; simp only [e0.out, e1.out, e2.out, e3.out, e4, if_true, Bool.true_eq_false, if_false])
    have e12 := Lib.hid (hend 5 (by omega) ev.out)
    clear hend
    go_wp2_with fail
    all_goals go_ret2
    all_goals (rw [ev.out, e12.out]; exact ⟨rfl, hB⟩)
  replace e4 := Lib.hid e4
  go_upto_region 12 with (fail)
  have q6 : u3.cell? ⟨w.heap.size, 6, none⟩ = some (.int .i64 c.rise) := hq.cellv 6 rfl
  have q7 : u3.cell? ⟨w.heap.size, 7, none⟩ = some (.int .i64 c.fall) := hq.cellv 7 rfl
  have q8 : u3.cell? ⟨w.heap.size, 8, none⟩ = some (.int .i64 c.every) := hq.cellv 8 rfl
  have q9 : u3.cell? ⟨w.heap.size, 9, none⟩ = some (.int .i64 c.pat) := hq.cellv 9 rfl
  have q10 : u3.cell? ⟨w.heap.size, 10, none⟩ = some (.int .i64 c.room) := hq.cellv 10 rfl
  have q11 : u3.cell? ⟨w.heap.size, 11, none⟩ = some (.int .i64 c.idle) := hq.cellv 11 rfl
  have ql := hq.lt
  go_wp2_with fail
  refine (refRiseN_any c.rise c.fall u3).mono ?_
  rintro e x2 ⟨p, rfl, hp, hb⟩
  clear q6 q7 q8 q9 q10 q11 ql
  replace hq := hq.below hb hq.lt
  replace hB := hB.trans (hb.mono hB.size)
  clear hb
  have q6 : x2.cell? ⟨w.heap.size, 6, none⟩ = some (.int .i64 c.rise) := hq.cellv 6 rfl
  have q7 : x2.cell? ⟨w.heap.size, 7, none⟩ = some (.int .i64 c.fall) := hq.cellv 7 rfl
  have q8 : x2.cell? ⟨w.heap.size, 8, none⟩ = some (.int .i64 c.every) := hq.cellv 8 rfl
  have q9 : x2.cell? ⟨w.heap.size, 9, none⟩ = some (.int .i64 c.pat) := hq.cellv 9 rfl
  have q10 : x2.cell? ⟨w.heap.size, 10, none⟩ = some (.int .i64 c.room) := hq.cellv 10 rfl
  have q11 : x2.cell? ⟨w.heap.size, 11, none⟩ = some (.int .i64 c.idle) := hq.cellv 11 rfl
  have ql := hq.lt
  cases p with
  | none =>
    have e5 : tabB c = false := by unfold tabB; rw [← hp]; rfl
    have ev := Lib.hid (show partC c = 6 by unfold partC; simp only [e0.out, e1.out, e2.out, e3.out, e4.out, e5, if_true, Bool.true_eq_false, if_false])
    have e12 := Lib.hid (hend 6 (by omega) ev.out)
    clear hend
    go_wp2_with fail
    all_goals go_ret2
    all_goals (rw [ev.out, e12.out]; exact ⟨rfl, hB⟩)
  | some b1 =>
  replace hp := Lib.hid hp
  go_wp2_with fail
  refine (refProbeN_any c.every c.pat x2).mono ?_
  rintro e x3 ⟨p, rfl, hp2, hb⟩
  clear q6 q7 q8 q9 q10 q11 ql
  replace hq := hq.below hb hq.lt
  replace hB := hB.trans (hb.mono hB.size)
  clear hb
  have q6 : x3.cell? ⟨w.heap.size, 6, none⟩ = some (.int .i64 c.rise) := hq.cellv 6 rfl
  have q7 : x3.cell? ⟨w.heap.size, 7, none⟩ = some (.int .i64 c.fall) := hq.cellv 7 rfl
  have q8 : x3.cell? ⟨w.heap.size, 8, none⟩ = some (.int .i64 c.every) := hq.cellv 8 rfl
  have q9 : x3.cell? ⟨w.heap.size, 9, none⟩ = some (.int .i64 c.pat) := hq.cellv 9 rfl
  have q10 : x3.cell? ⟨w.heap.size, 10, none⟩ = some (.int .i64 c.room) := hq.cellv 10 rfl
  have q11 : x3.cell? ⟨w.heap.size, 11, none⟩ = some (.int .i64 c.idle) := hq.cellv 11 rfl
  have ql := hq.lt
  cases p with
  | none =>
    have e5 : tabB c = false := by unfold tabB; rw [← hp.out, ← hp2]; rfl
    have ev := Lib.hid (show partC c = 6 by unfold partC; simp only [e0.out, e1.out, e2.out, e3.out, e4.out, e5, if_true, Bool.true_eq_false, if_false])
    have e12 := Lib.hid (hend 6 (by omega) ev.out)
    clear hend
    go_wp2_with fail
    all_goals go_ret2
    all_goals (rw [ev.out, e12.out]; exact ⟨rfl, hB⟩)
  | some b2 =>
  replace hp2 := Lib.hid hp2
  go_wp2_with fail
  refine (refFlowsN_any c.room c.idle x3).mono ?_
  rintro e x4 ⟨p, rfl, hp3, hb⟩
  clear q6 q7 q8 q9 q10 q11 ql
  replace hq := hq.below hb hq.lt
  replace hB := hB.trans (hb.mono hB.size)
  clear hb
  have q6 : x4.cell? ⟨w.heap.size, 6, none⟩ = some (.int .i64 c.rise) := hq.cellv 6 rfl
  have q7 : x4.cell? ⟨w.heap.size, 7, none⟩ = some (.int .i64 c.fall) := hq.cellv 7 rfl
  have q8 : x4.cell? ⟨w.heap.size, 8, none⟩ = some (.int .i64 c.every) := hq.cellv 8 rfl
  have q9 : x4.cell? ⟨w.heap.size, 9, none⟩ = some (.int .i64 c.pat) := hq.cellv 9 rfl
  have q10 : x4.cell? ⟨w.heap.size, 10, none⟩ = some (.int .i64 c.room) := hq.cellv 10 rfl
  have q11 : x4.cell? ⟨w.heap.size, 11, none⟩ = some (.int .i64 c.idle) := hq.cellv 11 rfl
  have ql := hq.lt
  cases p with
  | none =>
    have e5 : tabB c = false := by unfold tabB; rw [← hp.out, ← hp2.out, ← hp3]; rfl
    have ev := Lib.hid (show partC c = 6 by unfold partC; simp only [e0.out, e1.out, e2.out, e3.out, e4.out, e5, if_true, Bool.true_eq_false, if_false])
    have e12 := Lib.hid (hend 6 (by omega) ev.out)
    clear hend
    go_wp2_with fail
    all_goals go_ret2
    all_goals (rw [ev.out, e12.out]; exact ⟨rfl, hB⟩)
  | some b3 =>
  have e5 := Lib.hid (show tabB c = true by unfold tabB; rw [← hp.out, ← hp2.out, ← hp3]; rfl)
  clear hp hp2 hp3 q6 q7 q8 q9 q10 q11 ql
  go_upto_region 14 with (fail)
  have q13 : x4.cell? ⟨w.heap.size, 13, none⟩ = some (.int .i64 c.dF) := hq.cellv 13 rfl
  have q14 : x4.cell? ⟨w.heap.size, 14, none⟩ = some (.int .i64 c.dS) := hq.cellv 14 rfl
  have q15 : x4.cell? ⟨w.heap.size, 15, none⟩ = some (.int .i64 c.dR) := hq.cellv 15 rfl
  have q16 : x4.cell? ⟨w.heap.size, 16, none⟩ = some (.int .i64 c.dC) := hq.cellv 16 rfl
  have q17 : x4.cell? ⟨w.heap.size, 17, none⟩ = some (.int .i64 c.dH) := hq.cellv 17 rfl
  have ql := hq.lt
  go_wp2_with fail
  refine (dm.refGood_any c.dF c.dS c.dR c.dC c.dH x4).mono ?_
  rintro e x5 ⟨rfl, hb⟩
  clear q13 q14 q15 q16 q17 ql
  replace hq := hq.below hb hq.lt
  replace hB := hB.trans (hb.mono hB.size)
  clear hb
  have eD : dm.goodR c.dF c.dS c.dR c.dC c.dH = dampB c := rfl
  rw [eD]
  clear eD
  cases e6 : dampB c
  · skip
    have ev := Lib.hid (show partC c = 7 by unfold partC; simp only [e0.out, e1.out, e2.out, e3.out, e4.out, e5.out, e6, if_true, Bool.true_eq_false, if_false])
    have e12 := Lib.hid (hend 7 (by omega) ev.out)
    clear hend
    go_wp2_with fail
    all_goals go_ret2
    all_goals (rw [ev.out, e12.out]; exact ⟨rfl, hB⟩)
  replace e6 := Lib.hid e6
  go_upto_region 16 with (fail)
  have q12 : x5.cell? ⟨w.heap.size, 12, none⟩ = some (.int .i64 c.queue) := hq.cellv 12 rfl
  have q18 : x5.cell? ⟨w.heap.size, 18, none⟩ = some (.int .i64 c.ttl) := hq.cellv 18 rfl
  have ql := hq.lt
  cases e7 : ttlB c
  · have hsf := e7
    unfold ttlB rngB at hsf
    have ev := Lib.hid (show partC c = 8 by unfold partC; simp only [e0.out, e1.out, e2.out, e3.out, e4.out, e5.out, e6.out, e7, if_true, Bool.true_eq_false, if_false])
    have e12 := Lib.hid (hend 8 (by omega) ev.out)
    clear hend
    go_wp2_with fail
    all_goals first
      | (exfalso; simp at hsf; omega)
      | (go_ret2; rw [ev.out, e12.out]; exact ⟨rfl, hB⟩)
  have hsf := e7
  unfold ttlB rngB at hsf
  simp only [Bool.and_eq_true, decide_eq_true_eq] at hsf
  obtain ⟨⟨a1, a2⟩, a3, a4⟩ := hsf
  have d1 : decide (c.ttl < 1) = false := by simp; omega
  have d2 : decide (100000 < c.ttl) = false := by simp; omega
  have d3 : decide (c.queue < 8400) = false := by simp; omega
  have d4 : decide (65536 < c.queue) = false := by simp; omega
  clear a1 a2 a3 a4
  have ev := Lib.hid (show partC c = 0 by unfold partC; simp only [e0.out, e1.out, e2.out, e3.out, e4.out, e5.out, e6.out, e7, Bool.true_eq_false, if_false])
  have e0' := Lib.hid (show errC c = 0 by unfold errC; rw [ev.out]; rfl)
  clear hend
  go_wp2_with fail
  go_ret2
  rw [ev.out, e0'.out]
  exact ⟨rfl, hB⟩
end Go.Proofs.YtecmhakapomepaaGreat

/- config: small, lives, how long an announcement waits. -/
namespace Go.Proofs.YtecmhakapomepaaGreat
set_option linter.unusedVariables false
open Go Go.RowKit Go.Maps

def smallB (c : CfgV) : Bool := decide (c.pn ≤ 20) && (decide (c.vn ≤ 40) && (decide (c.sn ≤ 40) && c.V.all fun v => decide (v.n ≤ 40)))
theorem small_sm {c : CfgV} (h : smallB c = true) : CfgSm c := by
  unfold smallB at h
  simp only [Bool.and_eq_true, decide_eq_true_eq, List.all_eq_true] at h
  exact ⟨Nat.le_trans h.1 (by omega), Nat.le_trans h.2.1 (by omega), Nat.le_trans h.2.2.1 (by omega), fun x hx => Nat.le_trans (h.2.2.2 x hx) (by omega)⟩
/-- the greatest gap of the first k peers. -/
def gapL : List PeerV → Nat → Int
  | _, 0 => 0
  | P, k + 1 => max (gapL P k) ((P[k]?.map PeerV.gap).getD 0)
def slowC (c : CfgV) : Int := (dm.ticks c.dR c.dH c.dC : Nat) + gapL c.P c.pn + 2
set_option maxRecDepth 100000 in
set_option maxHeartbeats 8000000 in
theorem small_any (w : World) (c : CfgV) (h : CfgIn w c) : Calls Tryz.prog 4 #[.agg (cfgC c)] w fun e w' => e = .returned (.bool (smallB c)) ∧ Below w.heap.size w w' := by
  have hB := (Below.refl w.heap.size w).alloc (Nat.le_refl _) (.cells (cfgC c) 29)
  have hq := Blk.new w 29 (cfgC c)
  have hVl := Lib.hid h.vips.1
  obtain ⟨A, hA⟩ : ∃ A, A = c.vA := ⟨_, rfl⟩
  have hSv := h.vips
  rw [← hA] at hSv
  go_enter Tryz.func4, Tryz.ntmps4
  go_upto_region 1 with (fail)
  generalize w.alloc (.cells (cfgC c) 29) = w1 at *
  have q3 : w1.cell? ⟨w.heap.size, 3, none⟩ = some (.slice c.pA c.pn c.pc) := hq.cellv 3 rfl
  have q4 : w1.cell? ⟨w.heap.size, 4, none⟩ = some (.slice A c.vn c.vc) := by rw [hA]; exact hq.cellv 4 rfl
  have q5 : w1.cell? ⟨w.heap.size, 5, none⟩ = some (.slice c.sA c.sn c.sc) := hq.cellv 5 rfl
  have ql := hq.lt
  replace hA := Lib.hid hA
  by_cases h0 : c.pn ≤ 20 ∧ c.vn ≤ 40 ∧ c.sn ≤ 40
  rotate_left
  · have ev := Lib.hid (show smallB c = false by unfold smallB; rw [Bool.eq_false_iff]; simp only [ne_eq, Bool.and_eq_true, decide_eq_true_eq]; exact fun q => h0 ⟨q.1, q.2.1, q.2.2.1⟩)
    by_cases k1 : c.pn ≤ 20
    · have d1 : decide ((20 : Int) < c.pn) = false := by simp; omega
      by_cases k2 : c.vn ≤ 40
      · have d2 : decide ((40 : Int) < c.vn) = false := by simp; omega
        have d3 : decide ((40 : Int) < c.sn) = true := by simp; omega
        clear h0
        go_wp2_with fail
        go_ret
        exact ⟨ret_bool ev.out.symm, hB⟩
      · have d2 : decide ((40 : Int) < c.vn) = true := by simp; omega
        clear h0
        go_wp2_with fail
        go_ret
        exact ⟨ret_bool ev.out.symm, hB⟩
    · have d1 : decide ((20 : Int) < c.pn) = true := by simp; omega
      clear h0
      go_wp2_with fail
      go_ret
      exact ⟨ret_bool ev.out.symm, hB⟩
  obtain ⟨k1, k2, k3⟩ := h0
  have d1 : decide ((20 : Int) < c.pn) = false := by simp; omega
  have d2 : decide ((40 : Int) < c.vn) = false := by simp; omega
  have d3 : decide ((40 : Int) < c.sn) = false := by simp; omega
  go_upto_region 4 with (fail)
  clear q3 q4 q5 ql d1 d2 d3
  go_loopw [24] (fun i wr => ∃ k : Nat, k ≤ c.vn ∧ i = .int .i64 (k : Int) ∧ (∀ j a, j < k → c.V[j]? = some a → a.n ≤ 40) ∧ Below w.heap.size w wr) (fun i _ => c.vn - (intOf i).toNat)
  case atStart => exact ⟨0, Nat.zero_le _, rfl, fun j a hj => absurd hj (by omega), hB⟩
  case round =>
  clear hq hB
  obtain ⟨k, hk, rfl, hall, hB⟩ := hrel
  replace hall := Lib.hid hall
  by_cases hlt : k < c.vn
  · have hki : (k : Int) < c.vn := by omega
    have hk0 : (0 : Int) ≤ k := by omega
    have hk40 : (k : Int) ≤ 40 := by omega
    obtain ⟨b, off, v, e1, hb, hv, hok, r0, r1, r2⟩ := vip_cells (seen_nx hSv hB) hlt
    subst e1
    have hv9 := Lib.hid hv
    have hbx := (Below.refl wr.heap.size wr).alloc (Nat.le_refl _) (.cells #[.int .u32 v.ad, .int .i64 v.pct, .slice v.A v.n v.c] 53)
    have h5 := Blk.new wr 53 #[.int .u32 v.ad, .int .i64 v.pct, .slice v.A v.n v.c]
    replace hB := hB.trans (hbx.mono hB.size)
    clear hv
    go_upto_region 6 with (fail)
    generalize wr.alloc (.cells #[.int .u32 v.ad, .int .i64 v.pct, .slice v.A v.n v.c] 53) = w3 at *
    generalize wr.heap.size = g5 at *
    have s2 : w3.cell? ⟨g5, 2, none⟩ = some (.slice v.A v.n v.c) := h5.cellv 2 rfl
    have sl := h5.lt
    clear r0 r1 r2 hbx hb
    by_cases hn : v.n ≤ 40
    · have d1 : decide ((40 : Int) < v.n) = false := by simp; omega
      have hall2 := Lib.hid (show ∀ j a, j < k + 1 → c.V[j]? = some a → a.n ≤ 40 from fun j a hj ha => by
        by_cases hjk : j < k
        · exact hall.out j a hjk ha
        · obtain rfl : j = k := by omega
          rw [hv9.out] at ha; injection ha with ha; subst ha
          exact hn)
      go_wp2_with fail
      exact ⟨⟨k + 1, by omega, by go_num, hall2.out, hB⟩, by simp [intOf]; omega⟩
    · have d1 : decide ((40 : Int) < v.n) = true := by simp; omega
      have ev := Lib.hid (show smallB c = false by unfold smallB; rw [all_no hv9.out (by simp; omega)]; simp)
      go_wp2_with fail
      go_ret
      exact ⟨ret_bool ev.out.symm, hB⟩
  · obtain rfl : k = c.vn := by omega
    have ev := Lib.hid (show smallB c = true by
      unfold smallB
      rw [all_yes fun j a ha => by simpa using hall.out j a (by have := (List.getElem?_eq_some_iff.1 ha).1; have := hVl.out; omega) ha]
      simp [k1, k2, k3])
    go_wp2_with fail
    go_ret
    exact ⟨ret_bool ev.out.symm, hB⟩
theorem quiet_any (w : World) : Calls Tryz.prog 15 #[] w fun e w' => e = .returned (.int .i64 4400) ∧ w = w' := by
  go_enter Tryz.func15, Tryz.ntmps15
  go_wp2_with fail
  go_ret
  exact ⟨rfl, rfl⟩
theorem cfg0_in (w : World) : CfgIn w (⟨1, 1, 1, none, 0, 0, [], none, 0, 0, [], none, 0, 0, [], 0, 0, 0, 0, 0, 0, 0, 0, 0, 0, 0, 0, 0⟩ : CfgV) :=
  ⟨⟨by decide, by decide⟩, ⟨by decide, by decide⟩, by unfold IsI; decide, by unfold IsI; decide, by decide, Seen.none_, Seen.none_, Seen.none_⟩
set_option maxRecDepth 100000 in
set_option maxHeartbeats 8000000 in
theorem lives32_any (w : World) : Calls Tryz.prog 5 #[] w fun e w' => e = .returned (.bool true) ∧ Below w.heap.size w w' := by
  have hc := checkC_any w (⟨1, 1, 1, none, 0, 0, [], none, 0, 0, [], none, 0, 0, [], 0, 0, 0, 0, 0, 0, 0, 0, 0, 0, 0, 0, 0⟩ : CfgV) (cfg0_in w) ⟨by decide, by decide, by decide, fun x hx => by cases hx⟩
  have e1 : partC (⟨1, 1, 1, none, 0, 0, [], none, 0, 0, [], none, 0, 0, [], 0, 0, 0, 0, 0, 0, 0, 0, 0, 0, 0, 0, 0⟩ : CfgV) = 3 := by decide
  have e2 : errC (⟨1, 1, 1, none, 0, 0, [], none, 0, 0, [], none, 0, 0, [], 0, 0, 0, 0, 0, 0, 0, 0, 0, 0, 0, 0, 0⟩ : CfgV) = 12 := by unfold errC; rw [e1]; rfl
  rw [e1, e2] at hc
  clear e1 e2
  go_enter Tryz.func5, Tryz.ntmps5
  go_wp2_with fail
  refine hc.mono ?_
  rintro e w2 ⟨rfl, hb⟩
  clear hc
  go_wp2_with fail
  refine (quiet_any w2).mono ?_
  rintro e w3 ⟨rfl, rfl⟩
  go_wp2_with fail
  go_ret
  exact ⟨rfl, hb⟩
end Go.Proofs.YtecmhakapomepaaGreat

/- config: how long an announcement waits. -/
namespace Go.Proofs.YtecmhakapomepaaGreat
set_option linter.unusedVariables false
open Go Go.RowKit Go.Maps

end Go.Proofs.YtecmhakapomepaaGreat
