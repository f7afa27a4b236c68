/- config: the document's part 5. -/
import Derived.Test.YtgdeecmhhbdjgaaCgN
namespace Go.Proofs.Ytgdeecmhhbdjgaa
set_option linter.unusedVariables false
open Go Go.RowKit Go.Maps

theorem sfind_mem : ∀ {L : List SiteV} {id : Int} {k : Nat}, sb.findF L id = some k → ∃ m ∈ L, m.id = id
  | [], id, k, h => by simp [sb.findF] at h
  | a :: L, id, k, h => by
    unfold sb.findF at h
    split at h
    · rename_i e; exact ⟨a, List.mem_cons_self, e⟩
    · cases hf : sb.findF L id with
      | none => rw [hf] at h; simp at h
      | some j =>
        obtain ⟨m, hm, e⟩ := sfind_mem hf
        exact ⟨m, List.mem_cons_of_mem _ hm, e⟩
theorem sins_perm (L : List SiteV) (m : SiteV) : (sb.insM L m).Perm (m :: L) := by
  unfold sb.insM
  refine List.perm_middle.trans ?_
  rw [List.takeWhile_append_dropWhile]
theorem srel_add {M L : List SiteV} (h : L.Perm M) (s : SiteV) : ((sb.addR L s.id s.ad s.cost).1 = 0 ↔ sAddV M s = 0) ∧ (sAddV M s = 0 → (sb.addR L s.id s.ad s.cost).2.Perm (M ++ [s])) := by
  have hok : sb.addOk s.id s.ad s.cost = siteOk s := rfl
  have hl := h.length_eq
  unfold sb.addR sAddV
  rw [hok]
  cases h1 : siteOk s
  · simp
  · simp only [Bool.true_eq_false, if_false]
    cases hf : sb.findF L s.id with
    | some k =>
      obtain ⟨m, hm, e⟩ := sfind_mem hf
      have hc : ((M.map SiteV.id).contains s.id) = true := by
        rw [List.contains_iff_mem]
        exact List.mem_map.2 ⟨m, h.mem_iff.1 hm, e⟩
      simp only [hc, if_true]
      simp
    | none =>
      have hc : ((M.map SiteV.id).contains s.id) = false := by
        rw [← Bool.not_eq_true, List.contains_iff_mem]
        intro hm
        obtain ⟨m, hm, e⟩ := List.mem_map.1 hm
        have hm2 := h.mem_iff.2 hm
        obtain ⟨j, hj, rfl⟩ := List.getElem_of_mem hm2
        -- the first such place
        have : ∀ {L : List SiteV}, sb.findF L s.id = none → ∀ m ∈ L, m.id ≠ s.id := by
          intro L
          induction L with
          | nil => intro _ m hm; cases hm
          | cons a L ih =>
            intro hn m hm e
            unfold sb.findF at hn
            split at hn
            · cases hn
            · rename_i hne
              rcases List.mem_cons.1 hm with rfl | hm
              · exact hne e
              · cases hf2 : sb.findF L s.id with
                | none => exact ih hf2 m hm e
                | some j => rw [hf2] at hn; simp at hn
        exact this hf _ hm2 e
      simp only [hc, Bool.false_eq_true, if_false]
      by_cases h8 : 8 ≤ M.length
      · rw [if_pos h8, if_pos (by omega)]
        simp
      · rw [if_neg h8, if_neg (by omega)]
        refine ⟨by simp, fun _ => ?_⟩
        refine (sins_perm L s).trans ?_
        refine (List.Perm.cons s h).trans ?_
        exact (List.perm_append_singleton s M).symm
theorem sRefAdd (w : World) (X : Nat → Prop) (g : Nat) (L : List SiteV) (s : SiteV) (h : sb.RefIn w X g L) (hn : L.length ≤ 8) (hX : ∀ b, w.heap.size ≤ b → X b) :
    Calls Try.prog 58 #[.pointer (some ⟨g, 0, none⟩), .agg #[.int .i64 s.id, .int .u32 s.ad, .int .i64 s.cost]] w fun e w' => e = .returned (.int .i64 (sb.addR L s.id s.ad s.cost).1) ∧ sb.RefIn w' X g (sb.addR L s.id s.ad s.cost).2 ∧ w.grownBy w' (some g) := by
  by_cases hok : sb.addOk s.id s.ad s.cost = false
  · exact sb.refAddBad w X g L s.id s.ad s.cost h hok
  · exact sb.refAddOk w X g L s.id s.ad s.cost h (by simpa using hok) hn hX
set_option maxRecDepth 100000 in
set_option maxHeartbeats 4000000 in
theorem refSites_any (w : World) (c : CfgV) (h : CfgIn w c) (hs : CfgSm c) : Calls Try.prog 31 #[.agg (cfgC c)] w fun e w' => e = .returned (.bool (sitesB c)) ∧ Below w.heap.size w w' := by
  have hB := (Below.refl w.heap.size w).alloc (Nat.le_refl _) (.cells (cfgC c) 37)
  have hq := Blk.new w 37 (cfgC c)
  have hSl := Lib.hid h.sites.1
  have hsn := h.lens.2.2.1
  obtain ⟨A, hA⟩ : ∃ A, A = c.sA := ⟨_, rfl⟩
  have hSv := h.sites
  rw [← hA] at hSv
  go_enter Try.func31, Try.ntmps31
  go_upto_region 1 with (fail)
  generalize w.alloc (.cells (cfgC c) 37) = w1 at *
  have hbx := (Below.refl w1.heap.size w1).alloc (Nat.le_refl _) (.cells #[.slice none 0 0] 119)
  have h5 := Blk.new w1 119 #[.slice none 0 0]
  have hz1 := hB.size
  have hl1 := hq.lt
  replace hq := hq.below hbx hq.lt
  replace hB := hB.trans (hbx.mono hB.size)
  go_upto_region 2 with (fail)
  generalize w1.alloc (.cells #[.slice none 0 0] 119) = w2 at *
  have hgz : w1.heap.size < w2.heap.size := h5.lt
  generalize hgp : w1.heap.size = gp at *
  clear hgp hbx
  have hR : sb.RefIn w2 (fun b => gp ≤ b) gp [] := ⟨none, 0, 0, Nat.le_refl _, Nat.zero_le _, h5, Seen.none_⟩
  have q5 : w2.cell? ⟨w.heap.size, 5, none⟩ = some (.slice A c.sn c.sc) := by rw [hA]; exact hq.cellv 5 rfl
  have ql := hq.lt
  replace hA := Lib.hid hA
  go_upto_region 3 with (fail)
  clear q5 ql h5
  go_loopw [11] (fun i wr => ∃ (k : Nat) (L : List SiteV), k ≤ c.sn ∧ i = .int .i64 (k : Int) ∧ (∀ j a, j < k → c.S[j]? = some a → siteB c.own (c.S.take j) a = true) ∧ L.Perm (c.S.take k) ∧ L.length ≤ 8 ∧ sb.RefIn wr (fun b => gp ≤ b) gp L ∧ Blk wr w.heap.size 37 (cfgC c) ∧ gp ≤ wr.heap.size ∧ Below w.heap.size w wr) (fun i _ => c.sn - (intOf i).toNat)
  case atStart => exact ⟨0, [], Nat.zero_le _, rfl, fun j a hj => absurd hj (by omega), List.Perm.refl _, by simp, hR, hq, by omega, hB⟩
  case round =>
  clear hR hq hB
  obtain ⟨k, L, hk, rfl, hall, hRel, hL8, hR, hq, hzg, hB⟩ := hrel
  replace hall := Lib.hid hall
  by_cases hlt : k < c.sn
  · have hki : (k : Int) < c.sn := by omega
    have hk0 : (0 : Int) ≤ k := by omega
    have hk40 : (k : Int) ≤ 40 := by have := hs.s; omega
    obtain ⟨b, off, s, e1, hb, hsv, hok, r0, r1, r2⟩ := site_cells (seen_nx hSv hB) hlt
    subst e1
    have hno : siteB c.own (c.S.take k) s = false → sitesB c = false := fun hf => by
      unfold sitesB
      refine range_no (k := k) (List.getElem?_eq_some_iff.1 hsv).1 ?_
      simp only [hsv]
      exact hf
    have hyes : siteB c.own (c.S.take k) s = true → ∀ j a, j < k + 1 → c.S[j]? = some a → siteB c.own (c.S.take j) a = true := fun ht j a hj ha => by
      by_cases hjk : j < k
      · exact hall.out j a hjk ha
      · obtain rfl : j = k := by omega
        rw [hsv] at ha; injection ha with ha; subst ha
        exact ht
    have htk : c.S.take (k + 1) = c.S.take k ++ [s] := by rw [List.take_add_one, hsv]; rfl
    have hbx := (Below.refl wr.heap.size wr).alloc (Nat.le_refl _) (.cells #[.int .i64 s.id, .int .u32 s.ad, .int .i64 s.cost] 75)
    have h6 := Blk.new wr 75 #[.int .i64 s.id, .int .u32 s.ad, .int .i64 s.cost]
    replace hq := hq.below hbx hq.lt
    replace hR := hR.nx hbx
    replace hB := hB.trans (hbx.mono hB.size)
    have hz3 := hbx.size
    go_upto_region 5 with (fail)
    generalize wr.alloc (.cells #[.int .i64 s.id, .int .u32 s.ad, .int .i64 s.cost] 75) = w3 at *
    generalize wr.heap.size = g5 at *
    have s0 : w3.cell? ⟨g5, 0, none⟩ = some (.int .i64 s.id) := h6.cellv 0 rfl
    have s1 : w3.cell? ⟨g5, 1, none⟩ = some (.int .u32 s.ad) := h6.cellv 1 rfl
    have s2 : w3.cell? ⟨g5, 2, none⟩ = some (.int .i64 s.cost) := h6.cellv 2 rfl
    have sl := h6.lt
    have q2 : w3.cell? ⟨w.heap.size, 2, none⟩ = some (.int .u32 c.own) := hq.cellv 2 rfl
    have ql := hq.lt
    clear r0 r1 r2 hbx hb
    rw [siteB_eq] at hno hyes
    obtain ⟨k1, k2⟩ := srel_add hRel s
    have hA := sRefAdd w3 (fun b => gp ≤ b) gp L s hR hL8 (fun b hb => by omega)
    have hl2 : (sb.addR L s.id s.ad s.cost).1 = 0 → (sb.addR L s.id s.ad s.cost).2.length ≤ 8   := fun hz => by
      have e0 := k1.1 hz
      rw [(k2 e0).length_eq]
      have := (sAddV_iff.1 e0)
      simp only [Bool.and_eq_true, decide_eq_true_eq] at this
      have h8 := this.2
      rw [List.length_append, List.length_singleton]
      omega
    by_cases ho : s.ad = c.own
    · have d0 : (s.ad == c.own) = true := by simpa using ho
      have ev := Lib.hid (hno (by simp [ho]))
      clear hno hyes ho hA
      go_wp2_with fail
      go_ret
      exact ⟨ret_bool ev.out.symm, hB⟩
    have d0 : (s.ad == c.own) = false := by simpa using ho
    replace ho := Lib.hid ho
    generalize (sb.addR L s.id s.ad s.cost).1 = rr at *
    generalize (sb.addR L s.id s.ad s.cost).2 = L2 at *
    go_wp2_with fail
    refine hA.mono ?_
    rintro e w4 ⟨rfl, hR4, hg⟩
    have hB4 := hB.trans (Below.of_grown (B := w.heap.size) hg hB.size (by omega))
    have hq4 := hq.grown hg (by intro e; injection e with e; omega)
    have hz4 := hg.size
    clear hA s0 s1 s2 sl q2 ql hR hq
    by_cases hr0 : rr = 0
    · have d2 : (rr != 0) = false := by simpa using hr0
      have hp := k2 (k1.1 hr0)
      rw [← htk] at hp
      have hy := Lib.hid (hyes (by rw [k1.1 hr0]; simp [ho.out]))
      have hl3 := hl2 hr0
      replace hr0 := Lib.hid hr0
      clear hno hyes k1 k2 hl2 htk
      go_wp2_with fail
      exact ⟨⟨k + 1, L2, by omega, by go_num, hy.out, hp, hl3, hR4, hq4, by omega, hB4⟩, by simp [intOf]; omega⟩
    · have d2 : (rr != 0) = true := by simpa using hr0
      have ev := Lib.hid (hno (by have : sAddV (c.S.take k) s ≠ 0 := fun e => hr0 (k1.2 e); simp [this]))
      clear hno hyes k1 k2 hl2 htk
      go_wp2_with fail
      go_ret
      exact ⟨ret_bool ev.out.symm, hB4⟩
  · obtain rfl : k = c.sn := by omega
    have ev := Lib.hid (show sitesB c = true by
      unfold sitesB
      refine range_yes fun k hk => ?_
      have ha := List.getElem?_eq_getElem hk
      simp only [ha]
      exact hall.out k _ (by have := hSl.out; omega) ha)
    go_wp2_with fail
    go_ret
    exact ⟨ret_bool ev.out.symm, hB⟩
end Go.Proofs.Ytgdeecmhhbdjgaa
