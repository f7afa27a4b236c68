/- config: part 5; the tables, the rule, the time to live; Check. -/
import Derived.Test.YtgdeecmhhbdjgaaCgL
namespace Go.Proofs.Ytgdeecmhhbdjgaa
set_option linter.unusedVariables false
open Go Go.RowKit Go.Maps

theorem sAddV_iff {M : List SiteV} {s : SiteV} : sAddV M s = 0 ↔ (siteOk s && !((M.map SiteV.id).contains s.id) && decide (M.length < 8)) = true := by
  unfold sAddV
  cases h1 : siteOk s
  · simp
  · cases h2 : (M.map SiteV.id).contains s.id
    · by_cases h3 : 8 ≤ M.length
      · simp [h3]; try omega
      · simp [h3]; try omega
    · simp
theorem siteB_eq (own : Int) (M : List SiteV) (s : SiteV) : siteB own M s = ((s.ad != own) && (sAddV M s == 0)) := by
  unfold siteB
  congr 1
  rw [Bool.eq_iff_iff, beq_iff_eq, sAddV_iff]
set_option maxRecDepth 100000 in
set_option maxHeartbeats 4000000 in
theorem sib1_any (w : World) (c : CfgV) (cb tp g b r : Nat) (M : List SiteV) (s : SiteV) (hI : IsI s.id) (hc : Blk w cb 29 (cfgC c)) (ht : Blk w tp 98 #[.pointer (some ⟨g, 0, none⟩)]) (h : SibIn w g b r M) (n1 : cb ≠ b) (n2 : tp ≠ b) :
    Calls Try.prog 48 #[.agg #[.int .i64 s.id, .int .u32 s.ad, .int .i64 s.cost], .pointer (some ⟨cb, 0, none⟩), .pointer (some ⟨tp, 0, none⟩)] w fun e w' => e = .returned (.bool (!siteB c.own M s)) ∧ (siteB c.own M s = true → SibIn w' g b r (M ++ [s])) ∧ Blk w' cb 29 (cfgC c) ∧ Blk w' tp 98 #[.pointer (some ⟨g, 0, none⟩)] ∧ w.grownBy w' (some b) := by
  have hB := (Below.refl w.heap.size w).alloc (Nat.le_refl _) (.cells #[.int .i64 s.id, .int .u32 s.ad, .int .i64 s.cost] 74)
  have hq := Blk.new w 74 #[.int .i64 s.id, .int .u32 s.ad, .int .i64 s.cost]
  replace hc := hc.below hB hc.lt
  replace ht := ht.below hB ht.lt
  replace h := h.nx hB
  rw [siteB_eq]
  go_enter Try.func48, Try.ntmps48
  go_upto_region 1 with (fail)
  generalize w.alloc (.cells #[.int .i64 s.id, .int .u32 s.ad, .int .i64 s.cost] 74) = w1 at *
  have q0 : w1.cell? ⟨w.heap.size, 0, none⟩ = some (.int .i64 s.id) := hq.cellv 0 rfl
  have q1 : w1.cell? ⟨w.heap.size, 1, none⟩ = some (.int .u32 s.ad) := hq.cellv 1 rfl
  have q2 : w1.cell? ⟨w.heap.size, 2, none⟩ = some (.int .i64 s.cost) := hq.cellv 2 rfl
  have ql := hq.lt
  have c2 : w1.cell? ⟨cb, 2, none⟩ = some (.int .u32 c.own) := hc.cellv 2 rfl
  have cl := hc.lt
  have t0 : w1.cell? ⟨tp, 0, none⟩ = some (.pointer (some ⟨g, 0, none⟩)) := ht.cellv 0 rfl
  have tl := ht.lt
  have hA := sAdd_any w1 g b r M s h hI
  have hgo := grown_of_below hB (Nat.le_refl _) (some b)
  by_cases ho : s.ad = c.own
  · have d0 : (s.ad == c.own) = true := by simpa using ho
    have ev := Lib.hid (show (s.ad != c.own) = false by simp [ho])
    replace ho := Lib.hid ho
    clear hA
    go_wp2_with fail
    go_ret
    rw [ev.out]
    exact ⟨rfl, fun h => by simp at h, hc, ht, hgo⟩
  · have d0 : (s.ad == c.own) = false := by simpa using ho
    have ev := Lib.hid (show (s.ad != c.own) = true by simp [ho])
    replace ho := Lib.hid ho
    go_wp2_with fail
    refine hA.mono ?_
    rintro e w2 ⟨rfl, h2, hg⟩
    clear hA
    go_wp2_with fail
    go_ret
    rw [ev.out]
    refine ⟨ret_bool (by simp [bne]), fun hs => ?_, hc.grown hg (by intro e; injection e with e; exact n1 e), ht.grown hg (by intro e; injection e with e; exact n2 e), grown_trans hgo hg⟩
    have e0 : sAddV M s = 0 := by simpa using hs
    unfold sAddM at h2
    rw [if_pos e0] at h2
    exact h2
set_option maxRecDepth 100000 in
set_option maxHeartbeats 4000000 in
theorem sNew_any (w : World) : Calls Try.prog 46 #[] w fun e w' => ∃ g b r, e = .returned (.pointer (some ⟨g, 0, none⟩)) ∧ SibIn w' g b r [] ∧ w.heap.size ≤ g ∧ w.heap.size ≤ b ∧ Below w.heap.size w w' := by
  go_enter Try.func46, Try.ntmps46
  go_wp2_with fail
  go_ret
  refine ⟨w.heap.size + 1 + 1, w.heap.size, w.heap.size + 1, rfl, ⟨?_, ?_⟩, by omega, Nat.le_refl _, (((Below.refl _ _).alloc (Nat.le_refl _) _).alloc (by simp) _).alloc (by simp; omega) _⟩
  · have := Blk.new ((w.alloc (.map #[] 0)).alloc (.map #[] 0)) 141 #[.map (some w.heap.size), .map (some (w.heap.size + 1))]
    simpa using this
  · exact ((Ent.made (P := Try.prog) (K := 3) w).alloc _).alloc _
set_option maxRecDepth 100000 in
set_option maxHeartbeats 4000000 in
theorem sitesC_any (w : World) (c : CfgV) (h : CfgIn w c) (hs : CfgSm c) : Calls Try.prog 26 #[.agg (cfgC c)] w fun e w' => e = .returned (.bool (sitesB c)) ∧ Below w.heap.size w w' := by
  have hB := (Below.refl w.heap.size w).alloc (Nat.le_refl _) (.cells (cfgC c) 29)
  have hq := Blk.new w 29 (cfgC c)
  have hSl := Lib.hid h.sites.1
  go_enter Try.func26, Try.ntmps26
  go_upto_region 1 with (fail)
  generalize w.alloc (.cells (cfgC c) 29) = w1 at *
  go_wp2_with fail
  refine (sNew_any w1).mono ?_
  rintro e w2 ⟨g, b, r, rfl, hT, hg, hb0, hb⟩
  have hz1 := hB.size
  have hl1 := hq.lt
  replace hq := hq.below hb hq.lt
  replace hB := hB.trans (hb.mono hB.size)
  have hbx := (Below.refl w2.heap.size w2).alloc (Nat.le_refl _) (.cells #[.pointer (some ⟨g, 0, none⟩)] 98)
  have h5 := Blk.new w2 98 #[.pointer (some ⟨g, 0, none⟩)]
  have hz2 := hb.size
  have hltb := hT.ltb
  replace hq := hq.below hbx hq.lt
  replace hT := hT.nx hbx
  replace hB := hB.trans (hbx.mono hB.size)
  have n2 : w2.heap.size ≠ b := by omega
  have n1 : w.heap.size ≠ b := by omega
  have hb9 : w.heap.size ≤ b := by omega
  clear hbx hb
  go_upto_region 2 with (fail)
  generalize w2.alloc (.cells #[.pointer (some ⟨g, 0, none⟩)] 98) = w3 at *
  generalize w2.heap.size = tp at *
  have q5 : w3.cell? ⟨w.heap.size, 5, none⟩ = some (.slice c.sA c.sn c.sc) := hq.cellv 5 rfl
  have ql := hq.lt
  have hcon := contains_site w3 c.sA c.sn c.sc c.S (.pointer (some ⟨w.heap.size, 0, none⟩)) (.pointer (some ⟨tp, 0, none⟩))
    (fun k wr => (∀ j a, j < k → c.S[j]? = some a → siteB c.own (c.S.take j) a = true) ∧ SibIn wr g b r (c.S.take k) ∧ Blk wr w.heap.size 29 (cfgC c) ∧ Blk wr tp 98 #[.pointer (some ⟨g, 0, none⟩)] ∧ Below w.heap.size w wr)
    (fun wr => sitesB c = false ∧ Below w.heap.size w wr) (by have := hs.s; omega) h.sites.1
    (fun k wr hI => seen_nx h.sites hI.2.2.2.2)
    ⟨fun j a hj => absurd hj (by omega), hT, hq, h5, hB⟩
    (fun k a wr hI ha => by
      obtain ⟨hall, hTw, hqw, h5w, hb⟩ := hI
      have hS := seen_nx h.sites hb
      refine (sib1_any wr c w.heap.size tp g b r (c.S.take k) a (hS.2.1 a (List.mem_of_getElem? ha)).1 hqw h5w hTw n1 n2).mono ?_
      rintro e w' ⟨rfl, k1, k2, k3, hg⟩
      have hb' := hb.trans (Below.of_grown (B := w.heap.size) hg hb.size hb9)
      refine ⟨_, rfl, fun hr => ⟨?_, hb'⟩, fun hr => ⟨fun j x hj hx => ?_, ?_, k2, k3, hb'⟩⟩
      · unfold sitesB
        refine range_no (k := k) (List.getElem?_eq_some_iff.1 ha).1 ?_
        simp only [ha]
        simpa using hr
      · by_cases hjk : j < k
        · exact hall j x hjk hx
        · obtain rfl : j = k := by omega
          rw [ha] at hx; injection hx with hx; subst hx
          simpa using hr
      · have := k1 (by simpa using hr)
        rw [List.take_add_one, ha]
        exact this)
  go_wp2_with fail
  refine hcon.mono ?_
  rintro e w4 ⟨rr, rfl, h1, h2⟩
  cases rr
  · obtain ⟨hall, _, _, _, hb⟩ := h2 rfl
    have ev := Lib.hid (show sitesB c = true by
      unfold sitesB
      refine range_yes fun k hk => ?_
      have ha := List.getElem?_eq_getElem hk
      simp only [ha]
      exact hall k _ (by have := hSl.out; omega) ha)
    clear h1 h2 hcon hall
    go_wp2_with fail
    go_ret
    exact ⟨ret_bool ev.out.symm, hb⟩
  · obtain ⟨hM, hb⟩ := h1 rfl
    replace hM := Lib.hid hM
    clear h1 h2 hcon
    go_wp2_with fail
    go_ret
    exact ⟨ret_bool hM.out.symm, hb⟩
end Go.Proofs.Ytgdeecmhhbdjgaa
