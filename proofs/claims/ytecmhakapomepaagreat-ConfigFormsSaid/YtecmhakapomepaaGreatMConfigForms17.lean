import Derived.Test.YtecmhakapomepaaGreatMConfigForms16
import Derived.Test.YtecmhakapomepaaGreatMConfigForms2
import Derived.Test.YtecmhakapomepaaGreatMConfigForms10
/- config: part 3, the document's part 3. -/
namespace Go.Proofs.YtecmhakapomepaaGreat
set_option linter.unusedVariables false
open Go Go.RowKit Go.Maps

theorem umap_und : Tryz.prog.underlying 137 = some (.map 22 4) := Tryz.underlying137
theorem u32_key : Keyed Tryz.prog 22 := int_keyed Tryz.underlying22
@[go_sem] theorem make_umap (w : World) : (Instr.makeMap 137 none).run Tryz.prog w = .ok (.map (some w.heap.size)) (w.alloc (.map #[] 0)) := rfl
theorem u32_lit (z : Int) (h : IsU z) : keyOf Tryz.prog 22 (.int .u32 z) = some (.int .u32 z) :=
  keyOf_int_mk Tryz.underlying22 (by simp only [Lit.wf, Bool.and_eq_true, decide_eq_true_eq]; exact ⟨h.1, h.2⟩)
theorem bool_zero (w : World) : (zeroValue 4).run Tryz.prog w = .ok (.bool false) w := by kernel_rfl
def metE (z : Int) : Value × Value := (.int .u32 z, .bool true)
theorem met_in {l : List Int} {z : Int} (h : l.contains z = true) : (Value.int .u32 z, Value.bool true) ∈ l.map metE := List.mem_map.2 ⟨z, by simpa using h, rfl⟩
theorem met_no {l : List Int} {z : Int} (h : l.contains z = false) : (Value.int .u32 z) ∉ (l.map metE).map Prod.fst := by
  rw [List.map_map]
  intro hm
  obtain ⟨x, h1, h2⟩ := List.mem_map.1 hm
  simp only [Function.comp, metE, Value.int.injEq] at h2
  rw [← Bool.not_eq_true] at h
  exact h (by simpa [← h2.2] using h1)
/-- the addresses that were met behind k of them. -/
def metL (c : CfgV) (k : Nat) : List Int := c.own :: (c.V.take k).map VipV.ad
theorem metL_succ {c : CfgV} {k : Nat} {v : VipV} (h : c.V[k]? = some v) : metL c (k + 1) = metL c k ++ [v.ad] := by
  unfold metL
  rw [List.take_add_one, h]
  simp
theorem vipAt_eq {c : CfgV} {k : Nat} {v : VipV} (h : c.V[k]? = some v) : vipAt c.own c.V k = (!(metL c k).contains v.ad && pl.hopV v.ad) := by
  unfold vipAt
  rw [h]
  rfl
set_option maxRecDepth 100000 in
set_option maxHeartbeats 8000000 in
theorem vipsC_any (w : World) (c : CfgV) (h : CfgIn w c) : Calls Tryz.prog 58 #[.agg (cfgC c)] w fun e w' => e = .returned (.bool (vipsB c)) ∧ Below w.heap.size w w' := by
  have hB := (Below.refl w.heap.size w).alloc (Nat.le_refl _) (.cells (cfgC c) 29)
  have hq := Blk.new w 29 (cfgC c)
  have hC := h.nx hB
  have hVl := Lib.hid h.vips.1
  have hvn := h.lens.2.1.1
  have hown := h.own_
  go_enter Tryz.func58, Tryz.ntmps58
  go_upto_region 1 with (fail)
  generalize w.alloc (.cells (cfgC c) 29) = w1 at *
  have q2 : w1.cell? ⟨w.heap.size, 2, none⟩ = some (.int .u32 c.own) := hq.cellv 2 rfl
  have ql := hq.lt
  obtain ⟨w2, hrun, hE, hg⟩ := (Ent.made (P := Tryz.prog) (K := 22) w1).put_new u32_key umap_und (u32_lit c.own hown) (by simp) (.bool true)
  have hB2 := (hB.alloc hB.size (.map #[] 0)).trans ((Below.of_grown (B := w1.heap.size) hg (by simp) (Nat.le_refl _)).mono hB.size)
  replace hq := (hq.alloc (.map #[] 0)).grown hg (by intro e; injection e with e; omega)
  clear hg hB
  replace hE : Ent Tryz.prog 22 w2 w1.heap.size ((metL c 0).map metE) := hE
  have hmb : w.heap.size < w1.heap.size := ql
  go_upto_region 2 with (fail)
  generalize w1.heap.size = mb at *
  clear q2 ql hrun
  have q4 : w2.cell? ⟨w.heap.size, 4, none⟩ = some (.slice c.vA c.vn c.vc) := hq.cellv 4 rfl
  have ql := hq.lt
  by_cases h16 : c.vn ≤ 16
  rotate_left
  · have k1 : (16 : Int) < c.vn := by omega
    go_wp2_with fail
    go_ret
    exact ⟨ret_bool (by unfold vipsB; rw [hVl.out]; simp; omega), hB2⟩
  have k1 : (c.vn : Int) ≤ 16 := by omega
  go_wp2_with fail
  clear q4 ql
  go_loopw [17] (fun i wr => ∃ k : Nat, k ≤ c.vn ∧ i = .int .i64 (k : Int) ∧ (∀ j, j < k → vipAt c.own c.V j = true) ∧ Ent Tryz.prog 22 wr mb ((metL c k).map metE) ∧ Blk wr w.heap.size 29 (cfgC c) ∧ Below w.heap.size w wr) (fun i _ => c.vn - (intOf i).toNat)
  case atStart => exact ⟨0, Nat.zero_le _, rfl, fun j hj => absurd hj (by omega), hE, hq, hB2⟩
  case round =>
  clear hE hq hB2 hC
  obtain ⟨k, hk, rfl, hall, hE, hq, hB⟩ := hrel
  replace hall := Lib.hid hall
  by_cases hlt : k < c.vn
  · have hki : (k : Int) < c.vn := by omega
    have hk0 : (0 : Int) ≤ k := by omega
    obtain ⟨b, off, v, e1, hb, hv, hok, r0, r1, r2⟩ := vip_cells (h.nx hB).vips hlt
    have hUv : IsU v.ad := hok.1
    have hlit := u32_lit v.ad hUv
    have hbx := (Below.refl wr.heap.size wr).alloc (Nat.le_refl _) (.cells #[.int .u32 v.ad, .int .i64 v.pct, .slice v.A v.n v.c] 53)
    have h5 := Blk.new wr 53 #[.int .u32 v.ad, .int .i64 v.pct, .slice v.A v.n v.c]
    replace hE := hE.below hbx hE.lt
    replace hq := hq.below hbx hq.lt
    replace hB := hB.trans (hbx.mono hB.size)
    have hno : vipAt c.own c.V k = false → vipsB c = false := fun hf => by
      unfold vipsB
      rw [range_no (by rw [hVl.out]; exact hlt) hf, Bool.and_false]
    have hyes : vipAt c.own c.V k = true → ∀ j, j < k + 1 → vipAt c.own c.V j = true := fun ht j hj => by
      by_cases hjk : j < k
      · exact hall.out j hjk
      · obtain rfl : j = k := by omega
        exact ht
    have hsu := Lib.hid (metL_succ hv)
    have hat := Lib.hid (vipAt_eq hv)
    go_upto_region 7 with (fail)
    generalize wr.alloc (.cells #[.int .u32 v.ad, .int .i64 v.pct, .slice v.A v.n v.c] 53) = w3 at *
    generalize wr.heap.size = g5 at *
    have s0 : w3.cell? ⟨g5, 0, none⟩ = some (.int .u32 v.ad) := h5.cellv 0 rfl
    have sl := h5.lt
    clear r0 r1 r2 hbx e1 hb
    cases hm : (metL c k).contains v.ad
    · have hlk := hE.miss0 u32_key umap_und bool_zero hlit (met_no hm)
      cases hh : pl.hopV v.ad
      · have hf := Lib.hid (hno (by rw [hat.out, hh, Bool.and_false]))
        clear hno hyes hm
        go_wp2_with (go_at_call 86; refine (pl.hop_any _ _ hUv.1 hUv.2).mono ?_; rintro e w' ⟨rfl, rfl⟩; rw [hh])
        go_ret
        exact ⟨ret_bool hf.out.symm, hB⟩
      · have hy := Lib.hid (hyes (by rw [hat.out, hm, hh]; rfl))
        clear hno hyes
        go_upto_region 9 with (go_at_call 86; refine (pl.hop_any _ _ hUv.1 hUv.2).mono ?_; rintro e w' ⟨rfl, rfl⟩; rw [hh])
        clear hlk
        go_wp2_with (refine wpList_put_new rfl hE u32_key umap_und (.tmp 31) (.tmp 33) (.const (.bool true)) rfl rfl rfl rfl hlit (met_no hm) ?_; intro w4 hE4 hg4)
        have hE5 : Ent Tryz.prog 22 w4 mb ((metL c (k + 1)).map metE) := by rw [hsu.out, List.map_append]; exact hE4
        have hq5 := hq.grown hg4 (by intro e; injection e with e; omega)
        have hB5 := hB.trans ((Below.of_grown (B := w.heap.size) hg4 hB.size (by omega)))
        exact ⟨⟨k + 1, by omega, by go_num, hy.out, hE5, hq5, hB5⟩, by simp [intOf]; omega⟩
    · have hlk := hE.hit0 u32_key umap_und hlit (met_in hm)
      have hf := Lib.hid (hno (by rw [hat.out, hm]; rfl))
      clear hno hyes hm
      go_wp2_with fail
      go_ret
      exact ⟨ret_bool hf.out.symm, hB⟩
  · obtain rfl : k = c.vn := by omega
    have q4 : wr.cell? ⟨w.heap.size, 4, none⟩ = some (.slice c.vA c.vn c.vc) := hq.cellv 4 rfl
    have ql := hq.lt
    have ev : vipsB c = decide ((0 : Int) < c.vn) := by
      unfold vipsB
      rw [hVl.out, range_yes hall.out]
      simp [h16]
      omega
    replace ev := Lib.hid ev
    go_wp2_with fail
    go_ret
    exact ⟨ret_bool (by rw [ev.out]; simp), hB⟩
theorem elem_rv : Tryz.prog.underlying 37 = some (.slice (Tryz.prog.elem 37)) := by kernel_rfl
theorem size_rv (w : World) : (sizeOf (Tryz.prog.elem 37)).run Tryz.prog w = .ok vipK.size w := by kernel_rfl
theorem vipAt_no {own : Int} {l : List VipV} {k j : Nat} {v u : VipV} (hv : l[k]? = some v) (hu : l[j]? = some u) (hj : j < k) (e : v.ad = u.ad) : vipAt own l k = false := by
  unfold vipAt
  rw [hv]
  have : ((own :: (l.take k).map VipV.ad).contains v.ad) = true := by
    rw [List.contains_iff_mem]
    refine List.mem_cons_of_mem _ (List.mem_map.2 ⟨u, ?_, e.symm⟩)
    refine List.mem_of_getElem? (i := j) ?_
    rw [List.getElem?_take, if_pos hj]
    exact hu
  simp only [this, Bool.not_true, Bool.false_and]
theorem vipAt_yes {own : Int} {l : List VipV} {k : Nat} {v : VipV} (hv : l[k]? = some v) (h0 : v.ad ≠ own) (hh : pl.hopV v.ad = true) (h : ∀ j u, j < k → l[j]? = some u → v.ad ≠ u.ad) : vipAt own l k = true := by
  unfold vipAt
  rw [hv]
  have : ((own :: (l.take k).map VipV.ad).contains v.ad) = false := by
    rw [← Bool.not_eq_true, List.contains_iff_mem]
    intro hm
    rcases List.mem_cons.1 hm with e | hm
    · exact h0 e
    · obtain ⟨u, hu, e⟩ := List.mem_map.1 hm
      obtain ⟨j, hj, rfl⟩ := List.getElem_of_mem hu
      have hjk : j < k := by rw [List.length_take] at hj; omega
      refine h j _ hjk ?_ e.symm
      rw [List.getElem_take]
      exact List.getElem?_eq_getElem _
  simp only [this, hh, Bool.not_false, Bool.true_and]
set_option maxRecDepth 100000 in
set_option maxHeartbeats 8000000 in
theorem refVips_any (w : World) (c : CfgV) (h : CfgIn w c) : Calls Tryz.prog 73 #[.agg (cfgC c)] w fun e w' => e = .returned (.bool (vipsB c)) ∧ Below w.heap.size w w' := by
  have hB := (Below.refl w.heap.size w).alloc (Nat.le_refl _) (.cells (cfgC c) 41)
  have hq := Blk.new w 41 (cfgC c)
  have hVl := Lib.hid h.vips.1
  have hvn := h.lens.2.1.1
  have hown := h.own_
  go_enter Tryz.func73, Tryz.ntmps73
  go_upto_region 1 with (fail)
  generalize w.alloc (.cells (cfgC c) 41) = w1 at *
  have q4 : w1.cell? ⟨w.heap.size, 4, none⟩ = some (.slice c.vA c.vn c.vc) := hq.cellv 4 rfl
  have ql := hq.lt
  by_cases h16 : 1 ≤ c.vn ∧ c.vn ≤ 16
  rotate_left
  · have ev := Lib.hid (show vipsB c = false by unfold vipsB; rw [hVl.out]; simp; omega)
    by_cases h1 : c.vn < 1
    · have k1 : decide ((c.vn : Int) < 1) = true := by simp; omega
      have k2 : c.vn = 0 := by omega
      replace k2 := Lib.hid k2
      go_upto_region 2 with (fail)
      go_wp2_with fail
      go_ret
      exact ⟨ret_bool ev.out.symm, hB⟩
    · have k1 : decide ((c.vn : Int) < 1) = false := by simp; omega
      have k2 : decide ((16 : Int) < c.vn) = true := by simp; omega
      go_wp2_with fail
      go_ret
      exact ⟨ret_bool ev.out.symm, hB⟩
  obtain ⟨h1, h16⟩ := h16
  obtain ⟨b, off, hA, -, -⟩ := h.vips.2.2 (by omega)
  rw [hA] at q4
  have k1 : decide ((c.vn : Int) < 1) = false := by simp; omega
  have k2 : decide ((16 : Int) < c.vn) = false := by simp; omega
  go_upto_region 4 with (fail)
  clear q4 ql k1 k2
  replace hA := hA
  go_loopw [20] (fun i wr => ∃ k : Nat, k ≤ c.vn ∧ i = .int .i64 (k : Int) ∧ (∀ j, j < k → vipAt c.own c.V j = true) ∧ Blk wr w.heap.size 41 (cfgC c) ∧ Below w.heap.size w wr) (fun i _ => c.vn - (intOf i).toNat)
  case atStart => exact ⟨0, Nat.zero_le _, rfl, fun j hj => absurd hj (by omega), hq, hB⟩
  case round =>
  clear hq hB
  obtain ⟨k, hk, rfl, hall, hq, hB⟩ := hrel
  replace hall := Lib.hid hall
  by_cases hlt : k < c.vn
  · have hki : (k : Int) < c.vn := by omega
    have hk0 : (0 : Int) ≤ k := by omega
    obtain ⟨b', off', v, e1, hb, hv, hok, r0, r1, r2⟩ := vip_cells (h.nx hB).vips hlt
    obtain ⟨rfl, rfl⟩ : b' = b ∧ off' = off := by rw [hA] at e1; injection e1 with e1; injection e1 with e1 e2; exact ⟨e1.symm, e2.symm⟩
    have hUv : IsU v.ad := hok.1
    have hbx := (Below.refl wr.heap.size wr).alloc (Nat.le_refl _) (.cells #[.int .u32 v.ad, .int .i64 v.pct, .slice v.A v.n v.c] 81)
    have h5 := Blk.new wr 81 #[.int .u32 v.ad, .int .i64 v.pct, .slice v.A v.n v.c]
    have hq0 := hq
    replace hq := hq.below hbx hq.lt
    replace hB := hB.trans (hbx.mono hB.size)
    have hno : vipAt c.own c.V k = false → vipsB c = false := fun hf => by
      unfold vipsB
      rw [range_no (by rw [hVl.out]; exact hlt) hf, Bool.and_false]
    have hyes : vipAt c.own c.V k = true → ∀ j, j < k + 1 → vipAt c.own c.V j = true := fun ht j hj => by
      by_cases hjk : j < k
      · exact hall.out j hjk
      · obtain rfl : j = k := by omega
        exact ht
    have hv9 := Lib.hid hv
    go_upto_region 6 with (fail)
    generalize wr.alloc (.cells #[.int .u32 v.ad, .int .i64 v.pct, .slice v.A v.n v.c] 81) = w3 at *
    generalize wr.heap.size = g5 at *
    have s0 : w3.cell? ⟨g5, 0, none⟩ = some (.int .u32 v.ad) := h5.cellv 0 rfl
    have sl := h5.lt
    have q2 : w3.cell? ⟨w.heap.size, 2, none⟩ = some (.int .u32 c.own) := hq.cellv 2 rfl
    have ql := hq.lt
    clear r0 r1 r2 hbx hb hq0 hv
    by_cases ho : v.ad = c.own
    · have d1 : (v.ad == c.own) = true := by simpa using ho
      have hf := Lib.hid (hno (by unfold vipAt; rw [hv9.out]; simp [ho]))
      clear hno hyes ho
      go_wp2_with fail
      go_ret
      exact ⟨ret_bool hf.out.symm, hB⟩
    have d1 : (v.ad == c.own) = false := by simpa using ho
    cases hh : pl.hopV v.ad
    · have hf := Lib.hid (hno (by unfold vipAt; rw [hv9.out]; simp [hh]))
      clear hno hyes
      go_wp2_with (go_at_call 107; refine (pl.refHop_any _ _ hUv.1 hUv.2).mono ?_; rintro e w' ⟨rfl, rfl⟩; rw [hh])
      go_ret
      exact ⟨ret_bool hf.out.symm, hB⟩
    replace ho := Lib.hid ho
    replace hh := Lib.hid hh
    go_upto_region 8 with (go_at_call 107; refine (pl.refHop_any _ _ hUv.1 hUv.2).mono ?_; rintro e w' ⟨rfl, rfl⟩; rw [hh.out])
    have q4 : w3.cell? ⟨w.heap.size, 4, none⟩ = some (.slice (some ⟨b', off', none⟩) c.vn c.vc) := by rw [← hA]; exact hq.cellv 4 rfl
    obtain ⟨A1, hs1, hr1⟩ := row_take elem_rv size_rv (some ⟨b', off', none⟩) c.vn c.vc k hk hvn
    have hS1 := hr1 _ _ _ (by have q := (h.nx hB).vips; rw [hA] at q; exact q)
    clear hr1 q2
    go_wp2_with fail
    clear s0 sl q4 ql e1 hs1
    go_loopw [41] (fun i wr => ∃ j : Nat, j ≤ k ∧ i = .int .i64 (j : Int) ∧ (∀ j' u, j' < j → c.V[j']? = some u → v.ad ≠ u.ad) ∧ Blk wr w.heap.size 41 (cfgC c) ∧ Blk wr g5 81 #[.int .u32 v.ad, .int .i64 v.pct, .slice v.A v.n v.c] ∧ Below w3.heap.size w3 wr) (fun i _ => k - (intOf i).toNat)
    case atStart => exact ⟨0, Nat.zero_le _, rfl, fun j' u hj => absurd hj (by omega), hq, h5, Below.refl _ _⟩
    case round =>
    clear hq h5
    obtain ⟨j, hjk, rfl, hne, hq, h5, hb3⟩ := hrel
    replace hne := Lib.hid hne
    by_cases hj : j < k
    · have hji : (j : Int) < k := by omega
      have hj0 : (0 : Int) ≤ j := by omega
      obtain ⟨b, off, u, e1, hb, hu, huk, r0, r1, r2⟩ := vip_cells (seen_nx hS1 hb3) hj
      rw [List.getElem?_take, if_pos hj] at hu
      have hu9 := Lib.hid hu
      have hbx := (Below.refl wr.heap.size wr).alloc (Nat.le_refl _) (.cells #[.int .u32 u.ad, .int .i64 u.pct, .slice u.A u.n u.c] 81)
      have h6 := Blk.new wr 81 #[.int .u32 u.ad, .int .i64 u.pct, .slice u.A u.n u.c]
      replace hq := hq.below hbx hq.lt
      replace h5 := h5.below hbx h5.lt
      replace hb3 := hb3.trans (hbx.mono hb3.size)
      clear hu
      go_upto_region 11 with (fail)
      generalize wr.alloc (.cells #[.int .u32 u.ad, .int .i64 u.pct, .slice u.A u.n u.c] 81) = w4 at *
      generalize wr.heap.size = g6 at *
      have s0 : w4.cell? ⟨g5, 0, none⟩ = some (.int .u32 v.ad) := h5.cellv 0 rfl
      have t0 : w4.cell? ⟨g6, 0, none⟩ = some (.int .u32 u.ad) := h6.cellv 0 rfl
      have sl := h5.lt
      have tl := h6.lt
      clear r0 r1 r2 hbx hb
      by_cases he : v.ad = u.ad
      · have d2 : (v.ad == u.ad) = true := by simpa using he
        have hf := Lib.hid (hno (vipAt_no hv9.out hu9.out hj he))
        clear hno hyes he
        go_wp2_with fail
        go_ret
        exact ⟨ret_bool hf.out.symm, hB.trans (hb3.mono hB.size)⟩
      · have d2 : (v.ad == u.ad) = false := by simpa using he
        have hne2 : ∀ j' u, j' < j + 1 → c.V[j']? = some u → v.ad ≠ u.ad := fun j' u' hj' hu' => by
          by_cases hjj : j' < j
          · exact hne.out j' u' hjj hu'
          · obtain rfl : j' = j := by omega
            rw [hu9.out] at hu'
            injection hu' with hu'
            subst hu'
            exact he
        replace hne2 := Lib.hid hne2
        clear he
        go_wp2_with fail
        exact ⟨⟨j + 1, by omega, by go_num, hne2.out, hq, h5, hb3⟩, by simp [intOf]; omega⟩
    · obtain rfl : j = k := by omega
      have hy := Lib.hid (hyes (vipAt_yes hv9.out ho.out hh.out hne.out))
      clear hno hyes
      go_wp2_with fail
      go_roundw
      case rel => exact ⟨j + 1, by omega, by go_num, hy.out, hq, hB.trans (hb3.mono hB.size)⟩
      all_goals (simp [intOf]; omega)
  · obtain rfl : k = c.vn := by omega
    have ev := Lib.hid (show vipsB c = true by unfold vipsB; rw [hVl.out, range_yes hall.out]; simp [h1, h16])
    go_wp2_with fail
    go_ret
    exact ⟨ret_bool ev.out.symm, hB⟩
end Go.Proofs.YtecmhakapomepaaGreat

/- config: slices.ContainsFunc with what the function keeps; part 4, the document's part 4. -/
namespace Go.Proofs.YtecmhakapomepaaGreat
set_option linter.unusedVariables false
open Go Go.RowKit Go.Maps

set_option maxRecDepth 100000 in
set_option maxHeartbeats 4000000 in
theorem index_vip (w : World) (A : Option Addr) (n c : Nat) (L : List VipV) (Inv : Nat → World → Prop) (Stop : World → Prop) (hn : n ≤ 1000000) (hL : L.length = n)
    (hS : ∀ k wr, Inv k wr → Seen vipK wr (fun b => b < wr.heap.size) A n L) (h0 : Inv 0 w)
    (hf : ∀ k a wr, Inv k wr → L[k]? = some a → Calls Tryz.prog 88 #[.agg #[.int .u32 a.ad, .int .i64 a.pct, .slice a.A a.n a.c]] wr fun e w' => ∃ r, e = .returned (.bool r) ∧ (r = true → Stop w') ∧ (r = false → Inv (k + 1) w')) :
    Calls Tryz.prog 114 #[.slice A n c, .func (.func 88) #[] #[]] w fun e w' => ∃ z : Int, e = .returned (.int .i64 z) ∧ ((0 ≤ z ∧ Stop w') ∨ (z = -1 ∧ Inv n w')) := by
  go_enter Tryz.func114, Tryz.ntmps114
  go_wp2_with fail
  go_loopw [8] (fun i wr => ∃ k : Nat, k ≤ n ∧ i = .int .i64 (k : Int) ∧ Inv k wr) (fun i _ => n - (intOf i).toNat)
  case atStart => exact ⟨0, Nat.zero_le _, rfl, h0⟩
  case round =>
  obtain ⟨k, hk, rfl, hI⟩ := hrel
  by_cases hlt : k < n
  · have hki : (k : Int) < n := by omega
    have hk0 : (0 : Int) ≤ k := by omega
    obtain ⟨b, off, a, e1, hb, ha, hok, r0, r1, r2⟩ := vip_cells (hS k wr hI) hlt
    subst e1
    have hc := hf k a wr hI ha
    go_wp2_with fail
    refine hc.mono ?_
    rintro e w2 ⟨r, rfl, h1, h2⟩
    cases r
    · have h3 := h2 rfl
      clear h1 h2 hc r0 r1 r2
      go_wp2_with fail
      exact ⟨⟨k + 1, by omega, by go_num, h3⟩, by simp [intOf]; omega⟩
    · have h3 := h1 rfl
      clear h1 h2 hc r0 r1 r2
      go_wp2_with fail
      go_ret
      exact ⟨_, rfl, .inl ⟨hk0, h3⟩⟩
  · obtain rfl : k = n := by omega
    go_wp2_with fail
    go_ret
    exact ⟨_, rfl, .inr ⟨rfl, hI⟩⟩
theorem contains_vip (w : World) (A : Option Addr) (n c : Nat) (L : List VipV) (Inv : Nat → World → Prop) (Stop : World → Prop) (hn : n ≤ 1000000) (hL : L.length = n)
    (hS : ∀ k wr, Inv k wr → Seen vipK wr (fun b => b < wr.heap.size) A n L) (h0 : Inv 0 w)
    (hf : ∀ k a wr, Inv k wr → L[k]? = some a → Calls Tryz.prog 88 #[.agg #[.int .u32 a.ad, .int .i64 a.pct, .slice a.A a.n a.c]] wr fun e w' => ∃ r, e = .returned (.bool r) ∧ (r = true → Stop w') ∧ (r = false → Inv (k + 1) w')) :
    Calls Tryz.prog 87 #[.slice A n c, .func (.func 88) #[] #[]] w fun e w' => ∃ r, e = .returned (.bool r) ∧ (r = true → Stop w') ∧ (r = false → Inv n w') := by
  go_enter Tryz.func87, Tryz.ntmps87
  go_wp2_with fail
  refine (index_vip w A n c L  Inv Stop hn hL hS h0 hf).mono ?_
  rintro e w2 ⟨z, rfl, hz⟩
  rcases hz with ⟨h1, h2⟩ | ⟨rfl, h2⟩
  · have d1 : decide ((0 : Int) ≤ z) = true := by simpa using h1
    go_wp2_with fail
    go_ret
    exact ⟨true, rfl, fun _ => h2, fun h => by cases h⟩
  · go_wp2_with fail
    go_ret
    exact ⟨false, rfl, (fun h => by cases h), fun _ => h2⟩
set_option maxRecDepth 100000 in
set_option maxHeartbeats 4000000 in
theorem index_bnd (w : World) (A : Option Addr) (n c : Nat) (L : List BndV) (y0 : Value) (Inv : Nat → World → Prop) (Stop : World → Prop) (hn : n ≤ 1000000) (hL : L.length = n)
    (hS : ∀ k wr, Inv k wr → Seen bndK wr (fun b => b < wr.heap.size) A n L) (h0 : Inv 0 w)
    (hf : ∀ k a wr, Inv k wr → L[k]? = some a → Calls Tryz.prog 116 #[.agg #[.int .i64 a.id, .int .u32 a.ad, .int .i64 a.wt], y0] wr fun e w' => ∃ r, e = .returned (.bool r) ∧ (r = true → Stop w') ∧ (r = false → Inv (k + 1) w')) :
    Calls Tryz.prog 128 #[.slice A n c, .func (.func 116) #[] #[y0]] w fun e w' => ∃ z : Int, e = .returned (.int .i64 z) ∧ ((0 ≤ z ∧ Stop w') ∨ (z = -1 ∧ Inv n w')) := by
  go_enter Tryz.func128, Tryz.ntmps128
  go_wp2_with fail
  go_loopw [8] (fun i wr => ∃ k : Nat, k ≤ n ∧ i = .int .i64 (k : Int) ∧ Inv k wr) (fun i _ => n - (intOf i).toNat)
  case atStart => exact ⟨0, Nat.zero_le _, rfl, h0⟩
  case round =>
  obtain ⟨k, hk, rfl, hI⟩ := hrel
  by_cases hlt : k < n
  · have hki : (k : Int) < n := by omega
    have hk0 : (0 : Int) ≤ k := by omega
    obtain ⟨b, off, a, e1, hb, ha, hok, r0, r1, r2⟩ := bnd_cells (hS k wr hI) hlt
    subst e1
    have hc := hf k a wr hI ha
    go_wp2_with fail
    refine hc.mono ?_
    rintro e w2 ⟨r, rfl, h1, h2⟩
    cases r
    · have h3 := h2 rfl
      clear h1 h2 hc r0 r1 r2
      go_wp2_with fail
      exact ⟨⟨k + 1, by omega, by go_num, h3⟩, by simp [intOf]; omega⟩
    · have h3 := h1 rfl
      clear h1 h2 hc r0 r1 r2
      go_wp2_with fail
      go_ret
      exact ⟨_, rfl, .inl ⟨hk0, h3⟩⟩
  · obtain rfl : k = n := by omega
    go_wp2_with fail
    go_ret
    exact ⟨_, rfl, .inr ⟨rfl, hI⟩⟩
theorem contains_bnd (w : World) (A : Option Addr) (n c : Nat) (L : List BndV) (y0 : Value) (Inv : Nat → World → Prop) (Stop : World → Prop) (hn : n ≤ 1000000) (hL : L.length = n)
    (hS : ∀ k wr, Inv k wr → Seen bndK wr (fun b => b < wr.heap.size) A n L) (h0 : Inv 0 w)
    (hf : ∀ k a wr, Inv k wr → L[k]? = some a → Calls Tryz.prog 116 #[.agg #[.int .i64 a.id, .int .u32 a.ad, .int .i64 a.wt], y0] wr fun e w' => ∃ r, e = .returned (.bool r) ∧ (r = true → Stop w') ∧ (r = false → Inv (k + 1) w')) :
    Calls Tryz.prog 118 #[.slice A n c, .func (.func 116) #[] #[y0]] w fun e w' => ∃ r, e = .returned (.bool r) ∧ (r = true → Stop w') ∧ (r = false → Inv n w') := by
  go_enter Tryz.func118, Tryz.ntmps118
  go_wp2_with fail
  refine (index_bnd w A n c L y0 Inv Stop hn hL hS h0 hf).mono ?_
  rintro e w2 ⟨z, rfl, hz⟩
  rcases hz with ⟨h1, h2⟩ | ⟨rfl, h2⟩
  · have d1 : decide ((0 : Int) ≤ z) = true := by simpa using h1
    go_wp2_with fail
    go_ret
    exact ⟨true, rfl, fun _ => h2, fun h => by cases h⟩
  · go_wp2_with fail
    go_ret
    exact ⟨false, rfl, (fun h => by cases h), fun _ => h2⟩
set_option maxRecDepth 100000 in
set_option maxHeartbeats 4000000 in
theorem index_site (w : World) (A : Option Addr) (n c : Nat) (L : List SiteV) (y0 y1 : Value) (Inv : Nat → World → Prop) (Stop : World → Prop) (hn : n ≤ 1000000) (hL : L.length = n)
    (hS : ∀ k wr, Inv k wr → Seen siteK wr (fun b => b < wr.heap.size) A n L) (h0 : Inv 0 w)
    (hf : ∀ k a wr, Inv k wr → L[k]? = some a → Calls Tryz.prog 92 #[.agg #[.int .i64 a.id, .int .u32 a.ad, .int .i64 a.cost], y0, y1] wr fun e w' => ∃ r, e = .returned (.bool r) ∧ (r = true → Stop w') ∧ (r = false → Inv (k + 1) w')) :
    Calls Tryz.prog 119 #[.slice A n c, .func (.func 92) #[] #[y0, y1]] w fun e w' => ∃ z : Int, e = .returned (.int .i64 z) ∧ ((0 ≤ z ∧ Stop w') ∨ (z = -1 ∧ Inv n w')) := by
  go_enter Tryz.func119, Tryz.ntmps119
  go_wp2_with fail
  go_loopw [8] (fun i wr => ∃ k : Nat, k ≤ n ∧ i = .int .i64 (k : Int) ∧ Inv k wr) (fun i _ => n - (intOf i).toNat)
  case atStart => exact ⟨0, Nat.zero_le _, rfl, h0⟩
  case round =>
  obtain ⟨k, hk, rfl, hI⟩ := hrel
  by_cases hlt : k < n
  · have hki : (k : Int) < n := by omega
    have hk0 : (0 : Int) ≤ k := by omega
    obtain ⟨b, off, a, e1, hb, ha, hok, r0, r1, r2⟩ := site_cells (hS k wr hI) hlt
    subst e1
    have hc := hf k a wr hI ha
    go_wp2_with fail
    refine hc.mono ?_
    rintro e w2 ⟨r, rfl, h1, h2⟩
    cases r
    · have h3 := h2 rfl
      clear h1 h2 hc r0 r1 r2
      go_wp2_with fail
      exact ⟨⟨k + 1, by omega, by go_num, h3⟩, by simp [intOf]; omega⟩
    · have h3 := h1 rfl
      clear h1 h2 hc r0 r1 r2
      go_wp2_with fail
      go_ret
      exact ⟨_, rfl, .inl ⟨hk0, h3⟩⟩
  · obtain rfl : k = n := by omega
    go_wp2_with fail
    go_ret
    exact ⟨_, rfl, .inr ⟨rfl, hI⟩⟩
theorem contains_site (w : World) (A : Option Addr) (n c : Nat) (L : List SiteV) (y0 y1 : Value) (Inv : Nat → World → Prop) (Stop : World → Prop) (hn : n ≤ 1000000) (hL : L.length = n)
    (hS : ∀ k wr, Inv k wr → Seen siteK wr (fun b => b < wr.heap.size) A n L) (h0 : Inv 0 w)
    (hf : ∀ k a wr, Inv k wr → L[k]? = some a → Calls Tryz.prog 92 #[.agg #[.int .i64 a.id, .int .u32 a.ad, .int .i64 a.cost], y0, y1] wr fun e w' => ∃ r, e = .returned (.bool r) ∧ (r = true → Stop w') ∧ (r = false → Inv (k + 1) w')) :
    Calls Tryz.prog 91 #[.slice A n c, .func (.func 92) #[] #[y0, y1]] w fun e w' => ∃ r, e = .returned (.bool r) ∧ (r = true → Stop w') ∧ (r = false → Inv n w') := by
  go_enter Tryz.func91, Tryz.ntmps91
  go_wp2_with fail
  refine (index_site w A n c L y0 y1 Inv Stop hn hL hS h0 hf).mono ?_
  rintro e w2 ⟨z, rfl, hz⟩
  rcases hz with ⟨h1, h2⟩ | ⟨rfl, h2⟩
  · have d1 : decide ((0 : Int) ≤ z) = true := by simpa using h1
    go_wp2_with fail
    go_ret
    exact ⟨true, rfl, fun _ => h2, fun h => by cases h⟩
  · go_wp2_with fail
    go_ret
    exact ⟨false, rfl, (fun h => by cases h), fun _ => h2⟩
end Go.Proofs.YtecmhakapomepaaGreat

/- config: part 4. -/
namespace Go.Proofs.YtecmhakapomepaaGreat
set_option linter.unusedVariables false
open Go Go.RowKit Go.Maps

set_option maxRecDepth 100000 in
set_option maxHeartbeats 4000000 in
theorem pool1_any (w : World) (gp g b : Nat) (pc : Int) (M : List Mem) (a : BndV) (h : PoolIn w g b pc M) (hp : Blk w gp 184 #[.pointer (some ⟨g, 0, none⟩)]) (hne : gp ≠ b) : Calls Tryz.prog 116 #[.agg #[.int .i64 a.id, .int .u32 a.ad, .int .i64 a.wt], .pointer (some ⟨gp, 0, none⟩)] w fun e w' => e = .returned (.bool ((addP M a.id a.ad a.wt).1 != 0)) ∧ PoolIn w' g b pc (addP M a.id a.ad a.wt).2 ∧ Blk w' gp 184 #[.pointer (some ⟨g, 0, none⟩)] ∧ w.grownBy w' (some b) := by
  have hB := (Below.refl w.heap.size w).alloc (Nat.le_refl _) (.cells #[.int .i64 a.id, .int .u32 a.ad, .int .i64 a.wt] 67)
  have hq := Blk.new w 67 #[.int .i64 a.id, .int .u32 a.ad, .int .i64 a.wt]
  replace h := h.nx hB
  replace hp := hp.below hB hp.lt
  go_enter Tryz.func116, Tryz.ntmps116
  go_upto_region 1 with (fail)
  generalize w.alloc (.cells #[.int .i64 a.id, .int .u32 a.ad, .int .i64 a.wt] 67) = w1 at *
  have q0 : w1.cell? ⟨w.heap.size, 0, none⟩ = some (.int .i64 a.id) := hq.cellv 0 rfl
  have q1 : w1.cell? ⟨w.heap.size, 1, none⟩ = some (.int .u32 a.ad) := hq.cellv 1 rfl
  have q2 : w1.cell? ⟨w.heap.size, 2, none⟩ = some (.int .i64 a.wt) := hq.cellv 2 rfl
  have ql := hq.lt
  have p0 : w1.cell? ⟨gp, 0, none⟩ = some (.pointer (some ⟨g, 0, none⟩)) := hp.cellv 0 rfl
  have pl := hp.lt
  have hc := pAddS w1 g b pc M h a.id a.ad a.wt
  have hw : ∀ w', w1.grownBy w' (some b) → w.grownBy w' (some b) := fun w' hg => grown_trans (grown_of_below hB (Nat.le_refl _) _) hg
  go_wp2_with fail
  refine hc.mono ?_
  rintro e w2 ⟨rfl, h2, hg⟩
  go_wp2_with fail
  go_ret
  exact ⟨rfl, h2, hp.grown hg (by intro e; injection e with e; exact hne e), hw _ hg⟩
set_option maxRecDepth 100000 in
set_option maxHeartbeats 4000000 in
theorem vipPool_any (w : World) (v : VipV) (h : vipK.ok w (fun b => b < w.heap.size) v) (hbig : v.n ≤ 1000000) : Calls Tryz.prog 89 #[.agg #[.int .u32 v.ad, .int .i64 v.pct, .slice v.A v.n v.c]] w fun e w' => e = .returned (.bool (poolB v)) ∧ Below w.heap.size w w' := by
  obtain ⟨hU, hI, hnc, hcm, hS⟩ := h
  have hl := Lib.hid hS.1
  have hB := (Below.refl w.heap.size w).alloc (Nat.le_refl _) (.cells #[.int .u32 v.ad, .int .i64 v.pct, .slice v.A v.n v.c] 53)
  have hq := Blk.new w 53 #[.int .u32 v.ad, .int .i64 v.pct, .slice v.A v.n v.c]
  go_enter Tryz.func89, Tryz.ntmps89
  go_upto_region 1 with (fail)
  generalize w.alloc (.cells #[.int .u32 v.ad, .int .i64 v.pct, .slice v.A v.n v.c] 53) = w1 at *
  have q1 : w1.cell? ⟨w.heap.size, 1, none⟩ = some (.int .i64 v.pct) := hq.cellv 1 rfl
  have ql := hq.lt
  by_cases hp : v.pct < 1 ∨ 100 < v.pct
  · have ev := Lib.hid (show poolB v = false by unfold poolB rngB; rcases hp with hp | hp <;> simp <;> intros <;> omega)
    go_wp2_with fail
    refine (new_no w1 v.pct hp).mono ?_
    rintro e w2 ⟨rfl, rfl⟩
    go_wp2_with fail
    go_ret
    exact ⟨ret_bool ev.out.symm, hB.alloc hB.size _⟩
  have hp1 : rngB 1 100 v.pct = true := by unfold rngB; simp; omega
  go_wp2_with fail
  refine (new_in w1 v.pct (by omega) (by omega)).mono ?_
  rintro e w2 ⟨g, b, rfl, hP, hg1, hb1, hb⟩
  clear q1 ql
  have hz0 := hB.size
  replace hq := hq.below hb hq.lt
  replace hB := hB.trans (hb.mono hB.size)
  have hg0 : w.heap.size ≤ g := by omega
  have hb0 : w.heap.size ≤ b := by omega
  have hbx := (Below.refl w2.heap.size w2).alloc (Nat.le_refl _) (.cells #[.pointer (some ⟨g, 0, none⟩)] 184)
  have h5 := Blk.new w2 184 #[.pointer (some ⟨g, 0, none⟩)]
  replace hq := hq.below hbx hq.lt
  have hb5 : w2.heap.size ≠ b := by have := hP.ltb; omega
  replace hP := hP.nx hbx
  have hz5 := hB.size
  replace hB := hB.trans (hbx.mono hB.size)
  clear hg1 hb1 hb hbx hz0
  go_upto_region 3 with (fail)
  generalize w2.alloc (.cells #[.pointer (some ⟨g, 0, none⟩)] 184) = w3 at *
  generalize w2.heap.size = gp at *
  have q2 : w3.cell? ⟨w.heap.size, 2, none⟩ = some (.slice v.A v.n v.c) := hq.cellv 2 rfl
  have ql := hq.lt
  have p0 : w3.cell? ⟨gp, 0, none⟩ = some (.pointer (some ⟨g, 0, none⟩)) := h5.cellv 0 rfl
  have pl := h5.lt
  by_cases hn0 : v.n = 0
  · have ev := Lib.hid (show poolB v = false by unfold poolB; rw [hl.out, hn0]; simp)
    have d0 : decide ((0 : Int) < v.n) = false := by simp; omega
    have d1 : decide (0 < v.n) = false := by simp; omega
    replace hn0 := Lib.hid hn0
    go_wp2_with fail
    go_ret
    exact ⟨ret_bool ev.out.symm, hB⟩
  have d0 : decide ((0 : Int) < v.n) = true := by simp; omega
  have d1 : decide (0 < v.n) = true := by simp; omega
  have hcon := contains_bnd w3 v.A v.n v.c v.L (.pointer (some ⟨gp, 0, none⟩))
    (fun k wr => ∃ M, addsM [] (v.L.take k) = some M ∧ PoolIn wr g b v.pct M ∧ Blk wr gp 184 #[.pointer (some ⟨g, 0, none⟩)] ∧ Below w.heap.size w wr)
    (fun wr => addsM [] v.L = none ∧ Below w.heap.size w wr) hbig hS.1
    (fun k wr hI => by obtain ⟨M, _, _, _, hb⟩ := hI; exact seen_nx hS hb)
    ⟨[], rfl, hP, h5, hB⟩
    (fun k a wr hI ha => by
      obtain ⟨M, hM, hPw, h5w, hb⟩ := hI
      refine (pool1_any wr gp g b v.pct M a hPw h5w hb5).mono ?_
      rintro e w' ⟨rfl, h1, h2, hg⟩
      obtain ⟨t1, t2⟩ := addsM_take hM ha
      have hb' := hb.trans (Below.of_grown (B := w.heap.size) hg hb.size hb0)
      refine ⟨_, rfl, fun hr => ⟨t2 (by simpa using hr), hb'⟩, fun hr => ?_⟩
      have hr0 : (addP M a.id a.ad a.wt).1 = 0 := by simpa using hr
      rw [if_pos hr0] at t1
      exact ⟨_, t1, h1, h2, hb'⟩)
  go_wp2_with fail
  refine hcon.mono ?_
  rintro e w4 ⟨r, rfl, h1, h2⟩
  cases r
  · obtain ⟨M, hM, _, _, hb⟩ := h2 rfl
    rw [List.take_of_length_le (by rw [hl.out]; exact Nat.le_refl _)] at hM
    have ev := Lib.hid (show poolB v = true by unfold poolB; rw [hp1, hl.out, hM]; simp; omega)
    clear h1 h2 hcon
    go_wp2_with fail
    go_ret
    exact ⟨ret_bool ev.out.symm, hb⟩
  · obtain ⟨hM, hb⟩ := h1 rfl
    have ev := Lib.hid (show poolB v = false by unfold poolB; rw [hM]; simp)
    clear h1 h2 hcon
    go_wp2_with fail
    go_ret
    exact ⟨ret_bool ev.out.symm, hb⟩
set_option maxRecDepth 100000 in
set_option maxHeartbeats 4000000 in
theorem pools1_any (w : World) (v : VipV) (h : vipK.ok w (fun b => b < w.heap.size) v) (hbig : v.n ≤ 1000000) : Calls Tryz.prog 88 #[.agg #[.int .u32 v.ad, .int .i64 v.pct, .slice v.A v.n v.c]] w fun e w' => e = .returned (.bool (!poolB v)) ∧ Below w.heap.size w w' := by
  have hB := (Below.refl w.heap.size w).alloc (Nat.le_refl _) (.cells #[.int .u32 v.ad, .int .i64 v.pct, .slice v.A v.n v.c] 53)
  have hq := Blk.new w 53 #[.int .u32 v.ad, .int .i64 v.pct, .slice v.A v.n v.c]
  have h1 : vipK.ok (w.alloc (.cells #[.int .u32 v.ad, .int .i64 v.pct, .slice v.A v.n v.c] 53)) (fun b => b < (w.alloc (.cells #[.int .u32 v.ad, .int .i64 v.pct, .slice v.A v.n v.c] 53)).heap.size) v := vipK.more (vipK.keep h fun p hp => hB.cell hp) fun b hb => Nat.lt_of_lt_of_le hb hB.size
  go_enter Tryz.func88, Tryz.ntmps88
  go_upto_region 1 with (fail)
  generalize w.alloc (.cells #[.int .u32 v.ad, .int .i64 v.pct, .slice v.A v.n v.c] 53) = w1 at *
  have q0 : w1.cell? ⟨w.heap.size, 0, none⟩ = some (.int .u32 v.ad) := hq.cellv 0 rfl
  have q1 : w1.cell? ⟨w.heap.size, 1, none⟩ = some (.int .i64 v.pct) := hq.cellv 1 rfl
  have q2 : w1.cell? ⟨w.heap.size, 2, none⟩ = some (.slice v.A v.n v.c) := hq.cellv 2 rfl
  have ql := hq.lt
  go_wp2_with fail
  refine (vipPool_any w1 v h1 hbig).mono ?_
  rintro e w2 ⟨rfl, hb⟩
  go_wp2_with fail
  go_ret
  exact ⟨rfl, hB.trans (hb.mono hB.size)⟩
/-- not greater than is looked at. -/
structure CfgSm (c : CfgV) : Prop where
  p : c.pn ≤ 300
  v : c.vn ≤ 300
  s : c.sn ≤ 300
  b : ∀ x ∈ c.V, x.n ≤ 300
set_option maxRecDepth 100000 in
set_option maxHeartbeats 4000000 in
theorem poolsC_any (w : World) (c : CfgV) (h : CfgIn w c) (hs : CfgSm c) : Calls Tryz.prog 59 #[.agg (cfgC c)] w fun e w' => e = .returned (.bool (poolsB c)) ∧ Below w.heap.size w w' := by
  have hB := (Below.refl w.heap.size w).alloc (Nat.le_refl _) (.cells (cfgC c) 29)
  have hq := Blk.new w 29 (cfgC c)
  have hVl := Lib.hid h.vips.1
  go_enter Tryz.func59, Tryz.ntmps59
  go_upto_region 1 with (fail)
  generalize w.alloc (.cells (cfgC c) 29) = w1 at *
  have q4 : w1.cell? ⟨w.heap.size, 4, none⟩ = some (.slice c.vA c.vn c.vc) := hq.cellv 4 rfl
  have ql := hq.lt
  have hcon := contains_vip w1 c.vA c.vn c.vc c.V
    (fun k wr => (∀ j a, j < k → c.V[j]? = some a → poolB a = true) ∧ Below w.heap.size w wr)
    (fun wr => poolsB c = false ∧ Below w.heap.size w wr) (by have := hs.v; omega) h.vips.1
    (fun k wr hI => seen_nx h.vips hI.2)
    ⟨fun j a hj => absurd hj (by omega), hB⟩
    (fun k a wr hI ha => by
      obtain ⟨hall, hb⟩ := hI
      have hS := seen_nx h.vips hb
      refine (pools1_any wr a (hS.2.1 a (List.mem_of_getElem? ha)) (by have := hs.b a (List.mem_of_getElem? ha); omega)).mono ?_
      rintro e w' ⟨rfl, hb2⟩
      have hb' := hb.trans (hb2.mono hb.size)
      refine ⟨_, rfl, fun hr => ⟨?_, hb'⟩, fun hr => ⟨fun j x hj hx => ?_, hb'⟩⟩
      · unfold poolsB
        exact all_no ha (by simpa using hr)
      · by_cases hjk : j < k
        · exact hall j x hjk hx
        · obtain rfl : j = k := by omega
          rw [ha] at hx; injection hx with hx; subst hx
          simpa using hr)
  go_wp2_with fail
  refine hcon.mono ?_
  rintro e w4 ⟨r, rfl, h1, h2⟩
  cases r
  · obtain ⟨hall, hb⟩ := h2 rfl
    have ev := Lib.hid (show poolsB c = true from all_yes fun j a ha => hall j a (by have := (List.getElem?_eq_some_iff.1 ha).1; have := hVl.out; omega) ha)
    clear h1 h2 hcon hall
    go_wp2_with fail
    go_ret
    exact ⟨ret_bool ev.out.symm, hb⟩
  · obtain ⟨hM, hb⟩ := h1 rfl
    replace hM := Lib.hid hM
    clear h1 h2 hcon
    go_wp2_with fail
    go_ret
    exact ⟨ret_bool hM.out.symm, hb⟩
end Go.Proofs.YtecmhakapomepaaGreat

/- config: the document's part 4. -/
namespace Go.Proofs.YtecmhakapomepaaGreat
set_option linter.unusedVariables false
open Go Go.RowKit Go.Maps

theorem rAddS (w : World) (X : Nat → Prop) (g : Nat) (pc : Int) (L : List Mem) (id ad wt : Int) (h : RefIn w X g pc L) (hn : L.length ≤ 16) (hX : ∀ b, w.heap.size ≤ b → X b) :
    Calls Tryz.prog 109 #[.pointer (some ⟨g, 0, none⟩), .agg #[.int .i64 id, .int .u32 ad, .int .i64 wt]] w fun e w' => e = .returned (.int .i64 (addR L id ad wt).1) ∧ RefIn w' X g pc (addR L id ad wt).2 ∧ w.grownBy w' (some g) := by
  by_cases hok : addOk id ad wt = false
  · exact refAddBad w X g pc L id ad wt h hok
  · exact refAddOk w X g pc L id ad wt h (by simpa using hok) hn hX
theorem rel_nil : Rel [] [] := ⟨List.Perm.refl _, List.Pairwise.nil, by simp, fun m h => by cases h⟩
set_option maxRecDepth 100000 in
set_option maxHeartbeats 4000000 in
theorem refPools_any (w : World) (c : CfgV) (h : CfgIn w c) (hs : CfgSm c) : Calls Tryz.prog 74 #[.agg (cfgC c)] w fun e w' => e = .returned (.bool (poolsB c)) ∧ Below w.heap.size w w' := by
  have hB := (Below.refl w.heap.size w).alloc (Nat.le_refl _) (.cells (cfgC c) 41)
  have hq := Blk.new w 41 (cfgC c)
  have hVl := Lib.hid h.vips.1
  obtain ⟨A, hA⟩ : ∃ A, A = c.vA := ⟨_, rfl⟩
  have hSv := h.vips
  rw [← hA] at hSv
  go_enter Tryz.func74, Tryz.ntmps74
  go_upto_region 1 with (fail)
  generalize w.alloc (.cells (cfgC c) 41) = w1 at *
  have q4 : w1.cell? ⟨w.heap.size, 4, none⟩ = some (.slice A c.vn c.vc) := by rw [hA]; exact hq.cellv 4 rfl
  have ql := hq.lt
  replace hA := Lib.hid hA
  go_upto_region 2 with (fail)
  clear q4 ql
  go_loopw [11] (fun i wr => ∃ k : Nat, k ≤ c.vn ∧ i = .int .i64 (k : Int) ∧ (∀ j a, j < k → c.V[j]? = some a → poolB a = true) ∧ Below w.heap.size w wr) (fun i _ => c.vn - (intOf i).toNat)
  case atStart => exact ⟨0, Nat.zero_le _, rfl, fun j a hj => absurd hj (by omega), hB⟩
  case round =>
  clear hq hB
  obtain ⟨k, hk, rfl, hall, hB⟩ := hrel
  replace hall := Lib.hid hall
  by_cases hlt : k < c.vn
  · have hki : (k : Int) < c.vn := by omega
    have hk0 : (0 : Int) ≤ k := by omega
    have hk40 : (k : Int) ≤ 300 := by have := hs.v; omega
    obtain ⟨b, off, v, e1, hb, hv, hok, r0, r1, r2⟩ := vip_cells (seen_nx hSv hB) hlt
    subst e1
    have hno : poolB v = false → poolsB c = false := fun hf => all_no hv hf
    have hyes : poolB v = true → ∀ j a, j < k + 1 → c.V[j]? = some a → poolB a = true := fun ht j a hj ha => by
      by_cases hjk : j < k
      · exact hall.out j a hjk ha
      · obtain rfl : j = k := by omega
        rw [hv] at ha; injection ha with ha; subst ha
        exact ht
    have hsm := hs.b v (List.mem_of_getElem? hv)
    obtain ⟨vad, vpct, vA, vn, vc, vL⟩ := v
    dsimp only at r0 r1 r2 hsm
    obtain ⟨hUv, -, hvc, -, hS5⟩ := hok
    dsimp only at hUv hvc hS5
    have hl5 := Lib.hid hS5.1
    have hbx := (Below.refl wr.heap.size wr).alloc (Nat.le_refl _) (.cells #[.int .u32 vad, .int .i64 vpct, .slice vA vn vc] 81)
    have h5 := Blk.new wr 81 #[.int .u32 vad, .int .i64 vpct, .slice vA vn vc]
    have hS6 := seen_nx hS5 hbx
    replace hB := hB.trans (hbx.mono hB.size)
    go_upto_region 4 with (fail)
    generalize wr.alloc (.cells #[.int .u32 vad, .int .i64 vpct, .slice vA vn vc] 81) = w3 at *
    generalize wr.heap.size = g5 at *
    have s1 : w3.cell? ⟨g5, 1, none⟩ = some (.int .i64 vpct) := h5.cellv 1 rfl
    have sl := h5.lt
    have hg5 := h5.lt
    clear r0 r1 r2 hbx hb hS5
    by_cases hp : vpct < 1 ∨ 100 < vpct
    · have ev := Lib.hid (hno (by unfold poolB rngB; rcases hp with hp | hp <;> simp <;> intros <;> omega))
      clear hno hyes
      go_wp2_with fail
      refine (refNewNo25 w3 vpct hp).mono ?_
      rintro e w4 ⟨rfl, rfl⟩
      go_wp2_with fail
      go_ret
      exact ⟨ret_bool ev.out.symm, hB⟩
    have hp1 : rngB 1 100 vpct = true := by unfold rngB; simp; omega
    replace hp1 := Lib.hid hp1
    go_wp2_with fail
    refine (refNew25 w3 (fun b => w3.heap.size ≤ b) vpct (by omega) (by omega)).mono ?_
    rintro e w4 ⟨rfl, hR, hb⟩
    replace h5 := h5.below hb h5.lt
    have hS4 := hS6.below hb fun b h => h
    clear hS6
    have hz3 := hB.size
    have hgz : w3.heap.size < w4.heap.size := hR.lt
    replace hB := hB.trans (hb.mono hB.size)
    clear s1 sl hp
    have s2 : w4.cell? ⟨g5, 2, none⟩ = some (.slice vA vn vc) := h5.cellv 2 rfl
    have sl := h5.lt
    by_cases hn1 : vn < 1
    · have ev := Lib.hid (hno (by unfold poolB; rw [hl5.out]; have : decide (1 ≤ vn) = false := by simp; omega
                                  rw [this]; simp))
      have d0 : decide ((vn : Int) < 1) = true := by simp; omega
      have hn9 := Lib.hid (show vn = 0 by omega)
      clear hno hyes hn1
      go_wp2_with fail
      go_ret
      exact ⟨ret_bool ev.out.symm, hB⟩
    have d0 : decide ((vn : Int) < 1) = false := by simp; omega
    by_cases hn16 : 16 < vn
    · have ev := Lib.hid (hno (by
        unfold poolB
        cases ha : addsM [] vL with
        | none => simp
        | some M' =>
          have := addsM_len vL [] M' ha (by simp)
          have := hl5.out
          simp at *
          omega))
      have d1 : decide ((16 : Int) < vn) = true := by simp; omega
      clear hno hyes
      go_wp2_with fail
      go_ret
      exact ⟨ret_bool ev.out.symm, hB⟩
    have d1 : decide ((16 : Int) < vn) = false := by simp; omega
    generalize hgp : w3.heap.size = gp at *
    clear hgp
    go_upto_region 8 with (fail)
    clear s2 sl d0 d1
    go_loopw [35] (fun i wr => ∃ (j : Nat) (M L : List Mem), j ≤ vn ∧ i = .int .i64 (j : Int) ∧ addsM [] (vL.take j) = some M ∧ Rel M L ∧ RefIn wr (fun b => gp ≤ b) gp vpct L ∧ Below w.heap.size w wr ∧ w4.heap.size ≤ wr.heap.size ∧ Seen bndK wr (fun b => b < gp) vA vn vL) (fun i _ => vn - (intOf i).toNat)
    case atStart => exact ⟨0, [], [], Nat.zero_le _, rfl, rfl, rel_nil, hR, hB, Nat.le_refl _, hS4⟩
    case round =>
    clear hR hB
    obtain ⟨j, M, L, hj, rfl, hM, hRel, hR, hB, hzw, hS⟩ := hrel
    by_cases hjn : j < vn
    · have hji : (j : Int) < vn := by omega
      have hj0 : (0 : Int) ≤ j := by omega
      obtain ⟨b2, off2, a, e2, hb2, ha, hok2, r0, r1, r2⟩ := bnd_cells hS hjn
      subst e2
      have hbx := (Below.refl wr.heap.size wr).alloc (Nat.le_refl _) (.cells #[.int .i64 a.id, .int .u32 a.ad, .int .i64 a.wt] 67)
      have h6 := Blk.new wr 67 #[.int .i64 a.id, .int .u32 a.ad, .int .i64 a.wt]
      have hzg : gp ≤ wr.heap.size := by omega
      have hS2 := (hS.below hbx fun b hb => Nat.lt_of_lt_of_le hb hzg)
      have hR2 := hR.nx hbx
      have hB2 := hB.trans (hbx.mono hB.size)
      have hz2 := hbx.size
      have hLl : L.length ≤ 16 := by have := hRel.2.2.1; have := hRel.1.length_eq; omega
      go_upto_region 10 with (fail)
      generalize wr.alloc (.cells #[.int .i64 a.id, .int .u32 a.ad, .int .i64 a.wt] 67) = w5 at *
      have t0 : w5.cell? ⟨wr.heap.size, 0, none⟩ = some (.int .i64 a.id) := h6.cellv 0 rfl
      have t1 : w5.cell? ⟨wr.heap.size, 1, none⟩ = some (.int .u32 a.ad) := h6.cellv 1 rfl
      have t2 : w5.cell? ⟨wr.heap.size, 2, none⟩ = some (.int .i64 a.wt) := h6.cellv 2 rfl
      have tl := h6.lt
      clear r0 r1 r2 hbx
      have hc := rAddS w5 (fun b => gp ≤ b) gp vpct L a.id a.ad a.wt hR2 hLl (fun b hb => by omega)
      obtain ⟨hr1, hr2⟩ := rel_add hRel a.id a.ad a.wt
      obtain ⟨k1, k2⟩ := addsM_take hM ha
      rw [hr1] at k1 k2
      generalize (addR L a.id a.ad a.wt).1 = rr at *
      generalize (addR L a.id a.ad a.wt).2 = L2 at *
      go_wp2_with fail
      refine hc.mono ?_
      rintro e w6 ⟨rfl, hR3, hg⟩
      have hB3 := hB2.trans (Below.of_grown (B := w.heap.size) hg hB2.size hz3)
      have hS3 := hS2.grown hg fun b hb => ⟨Nat.lt_of_lt_of_le hb (by omega), by intro e; injection e with e; omega⟩
      have hz6 := hg.size
      clear hc t0 t1 t2 tl hR2 hR
      by_cases hr0 : rr = 0
      · rw [if_pos hr0] at k1
        have d2 : (rr != 0) = false := by simpa using hr0
        replace hr0 := Lib.hid hr0
        go_wp2_with fail
        exact ⟨⟨j + 1, _, L2, by omega, by go_num, k1, hr2, hR3, hB3, by omega, hS3⟩, by simp [intOf]; omega⟩
      · have d2 : (rr != 0) = true := by simpa using hr0
        have ev := Lib.hid (hno (by unfold poolB; rw [k2 hr0]; simp))
        clear hno hyes k1 k2
        go_wp2_with fail
        go_ret
        exact ⟨ret_bool ev.out.symm, hB3⟩
    · obtain rfl : j = vn := by omega
      rw [List.take_of_length_le (by rw [hl5.out]; exact Nat.le_refl _)] at hM
      have hy := Lib.hid (hyes (by unfold poolB; rw [hp1.out, hl5.out, hM]; simp; omega))
      clear hno hyes
      go_wp2_with fail
      go_roundw
      case rel => exact ⟨k + 1, by omega, by go_num, hy.out, hB⟩
      all_goals (simp [intOf]; omega)
  · obtain rfl : k = c.vn := by omega
    have ev := Lib.hid (show poolsB c = true from all_yes fun j a ha => hall.out j a (by have := (List.getElem?_eq_some_iff.1 ha).1; have := hVl.out; omega) ha)
    go_wp2_with fail
    go_ret
    exact ⟨ret_bool ev.out.symm, hB⟩
end Go.Proofs.YtecmhakapomepaaGreat
