/- config: part 3, the document's part 3. -/
import Derived.Test.YtgdeecmhhbdjgaaCgF
import Derived.Test.YtgdeecmhhbdjgaaRowC
namespace Go.Proofs.Ytgdeecmhhbdjgaa
set_option linter.unusedVariables false
open Go Go.RowKit Go.Maps

theorem umap_und : Try.prog.underlying 94 = some (.map 22 4) := Try.underlying94
theorem u32_key : Keyed Try.prog 22 := int_keyed Try.underlying22
@[go_sem] theorem make_umap (w : World) : (Instr.makeMap 94 none).run Try.prog w = .ok (.map (some w.heap.size)) (w.alloc (.map #[] 0)) := rfl
theorem u32_lit (z : Int) (h : IsU z) : keyOf Try.prog 22 (.int .u32 z) = some (.int .u32 z) :=
  keyOf_int_mk Try.underlying22 (by simp only [Lit.wf, Bool.and_eq_true, decide_eq_true_eq]; exact ⟨h.1, h.2⟩)
theorem bool_zero (w : World) : (zeroValue 4).run Try.prog w = .ok (.bool false) w := by kernel_rfl
def metE (z : Int) : Value × Value := (.int .u32 z, .bool true)
theorem met_in {l : List Int} {z : Int} (h : l.contains z = true) : (Value.int .u32 z, Value.bool true) ∈ l.map metE := List.mem_map.2 ⟨z, by simpa using h, rfl⟩
theorem met_no {l : List Int} {z : Int} (h : l.contains z = false) : (Value.int .u32 z) ∉ (l.map metE).map Prod.fst := by
  rw [List.map_map]
  intro hm
  obtain ⟨x, h1, h2⟩ := List.mem_map.1 hm
  simp only [Function.comp, metE, Value.int.injEq] at h2
  rw [← Bool.not_eq_true] at h
  exact h (by simpa [← h2.2] using h1)
/-- the addresses that were met behind k of them. -/
def metL (c : CfgV) (k : Nat) : List Int := c.own :: (c.V.take k).map VipV.ad
theorem metL_succ {c : CfgV} {k : Nat} {v : VipV} (h : c.V[k]? = some v) : metL c (k + 1) = metL c k ++ [v.ad] := by
  unfold metL
  rw [List.take_add_one, h]
  simp
theorem vipAt_eq {c : CfgV} {k : Nat} {v : VipV} (h : c.V[k]? = some v) : vipAt c.own c.V k = (!(metL c k).contains v.ad && pl.hopV v.ad) := by
  unfold vipAt
  rw [h]
  rfl
set_option maxRecDepth 100000 in
set_option maxHeartbeats 8000000 in
theorem vipsC_any (w : World) (c : CfgV) (h : CfgIn w c) : Calls Try.prog 24 #[.agg (cfgC c)] w fun e w' => e = .returned (.bool (vipsB c)) ∧ Below w.heap.size w w' := by
  have hB := (Below.refl w.heap.size w).alloc (Nat.le_refl _) (.cells (cfgC c) 29)
  have hq := Blk.new w 29 (cfgC c)
  have hC := h.nx hB
  have hVl := Lib.hid h.vips.1
  have hvn := h.lens.2.1.1
  have hown := h.own_
  go_enter Try.func24, Try.ntmps24
  go_upto_region 1 with (fail)
  generalize w.alloc (.cells (cfgC c) 29) = w1 at *
  have q2 : w1.cell? ⟨w.heap.size, 2, none⟩ = some (.int .u32 c.own) := hq.cellv 2 rfl
  have ql := hq.lt
  obtain ⟨w2, hrun, hE, hg⟩ := (Ent.made (P := Try.prog) (K := 22) w1).put_new u32_key umap_und (u32_lit c.own hown) (by simp) (.bool true)
  have hB2 := (hB.alloc hB.size (.map #[] 0)).trans ((Below.of_grown (B := w1.heap.size) hg (by simp) (Nat.le_refl _)).mono hB.size)
  replace hq := (hq.alloc (.map #[] 0)).grown hg (by intro e; injection e with e; omega)
  clear hg hB
  replace hE : Ent Try.prog 22 w2 w1.heap.size ((metL c 0).map metE) := hE
  have hmb : w.heap.size < w1.heap.size := ql
  go_upto_region 2 with (fail)
  generalize w1.heap.size = mb at *
  clear q2 ql hrun
  have q4 : w2.cell? ⟨w.heap.size, 4, none⟩ = some (.slice c.vA c.vn c.vc) := hq.cellv 4 rfl
  have ql := hq.lt
  by_cases h16 : c.vn ≤ 16
  rotate_left
  · have k1 : (16 : Int) < c.vn := by omega
    go_wp2_with fail
    go_ret
    exact ⟨ret_bool (by unfold vipsB; rw [hVl.out]; simp; omega), hB2⟩
  have k1 : (c.vn : Int) ≤ 16 := by omega
  go_wp2_with fail
  clear q4 ql
  go_loopw [17] (fun i wr => ∃ k : Nat, k ≤ c.vn ∧ i = .int .i64 (k : Int) ∧ (∀ j, j < k → vipAt c.own c.V j = true) ∧ Ent Try.prog 22 wr mb ((metL c k).map metE) ∧ Blk wr w.heap.size 29 (cfgC c) ∧ Below w.heap.size w wr) (fun i _ => c.vn - (intOf i).toNat)
  case atStart => exact ⟨0, Nat.zero_le _, rfl, fun j hj => absurd hj (by omega), hE, hq, hB2⟩
  case round =>
  clear hE hq hB2 hC
  obtain ⟨k, hk, rfl, hall, hE, hq, hB⟩ := hrel
  replace hall := Lib.hid hall
  by_cases hlt : k < c.vn
  · have hki : (k : Int) < c.vn := by omega
    have hk0 : (0 : Int) ≤ k := by omega
    obtain ⟨b, off, v, e1, hb, hv, hok, r0, r1, r2⟩ := vip_cells (h.nx hB).vips hlt
    have hUv : IsU v.ad := hok.1
    have hlit := u32_lit v.ad hUv
    have hbx := (Below.refl wr.heap.size wr).alloc (Nat.le_refl _) (.cells #[.int .u32 v.ad, .int .i64 v.pct, .slice v.A v.n v.c] 60)
    have h5 := Blk.new wr 60 #[.int .u32 v.ad, .int .i64 v.pct, .slice v.A v.n v.c]
    replace hE := hE.below hbx hE.lt
    replace hq := hq.below hbx hq.lt
    replace hB := hB.trans (hbx.mono hB.size)
    have hno : vipAt c.own c.V k = false → vipsB c = false := fun hf => by
      unfold vipsB
      rw [range_no (by rw [hVl.out]; exact hlt) hf, Bool.and_false]
    have hyes : vipAt c.own c.V k = true → ∀ j, j < k + 1 → vipAt c.own c.V j = true := fun ht j hj => by
      by_cases hjk : j < k
      · exact hall.out j hjk
      · obtain rfl : j = k := by omega
        exact ht
    have hsu := Lib.hid (metL_succ hv)
    have hat := Lib.hid (vipAt_eq hv)
    go_upto_region 7 with (fail)
    generalize wr.alloc (.cells #[.int .u32 v.ad, .int .i64 v.pct, .slice v.A v.n v.c] 60) = w3 at *
    generalize wr.heap.size = g5 at *
    have s0 : w3.cell? ⟨g5, 0, none⟩ = some (.int .u32 v.ad) := h5.cellv 0 rfl
    have sl := h5.lt
    clear r0 r1 r2 hbx e1 hb
    cases hm : (metL c k).contains v.ad
    · have hlk := hE.miss0 u32_key umap_und bool_zero hlit (met_no hm)
      cases hh : pl.hopV v.ad
      · have hf := Lib.hid (hno (by rw [hat.out, hh, Bool.and_false]))
        clear hno hyes hm
        go_wp2_with (go_at_call 42; refine (pl.hop_any _ _ hUv.1 hUv.2).mono ?_; rintro e w' ⟨rfl, rfl⟩; rw [hh])
        go_ret
        exact ⟨ret_bool hf.out.symm, hB⟩
      · have hy := Lib.hid (hyes (by rw [hat.out, hm, hh]; rfl))
        clear hno hyes
        go_upto_region 9 with (go_at_call 42; refine (pl.hop_any _ _ hUv.1 hUv.2).mono ?_; rintro e w' ⟨rfl, rfl⟩; rw [hh])
        clear hlk
        go_wp2_with (refine wpList_put_new rfl hE u32_key umap_und (.tmp 31) (.tmp 33) (.const (.bool true)) rfl rfl rfl rfl hlit (met_no hm) ?_; intro w4 hE4 hg4)
        have hE5 : Ent Try.prog 22 w4 mb ((metL c (k + 1)).map metE) := by rw [hsu.out, List.map_append]; exact hE4
        have hq5 := hq.grown hg4 (by intro e; injection e with e; omega)
        have hB5 := hB.trans ((Below.of_grown (B := w.heap.size) hg4 hB.size (by omega)))
        exact ⟨⟨k + 1, by omega, by go_num, hy.out, hE5, hq5, hB5⟩, by simp [intOf]; omega⟩
    · have hlk := hE.hit0 u32_key umap_und hlit (met_in hm)
      have hf := Lib.hid (hno (by rw [hat.out, hm]; rfl))
      clear hno hyes hm
      go_wp2_with fail
      go_ret
      exact ⟨ret_bool hf.out.symm, hB⟩
  · obtain rfl : k = c.vn := by omega
    have q4 : wr.cell? ⟨w.heap.size, 4, none⟩ = some (.slice c.vA c.vn c.vc) := hq.cellv 4 rfl
    have ql := hq.lt
    have ev : vipsB c = decide ((0 : Int) < c.vn) := by
      unfold vipsB
      rw [hVl.out, range_yes hall.out]
      simp [h16]
      omega
    replace ev := Lib.hid ev
    go_wp2_with fail
    go_ret
    exact ⟨ret_bool (by rw [ev.out]; simp), hB⟩
theorem elem_rv : Try.prog.underlying 33 = some (.slice (Try.prog.elem 33)) := by kernel_rfl
theorem size_rv (w : World) : (sizeOf (Try.prog.elem 33)).run Try.prog w = .ok vipK.size w := by kernel_rfl
theorem vipAt_no {own : Int} {l : List VipV} {k j : Nat} {v u : VipV} (hv : l[k]? = some v) (hu : l[j]? = some u) (hj : j < k) (e : v.ad = u.ad) : vipAt own l k = false := by
  unfold vipAt
  rw [hv]
  have : ((own :: (l.take k).map VipV.ad).contains v.ad) = true := by
    rw [List.contains_iff_mem]
    refine List.mem_cons_of_mem _ (List.mem_map.2 ⟨u, ?_, e.symm⟩)
    refine List.mem_of_getElem? (i := j) ?_
    rw [List.getElem?_take, if_pos hj]
    exact hu
  simp only [this, Bool.not_true, Bool.false_and]
theorem vipAt_yes {own : Int} {l : List VipV} {k : Nat} {v : VipV} (hv : l[k]? = some v) (h0 : v.ad ≠ own) (hh : pl.hopV v.ad = true) (h : ∀ j u, j < k → l[j]? = some u → v.ad ≠ u.ad) : vipAt own l k = true := by
  unfold vipAt
  rw [hv]
  have : ((own :: (l.take k).map VipV.ad).contains v.ad) = false := by
    rw [← Bool.not_eq_true, List.contains_iff_mem]
    intro hm
    rcases List.mem_cons.1 hm with e | hm
    · exact h0 e
    · obtain ⟨u, hu, e⟩ := List.mem_map.1 hm
      obtain ⟨j, hj, rfl⟩ := List.getElem_of_mem hu
      have hjk : j < k := by rw [List.length_take] at hj; omega
      refine h j _ hjk ?_ e.symm
      rw [List.getElem_take]
      exact List.getElem?_eq_getElem _
  simp only [this, hh, Bool.not_false, Bool.true_and]
set_option maxRecDepth 100000 in
set_option maxHeartbeats 8000000 in
theorem refVips_any (w : World) (c : CfgV) (h : CfgIn w c) : Calls Try.prog 29 #[.agg (cfgC c)] w fun e w' => e = .returned (.bool (vipsB c)) ∧ Below w.heap.size w w' := by
  have hB := (Below.refl w.heap.size w).alloc (Nat.le_refl _) (.cells (cfgC c) 37)
  have hq := Blk.new w 37 (cfgC c)
  have hVl := Lib.hid h.vips.1
  have hvn := h.lens.2.1.1
  have hown := h.own_
  go_enter Try.func29, Try.ntmps29
  go_upto_region 1 with (fail)
  generalize w.alloc (.cells (cfgC c) 37) = w1 at *
  have q4 : w1.cell? ⟨w.heap.size, 4, none⟩ = some (.slice c.vA c.vn c.vc) := hq.cellv 4 rfl
  have ql := hq.lt
  by_cases h16 : 1 ≤ c.vn ∧ c.vn ≤ 16
  rotate_left
  · have ev := Lib.hid (show vipsB c = false by unfold vipsB; rw [hVl.out]; simp; omega)
    by_cases h1 : c.vn < 1
    · have k1 : decide ((c.vn : Int) < 1) = true := by simp; omega
      have k2 : c.vn = 0 := by omega
      replace k2 := Lib.hid k2
      go_upto_region 2 with (fail)
      go_wp2_with fail
      go_ret
      exact ⟨ret_bool ev.out.symm, hB⟩
    · have k1 : decide ((c.vn : Int) < 1) = false := by simp; omega
      have k2 : decide ((16 : Int) < c.vn) = true := by simp; omega
      go_wp2_with fail
      go_ret
      exact ⟨ret_bool ev.out.symm, hB⟩
  obtain ⟨h1, h16⟩ := h16
  obtain ⟨b, off, hA, -, -⟩ := h.vips.2.2 (by omega)
  rw [hA] at q4
  have k1 : decide ((c.vn : Int) < 1) = false := by simp; omega
  have k2 : decide ((16 : Int) < c.vn) = false := by simp; omega
  go_upto_region 4 with (fail)
  clear q4 ql k1 k2
  replace hA := hA
  go_loopw [20] (fun i wr => ∃ k : Nat, k ≤ c.vn ∧ i = .int .i64 (k : Int) ∧ (∀ j, j < k → vipAt c.own c.V j = true) ∧ Blk wr w.heap.size 37 (cfgC c) ∧ Below w.heap.size w wr) (fun i _ => c.vn - (intOf i).toNat)
  case atStart => exact ⟨0, Nat.zero_le _, rfl, fun j hj => absurd hj (by omega), hq, hB⟩
  case round =>
  clear hq hB
  obtain ⟨k, hk, rfl, hall, hq, hB⟩ := hrel
  replace hall := Lib.hid hall
  by_cases hlt : k < c.vn
  · have hki : (k : Int) < c.vn := by omega
    have hk0 : (0 : Int) ≤ k := by omega
    obtain ⟨b', off', v, e1, hb, hv, hok, r0, r1, r2⟩ := vip_cells (h.nx hB).vips hlt
    obtain ⟨rfl, rfl⟩ : b' = b ∧ off' = off := by rw [hA] at e1; injection e1 with e1; injection e1 with e1 e2; exact ⟨e1.symm, e2.symm⟩
    have hUv : IsU v.ad := hok.1
    have hbx := (Below.refl wr.heap.size wr).alloc (Nat.le_refl _) (.cells #[.int .u32 v.ad, .int .i64 v.pct, .slice v.A v.n v.c] 65)
    have h5 := Blk.new wr 65 #[.int .u32 v.ad, .int .i64 v.pct, .slice v.A v.n v.c]
    have hq0 := hq
    replace hq := hq.below hbx hq.lt
    replace hB := hB.trans (hbx.mono hB.size)
    have hno : vipAt c.own c.V k = false → vipsB c = false := fun hf => by
      unfold vipsB
      rw [range_no (by rw [hVl.out]; exact hlt) hf, Bool.and_false]
    have hyes : vipAt c.own c.V k = true → ∀ j, j < k + 1 → vipAt c.own c.V j = true := fun ht j hj => by
      by_cases hjk : j < k
      · exact hall.out j hjk
      · obtain rfl : j = k := by omega
        exact ht
    have hv9 := Lib.hid hv
    go_upto_region 6 with (fail)
    generalize wr.alloc (.cells #[.int .u32 v.ad, .int .i64 v.pct, .slice v.A v.n v.c] 65) = w3 at *
    generalize wr.heap.size = g5 at *
    have s0 : w3.cell? ⟨g5, 0, none⟩ = some (.int .u32 v.ad) := h5.cellv 0 rfl
    have sl := h5.lt
    have q2 : w3.cell? ⟨w.heap.size, 2, none⟩ = some (.int .u32 c.own) := hq.cellv 2 rfl
    have ql := hq.lt
    clear r0 r1 r2 hbx hb hq0 hv
    by_cases ho : v.ad = c.own
    · have d1 : (v.ad == c.own) = true := by simpa using ho
      have hf := Lib.hid (hno (by unfold vipAt; rw [hv9.out]; simp [ho]))
      clear hno hyes ho
      go_wp2_with fail
      go_ret
      exact ⟨ret_bool hf.out.symm, hB⟩
    have d1 : (v.ad == c.own) = false := by simpa using ho
    cases hh : pl.hopV v.ad
    · have hf := Lib.hid (hno (by unfold vipAt; rw [hv9.out]; simp [hh]))
      clear hno hyes
      go_wp2_with (go_at_call 55; refine (pl.refHop_any _ _ hUv.1 hUv.2).mono ?_; rintro e w' ⟨rfl, rfl⟩; rw [hh])
      go_ret
      exact ⟨ret_bool hf.out.symm, hB⟩
    replace ho := Lib.hid ho
    replace hh := Lib.hid hh
    go_upto_region 8 with (go_at_call 55; refine (pl.refHop_any _ _ hUv.1 hUv.2).mono ?_; rintro e w' ⟨rfl, rfl⟩; rw [hh.out])
    have q4 : w3.cell? ⟨w.heap.size, 4, none⟩ = some (.slice (some ⟨b', off', none⟩) c.vn c.vc) := by rw [← hA]; exact hq.cellv 4 rfl
    obtain ⟨A1, hs1, hr1⟩ := row_take elem_rv size_rv (some ⟨b', off', none⟩) c.vn c.vc k hk hvn
    have hS1 := hr1 _ _ _ (by have q := (h.nx hB).vips; rw [hA] at q; exact q)
    clear hr1 q2
    go_wp2_with fail
    clear s0 sl q4 ql e1 hs1
    go_loopw [41] (fun i wr => ∃ j : Nat, j ≤ k ∧ i = .int .i64 (j : Int) ∧ (∀ j' u, j' < j → c.V[j']? = some u → v.ad ≠ u.ad) ∧ Blk wr w.heap.size 37 (cfgC c) ∧ Blk wr g5 65 #[.int .u32 v.ad, .int .i64 v.pct, .slice v.A v.n v.c] ∧ Below w3.heap.size w3 wr) (fun i _ => k - (intOf i).toNat)
    case atStart => exact ⟨0, Nat.zero_le _, rfl, fun j' u hj => absurd hj (by omega), hq, h5, Below.refl _ _⟩
    case round =>
    clear hq h5
    obtain ⟨j, hjk, rfl, hne, hq, h5, hb3⟩ := hrel
    replace hne := Lib.hid hne
    by_cases hj : j < k
    · have hji : (j : Int) < k := by omega
      have hj0 : (0 : Int) ≤ j := by omega
      obtain ⟨b, off, u, e1, hb, hu, huk, r0, r1, r2⟩ := vip_cells (seen_nx hS1 hb3) hj
      rw [List.getElem?_take, if_pos hj] at hu
      have hu9 := Lib.hid hu
      have hbx := (Below.refl wr.heap.size wr).alloc (Nat.le_refl _) (.cells #[.int .u32 u.ad, .int .i64 u.pct, .slice u.A u.n u.c] 65)
      have h6 := Blk.new wr 65 #[.int .u32 u.ad, .int .i64 u.pct, .slice u.A u.n u.c]
      replace hq := hq.below hbx hq.lt
      replace h5 := h5.below hbx h5.lt
      replace hb3 := hb3.trans (hbx.mono hb3.size)
      clear hu
      go_upto_region 11 with (fail)
      generalize wr.alloc (.cells #[.int .u32 u.ad, .int .i64 u.pct, .slice u.A u.n u.c] 65) = w4 at *
      generalize wr.heap.size = g6 at *
      have s0 : w4.cell? ⟨g5, 0, none⟩ = some (.int .u32 v.ad) := h5.cellv 0 rfl
      have t0 : w4.cell? ⟨g6, 0, none⟩ = some (.int .u32 u.ad) := h6.cellv 0 rfl
      have sl := h5.lt
      have tl := h6.lt
      clear r0 r1 r2 hbx hb
      by_cases he : v.ad = u.ad
      · have d2 : (v.ad == u.ad) = true := by simpa using he
        have hf := Lib.hid (hno (vipAt_no hv9.out hu9.out hj he))
        clear hno hyes he
        go_wp2_with fail
        go_ret
        exact ⟨ret_bool hf.out.symm, hB.trans (hb3.mono hB.size)⟩
      · have d2 : (v.ad == u.ad) = false := by simpa using he
        have hne2 : ∀ j' u, j' < j + 1 → c.V[j']? = some u → v.ad ≠ u.ad := fun j' u' hj' hu' => by
          by_cases hjj : j' < j
          · exact hne.out j' u' hjj hu'
          · obtain rfl : j' = j := by omega
            rw [hu9.out] at hu'
            injection hu' with hu'
            subst hu'
            exact he
        replace hne2 := Lib.hid hne2
        clear he
        go_wp2_with fail
        exact ⟨⟨j + 1, by omega, by go_num, hne2.out, hq, h5, hb3⟩, by simp [intOf]; omega⟩
    · obtain rfl : j = k := by omega
      have hy := Lib.hid (hyes (vipAt_yes hv9.out ho.out hh.out hne.out))
      clear hno hyes
      go_wp2_with fail
      go_roundw
      case rel => exact ⟨j + 1, by omega, by go_num, hy.out, hq, hB.trans (hb3.mono hB.size)⟩
      all_goals (simp [intOf]; omega)
  · obtain rfl : k = c.vn := by omega
    have ev := Lib.hid (show vipsB c = true by unfold vipsB; rw [hVl.out, range_yes hall.out]; simp [h1, h16])
    go_wp2_with fail
    go_ret
    exact ⟨ret_bool ev.out.symm, hB⟩
end Go.Proofs.Ytgdeecmhhbdjgaa
