/- timer: Tick, the walk. -/
import Derived.Test.YtejgekoinbdhjaaTiM
namespace Go.Proofs.Ytejgekoinbdhjaa
set_option linter.unusedVariables false
open Go Go.RowKit Go.Maps

theorem TabV.now {w : World} {g b : Nat} {mo no co : Int} {v : Value} {A H : List Slo} (h : TabV w g b mo no co v A H) (z : Int) :
    TabV (w.setCell ⟨g, 1, none⟩ (.int .i64 z)) g b mo z co v A H ∧ w.grownBy (w.setCell ⟨g, 1, none⟩ (.int .i64 z)) (some g) := by
  obtain ⟨h1, h2⟩ := blk_store h.blk 1 (.int .i64 z)
  refine ⟨⟨h1, h.ent.grown h2 (fun e => h.ne (by injection e with e; exact e.symm)), ?_, h.ng, h.nb⟩, h2⟩
  exact ⟨h.row.1.kept h2 (by
    by_cases hv : v.ownBlock = none
    · exact .inl hv
    · exact .inr h.ng), fun _ _ => trivial⟩
theorem row_chg {w w' : World} {X : Nat → Prop} {lo base : Nat} {et : TypeId} {v : Value} {l : List Int} (h : Rows intK w lo base et v l) (hc : Chg w w' X) (hv : ∀ k, v.ownBlock = some k → ¬ X k) : Rows intK w' lo base et v l := ⟨hc.own h.1 hv, fun a ha => h.2 a ha⟩
theorem pop_chg {w7 wa wb w8 : World} {r g : Nat} (k1 : w7.grownBy wa (some r)) (k2 : wa.grownBy wb (some g)) (k3 : wb.grownBy w8 (some r)) : Chg w7 w8 (fun k => k = g ∨ k = r) :=
  ((Chg.of_grown (X := fun k => k = g ∨ k = r) k1 (.inr rfl)).trans (Chg.of_grown (X := fun k => k = g) k2 rfl) (fun i hi q => .inl q)).trans (Chg.of_grown (X := fun k => k = r) k3 rfl) (fun _ _ h => .inr h)
theorem asc_len : ∀ (M : List Slo) (lo hi : Int), lo ≤ hi → (M.Pairwise fun a b => a.od < b.od) → (∀ s ∈ M, lo < s.od ∧ s.od ≤ hi) → (M.length : Int) ≤ hi - lo
  | [], lo, hi, h, _, _ => by simp; omega
  | a :: M, lo, hi, h, hp, hb => by
    have h1 := hb a (by simp)
    have h2 := asc_len M a.od hi h1.2 (List.pairwise_cons.1 hp).2 fun s hs => ⟨(List.pairwise_cons.1 hp).1 s hs, (hb s (by simp [hs])).2⟩
    rw [List.length_cons]
    omega
theorem GoodT.fewM {mo no co : Int} {M A H : List Slo} (h : GoodT mo no co M A H) : (M.length : Int) ≤ co := by
  have := asc_len M 0 co h.hco h.asc fun s hs => by
    have := h.rng s (h.held.2 s (h.perm.mem_iff.2 hs))
    unfold SloIn at this
    omega
  omega
set_option maxRecDepth 100000 in
set_option maxHeartbeats 8000000 in
theorem tickV (w : World) (g b : Nat) (mo no co : Int) (v : Value) (M A H : List Slo) (h : TabV w g b mo no co v A H) (hG : GoodT mo no co M A H) (h0 : 0 ≤ no) (hno : no < 1099511627776) (hco : co ≤ 1000000) :
    Calls Try.prog 55 #[.pointer (some ⟨g, 0, none⟩)] w fun e w' => ∃ lv v' A' H', e = .returned lv ∧ Rows intK w' w.heap.size w.heap.size 3 lv ((M.filter (isAt (no + 1))).map Slo.id) ∧ TabV w' g b mo (no + 1) co v' A' H' ∧ GoodT mo (no + 1) co (M.filter (notAt (no + 1))) A' H' ∧ v'.ownBlock = v.ownBlock ∧ Chg w w' (fun k => k = g ∨ k = b ∨ v.ownBlock = some k) := by
  have c1 : w.cell? ⟨g, 1, none⟩ = some (.int .i64 no) := h.blk.cellv 1 rfl
  have f1 := h.blk.frozen 1
  have ltg := h.ltg
  have kw : IntKind.i64.wrap (no + 1) = no + 1 := IntWalk.i64_in _ (by omega)
  have d1 : decide (1099511627776 ≤ no) = false := by simp; omega
  obtain ⟨hT1, hg1⟩ := h.now (no + 1)
  have hC1 : Chg w (w.setCell ⟨g, 1, none⟩ (.int .i64 (no + 1))) (fun k => k = g ∨ k = b ∨ v.ownBlock = some k) := Chg.of_grown hg1 (.inl rfl)
  have hok : ∀ s ∈ H, SloOk s := fun s hs => by have := hG.rng s hs; have := hG.hmo; unfold SloIn at *; unfold SloOk; omega
  have hHl : H.length ≤ 1000000 := by have := hG.hmo; have := hG.few; omega
  have hmo := hG.hmo
  replace hT1 := Lib.hid hT1
  replace hC1 := Lib.hid hC1
  clear hg1
  go_enter Try.func55, Try.ntmps55
  go_upto_region 4 with (go_at_call 134; refine (madeT_in h).mono ?_; rintro e w' ⟨rfl, rfl⟩)
  replace hT1 := hT1.out
  replace hC1 := hC1.out
  have hz1 := hC1.size
  have hbl0 := h.row.1.lt
  have ltg0 := h.ltg
  have ltb0 := h.ltb
  have hgb := h.ne
  have hfew := hG.fewM
  have hzl0 : (M.filter (isAt (no + 1))).length ≤ M.length := List.length_filter_le _ _
  clear c1 f1 ltg kw d1
  generalize w.setCell ⟨g, 1, none⟩ (.int .i64 (no + 1)) = w1 at *
  go_upto_region 5 with (fail)
  obtain ⟨hd, hhd⟩ : ∃ hd, hd = decide (0 < (freshL H.length A H).length) := ⟨_, rfl⟩
  obtain ⟨s, hs⟩ : ∃ s, s = atS (freshL H.length A H) 0 := ⟨_, rfl⟩
  have hI := TickI.start hG
  have hR : ∀ s ∈ M.filter (notAt (no + 1)), no + 1 < s.ex := fun s hs => by
    obtain ⟨h1, h2⟩ := List.mem_filter.1 hs
    have := hG.late s h1
    unfold notAt isAt at h2
    simp at h2
    omega
  have hids : A.Pairwise fun a b => a.id ≠ b.id := (hG.perm.pairwise_iff fun hab => Ne.symm hab).2 hG.ids
  replace hhd := Lib.hid hhd
  replace hs := Lib.hid hs
  go_wp2_with (go_at_call 137; refine (fresh_gen w1 g b mo (no + 1) co v A H hT1 hok hHl).mono ?_; rintro e w2 ⟨v2, rfl, hT2, hv2, hC2⟩; rw [headV_eq, ← hhd.out, ← hs.out])
  replace hC2 : Chg w w2 (fun k => k = g ∨ k = b ∨ v.ownBlock = some k) := hC1.trans hC2 (fun i _ q => q.elim .inl fun q => .inr (.inr q))
  have hz2 := hC2.size
  have hlv := Rows.nil (R := intK) w2 w.heap.size w.heap.size 3
  have hb3 := (Below.refl w2.heap.size w2).alloc (Nat.le_refl _) (.cells #[.int .i64 (s).id, .int .i64 (s).ex, .int .i64 (s).od] 198)
  have hx := Blk.new w2 198 #[.int .i64 (s).id, .int .i64 (s).ex, .int .i64 (s).od]
  have hT3 := hT2.alloc (.cells #[.int .i64 (s).id, .int .i64 (s).ex, .int .i64 (s).od] 198)
  have hlv3 := hlv.alloc (.cells #[.int .i64 (s).id, .int .i64 (s).ex, .int .i64 (s).od] 198)
  have hC3 := hC2.trans (Chg.of_below (X := fun _ => False) hb3) (fun _ _ q => q.elim)
  clear hlv hb3 hT2 hC2 hC1 hT1 h
  generalize w2.alloc (.cells #[.int .i64 (s).id, .int .i64 (s).ex, .int .i64 (s).od] 198) = w3 at *
  go_loopg [3, 4, 5] A.length (fun gf lv pv ov wr => ∃ (sb : Nat) (hd : Bool) (s : Slo) (A' H' F' : List Slo) (v' : Value) (zs : List Int), pv = .pointer (some ⟨sb, 0, none⟩) ∧ ov = .bool hd ∧ Blk wr sb 198 #[.int .i64 (s).id, .int .i64 (s).ex, .int .i64 (s).od] ∧ hd = decide (0 < H'.length) ∧ s = atS H' 0 ∧ TabV wr g b mo (no + 1) co v' A' H' ∧ v'.ownBlock = v.ownBlock ∧ Rows intK wr w.heap.size w.heap.size 3 lv zs ∧ w.heap.size ≤ sb ∧ TickI mo co (no + 1) (M.filter (notAt (no + 1))) ((M.filter (isAt (no + 1))).map Slo.id) H.length A' H' F' zs ∧ (A'.Pairwise fun a b => a.id ≠ b.id) ∧ A'.length ≤ gf ∧ Chg w wr (fun k => k = g ∨ k = b ∨ v.ownBlock = some k))
  case atStart => exact ⟨w2.heap.size, hd, s, A, _, _, v2, [], rfl, rfl, hx, hhd.out, hs.out, hT3, hv2, hlv3, hz2, hI, hids, Nat.le_refl _, hC3⟩
  case round =>
  clear hx hT3 hv2 hlv3 hI hids hC3 hhd hs
  obtain ⟨sb, hd, s, A', H', F', v', zs, rfl, rfl, hx, hhd, hs, hT, hv', hlv, hsb, hI, hids, hgf, hC⟩ := hrel
  have p0 : wr.cell? ⟨sb, 0, none⟩ = some (.int .i64 s.id) := hx.cellv 0 rfl
  have p1 : wr.cell? ⟨sb, 1, none⟩ = some (.int .i64 s.ex) := hx.cellv 1 rfl
  have c1 : wr.cell? ⟨g, 1, none⟩ = some (.int .i64 (no + 1)) := hT.blk.cellv 1 rfl
  have ltg := hT.ltg
  have ltx := hx.lt
  have hzr := hC.size
  by_cases hgo : 0 < H'.length ∧ (atS H' 0).ex = no + 1
  rotate_left
  · have hF := hI.done hR hgo
    subst hF
    obtain ⟨hzs, hG2⟩ := hG.ticked hI
    replace hzs := Lib.hid hzs
    have hlv2 := hlv.drew
    have hT2 := hT.nx (Below.refl _ _).drew
    have hC2 := hC.trans (Chg.of_below (X := fun _ => False) (Below.refl wr.heap.size wr).drew) (fun _ _ q => q.elim)
    by_cases hlen : 0 < H'.length
    · have hd1 : hd = true := by rw [hhd]; simpa using hlen
      have he : (s.ex == no + 1) = false := by rw [beq_eq_false_iff_ne, hs]; exact fun q => hgo ⟨hlen, q⟩
      subst hd1
      clear hhd hs hlen hgo
      go_wp2_with fail
      -- region 6: 0 1 2 3 4 5 6 7 8 9 10
      try refine wp_region_noPanic ?_
      have hs1r : Below wr.heap.size wr wr.drew := (Below.refl _ _).drew
      refine wp_region_held_drew (S := fun w' => Below wr.heap.size wr w') (by kernel_rfl) hs1r (fun _ => ?_)
      (refine held_takeA 0 (by rfl) ?_ (by kernel_rfl) (fun _ _ _ h => h) hs1r ?_ ?_; rotate_left; (focus (intro wq hSw; have hrd : ∀ b o, b < wr.heap.size → wq.cell? ⟨b, o, none⟩ = wr.cell? ⟨b, o, none⟩ := (fun b o h => hSw.cell (p := ⟨b, o, none⟩) h); go_simp; try with_reducible rfl; done)); try simp only [Act.put, List.setIfInBounds_toArray, List.set_cons_zero, List.set_cons_succ])
      (refine held_takeA 1 (by rfl) ?_ (by kernel_rfl) (fun _ _ _ h => h) hs1r ?_ ?_; rotate_left; (focus (intro wq hSw; have hrd : ∀ b o, b < wr.heap.size → wq.cell? ⟨b, o, none⟩ = wr.cell? ⟨b, o, none⟩ := (fun b o h => hSw.cell (p := ⟨b, o, none⟩) h); go_simp; try with_reducible rfl; done)); try simp only [Act.put, List.setIfInBounds_toArray, List.set_cons_zero, List.set_cons_succ])
      (refine held_takeA 2 (by rfl) ?_ (by kernel_rfl) (fun _ _ _ h => h) hs1r ?_ ?_; rotate_left; (focus (intro wq hSw; have hrd : ∀ b o, b < wr.heap.size → wq.cell? ⟨b, o, none⟩ = wr.cell? ⟨b, o, none⟩ := (fun b o h => hSw.cell (p := ⟨b, o, none⟩) h); go_simp; try with_reducible rfl; done)); try simp only [Act.put, List.setIfInBounds_toArray, List.set_cons_zero, List.set_cons_succ])
      (refine held_takeA 3 (by rfl) ?_ (by kernel_rfl) (fun _ _ _ h => h) hs1r ?_ ?_; rotate_left; (focus (intro wq hSw; have hrd : ∀ b o, b < wr.heap.size → wq.cell? ⟨b, o, none⟩ = wr.cell? ⟨b, o, none⟩ := (fun b o h => hSw.cell (p := ⟨b, o, none⟩) h); go_simp; try with_reducible rfl; done)); try simp only [Act.put, List.setIfInBounds_toArray, List.set_cons_zero, List.set_cons_succ])
      (refine held_takeA 4 (by rfl) ?_ (by kernel_rfl) (fun _ _ _ h => h) hs1r ?_ ?_; rotate_left; (focus (intro wq hSw; have hrd : ∀ b o, b < wr.heap.size → wq.cell? ⟨b, o, none⟩ = wr.cell? ⟨b, o, none⟩ := (fun b o h => hSw.cell (p := ⟨b, o, none⟩) h); go_simp; try with_reducible rfl; done)); try simp only [Act.put, List.setIfInBounds_toArray, List.set_cons_zero, List.set_cons_succ])
      (refine held_takeA 5 (by rfl) ?_ (by kernel_rfl) (fun _ _ _ h => h) hs1r ?_ ?_; rotate_left; (focus (intro wq hSw; have hrd : ∀ b o, b < wr.heap.size → wq.cell? ⟨b, o, none⟩ = wr.cell? ⟨b, o, none⟩ := (fun b o h => hSw.cell (p := ⟨b, o, none⟩) h); go_simp; try with_reducible rfl; done)); try simp only [Act.put, List.setIfInBounds_toArray, List.set_cons_zero, List.set_cons_succ])
      (refine held_takeA 6 (by rfl) ?_ (by kernel_rfl) (fun _ _ _ h => h) hs1r ?_ ?_; rotate_left; (focus (intro wq hSw; have hrd : ∀ b o, b < wr.heap.size → wq.cell? ⟨b, o, none⟩ = wr.cell? ⟨b, o, none⟩ := (fun b o h => hSw.cell (p := ⟨b, o, none⟩) h); go_simp; try with_reducible rfl; done)); try simp only [Act.put, List.setIfInBounds_toArray, List.set_cons_zero, List.set_cons_succ])
      (refine held_takeA 7 (by rfl) ?_ (by kernel_rfl) (fun _ _ _ h => h) hs1r ?_ ?_; rotate_left; (focus (intro wq hSw; have hrd : ∀ b o, b < wr.heap.size → wq.cell? ⟨b, o, none⟩ = wr.cell? ⟨b, o, none⟩ := (fun b o h => hSw.cell (p := ⟨b, o, none⟩) h); go_simp; try with_reducible rfl; done)); try simp only [Act.put, List.setIfInBounds_toArray, List.set_cons_zero, List.set_cons_succ])
      (refine held_takeA 8 (by rfl) ?_ (by kernel_rfl) (fun _ _ _ h => h) hs1r ?_ ?_; rotate_left; (focus (intro wq hSw; have hrd : ∀ b o, b < wr.heap.size → wq.cell? ⟨b, o, none⟩ = wr.cell? ⟨b, o, none⟩ := (fun b o h => hSw.cell (p := ⟨b, o, none⟩) h); go_simp; try with_reducible rfl; done)); try simp only [Act.put, List.setIfInBounds_toArray, List.set_cons_zero, List.set_cons_succ])
      (refine held_takeA 9 (by rfl) ?_ (by kernel_rfl) (fun _ _ _ h => h) hs1r ?_ ?_; rotate_left; (focus (intro wq hSw; have hrd : ∀ b o, b < wr.heap.size → wq.cell? ⟨b, o, none⟩ = wr.cell? ⟨b, o, none⟩ := (fun b o h => hSw.cell (p := ⟨b, o, none⟩) h); go_simp; try with_reducible rfl; done)); try simp only [Act.put, List.setIfInBounds_toArray, List.set_cons_zero, List.set_cons_succ])
      (refine held_takeA 10 (by rfl) ?_ (by kernel_rfl) (fun _ _ _ h => h) hs1r ?_ ?_; rotate_left; (focus (intro wq hSw; have hrd : ∀ b o, b < wr.heap.size → wq.cell? ⟨b, o, none⟩ = wr.cell? ⟨b, o, none⟩ := (fun b o h => hSw.cell (p := ⟨b, o, none⟩) h); go_simp; try with_reducible rfl; done)); try simp only [Act.put, List.setIfInBounds_toArray, List.set_cons_zero, List.set_cons_succ])
      refine wpAnyH_done (by kernel_rfl) ?_ _
      try refine NoPanic.normal ?_
      go_wp2_with fail
      go_ret
      rw [hzs.out] at hlv2
      exact ⟨_, v', A', H', rfl, hlv2, hT2, hG2, hv', hC2⟩
    · have hd1 : hd = false := by rw [hhd]; simpa using hlen
      subst hd1
      clear hhd hs hlen hgo
      go_wp2_with fail
      -- region 6: 0 1 2 3 4 5 6 7 8 9 10
      try refine wp_region_noPanic ?_
      have hs2r : Below wr.heap.size wr wr.drew := (Below.refl _ _).drew
      refine wp_region_held_drew (S := fun w' => Below wr.heap.size wr w') (by kernel_rfl) hs2r (fun _ => ?_)
      (refine held_takeA 0 (by rfl) ?_ (by kernel_rfl) (fun _ _ _ h => h) hs2r ?_ ?_; rotate_left; (focus (intro wq hSw; have hrd : ∀ b o, b < wr.heap.size → wq.cell? ⟨b, o, none⟩ = wr.cell? ⟨b, o, none⟩ := (fun b o h => hSw.cell (p := ⟨b, o, none⟩) h); go_simp; try with_reducible rfl; done)); try simp only [Act.put, List.setIfInBounds_toArray, List.set_cons_zero, List.set_cons_succ])
      (refine held_takeA 1 (by rfl) ?_ (by kernel_rfl) (fun _ _ _ h => h) hs2r ?_ ?_; rotate_left; (focus (intro wq hSw; have hrd : ∀ b o, b < wr.heap.size → wq.cell? ⟨b, o, none⟩ = wr.cell? ⟨b, o, none⟩ := (fun b o h => hSw.cell (p := ⟨b, o, none⟩) h); go_simp; try with_reducible rfl; done)); try simp only [Act.put, List.setIfInBounds_toArray, List.set_cons_zero, List.set_cons_succ])
      (refine held_skipA 2 (by rfl) (by kernel_rfl) (fun _ _ _ h => h) hs2r ?_; try simp only [Act.put, List.setIfInBounds_toArray, List.set_cons_zero, List.set_cons_succ])
      (refine held_skipA 3 (by rfl) (by kernel_rfl) (fun _ _ _ h => h) hs2r ?_; try simp only [Act.put, List.setIfInBounds_toArray, List.set_cons_zero, List.set_cons_succ])
      (refine held_skipA 4 (by rfl) (by kernel_rfl) (fun _ _ _ h => h) hs2r ?_; try simp only [Act.put, List.setIfInBounds_toArray, List.set_cons_zero, List.set_cons_succ])
      (refine held_skipA 5 (by rfl) (by kernel_rfl) (fun _ _ _ h => h) hs2r ?_; try simp only [Act.put, List.setIfInBounds_toArray, List.set_cons_zero, List.set_cons_succ])
      (refine held_skipA 6 (by rfl) (by kernel_rfl) (fun _ _ _ h => h) hs2r ?_; try simp only [Act.put, List.setIfInBounds_toArray, List.set_cons_zero, List.set_cons_succ])
      (refine held_skipA 7 (by rfl) (by kernel_rfl) (fun _ _ _ h => h) hs2r ?_; try simp only [Act.put, List.setIfInBounds_toArray, List.set_cons_zero, List.set_cons_succ])
      (refine held_skipA 8 (by rfl) (by kernel_rfl) (fun _ _ _ h => h) hs2r ?_; try simp only [Act.put, List.setIfInBounds_toArray, List.set_cons_zero, List.set_cons_succ])
      (refine held_skipA 9 (by rfl) (by kernel_rfl) (fun _ _ _ h => h) hs2r ?_; try simp only [Act.put, List.setIfInBounds_toArray, List.set_cons_zero, List.set_cons_succ])
      (refine held_takeA 10 (by rfl) ?_ (by kernel_rfl) (fun _ _ _ h => h) hs2r ?_ ?_; rotate_left; (focus (intro wq hSw; have hrd : ∀ b o, b < wr.heap.size → wq.cell? ⟨b, o, none⟩ = wr.cell? ⟨b, o, none⟩ := (fun b o h => hSw.cell (p := ⟨b, o, none⟩) h); go_simp; try with_reducible rfl; done)); try simp only [Act.put, List.setIfInBounds_toArray, List.set_cons_zero, List.set_cons_succ])
      refine wpAnyH_done (by kernel_rfl) ?_ _
      try refine NoPanic.normal ?_
      go_wp2_with fail
      go_ret
      rw [hzs.out] at hlv2
      exact ⟨_, v', A', H', rfl, hlv2, hT2, hG2, hv', hC2⟩
  obtain ⟨hlen, hex⟩ := hgo
  have hd1 : hd = true := by rw [hhd]; simpa using hlen
  have he : (s.ex == no + 1) = true := by rw [hs, hex]; simp
  subst hd1
  replace hs := Lib.hid hs
  replace hex := Lib.hid hex
  clear hhd
  go_wp2_with fail
  -- region 6: 0 1 2 3 4 5 6 7 8 9 10
  try refine wp_region_noPanic ?_
  have hs3r : Below wr.heap.size wr wr.drew := (Below.refl _ _).drew
  refine wp_region_held_drew (S := fun w' => Below wr.heap.size wr w') (by kernel_rfl) hs3r (fun _ => ?_)
  (refine held_takeA 0 (by rfl) ?_ (by kernel_rfl) (fun _ _ _ h => h) hs3r ?_ ?_; rotate_left; (focus (intro wq hSw; have hrd : ∀ b o, b < wr.heap.size → wq.cell? ⟨b, o, none⟩ = wr.cell? ⟨b, o, none⟩ := (fun b o h => hSw.cell (p := ⟨b, o, none⟩) h); go_simp; try with_reducible rfl; done)); try simp only [Act.put, List.setIfInBounds_toArray, List.set_cons_zero, List.set_cons_succ])
  (refine held_takeA 1 (by rfl) ?_ (by kernel_rfl) (fun _ _ _ h => h) hs3r ?_ ?_; rotate_left; (focus (intro wq hSw; have hrd : ∀ b o, b < wr.heap.size → wq.cell? ⟨b, o, none⟩ = wr.cell? ⟨b, o, none⟩ := (fun b o h => hSw.cell (p := ⟨b, o, none⟩) h); go_simp; try with_reducible rfl; done)); try simp only [Act.put, List.setIfInBounds_toArray, List.set_cons_zero, List.set_cons_succ])
  (refine held_takeA 2 (by rfl) ?_ (by kernel_rfl) (fun _ _ _ h => h) hs3r ?_ ?_; rotate_left; (focus (intro wq hSw; have hrd : ∀ b o, b < wr.heap.size → wq.cell? ⟨b, o, none⟩ = wr.cell? ⟨b, o, none⟩ := (fun b o h => hSw.cell (p := ⟨b, o, none⟩) h); go_simp; try with_reducible rfl; done)); try simp only [Act.put, List.setIfInBounds_toArray, List.set_cons_zero, List.set_cons_succ])
  (refine held_takeA 3 (by rfl) ?_ (by kernel_rfl) (fun _ _ _ h => h) hs3r ?_ ?_; rotate_left; (focus (intro wq hSw; have hrd : ∀ b o, b < wr.heap.size → wq.cell? ⟨b, o, none⟩ = wr.cell? ⟨b, o, none⟩ := (fun b o h => hSw.cell (p := ⟨b, o, none⟩) h); go_simp; try with_reducible rfl; done)); try simp only [Act.put, List.setIfInBounds_toArray, List.set_cons_zero, List.set_cons_succ])
  (refine held_takeA 4 (by rfl) ?_ (by kernel_rfl) (fun _ _ _ h => h) hs3r ?_ ?_; rotate_left; (focus (intro wq hSw; have hrd : ∀ b o, b < wr.heap.size → wq.cell? ⟨b, o, none⟩ = wr.cell? ⟨b, o, none⟩ := (fun b o h => hSw.cell (p := ⟨b, o, none⟩) h); go_simp; try with_reducible rfl; done)); try simp only [Act.put, List.setIfInBounds_toArray, List.set_cons_zero, List.set_cons_succ])
  (refine held_takeA 5 (by rfl) ?_ (by kernel_rfl) (fun _ _ _ h => h) hs3r ?_ ?_; rotate_left; (focus (intro wq hSw; have hrd : ∀ b o, b < wr.heap.size → wq.cell? ⟨b, o, none⟩ = wr.cell? ⟨b, o, none⟩ := (fun b o h => hSw.cell (p := ⟨b, o, none⟩) h); go_simp; try with_reducible rfl; done)); try simp only [Act.put, List.setIfInBounds_toArray, List.set_cons_zero, List.set_cons_succ])
  (refine held_takeA 6 (by rfl) ?_ (by kernel_rfl) (fun _ _ _ h => h) hs3r ?_ ?_; rotate_left; (focus (intro wq hSw; have hrd : ∀ b o, b < wr.heap.size → wq.cell? ⟨b, o, none⟩ = wr.cell? ⟨b, o, none⟩ := (fun b o h => hSw.cell (p := ⟨b, o, none⟩) h); go_simp; try with_reducible rfl; done)); try simp only [Act.put, List.setIfInBounds_toArray, List.set_cons_zero, List.set_cons_succ])
  (refine held_takeA 7 (by rfl) ?_ (by kernel_rfl) (fun _ _ _ h => h) hs3r ?_ ?_; rotate_left; (focus (intro wq hSw; have hrd : ∀ b o, b < wr.heap.size → wq.cell? ⟨b, o, none⟩ = wr.cell? ⟨b, o, none⟩ := (fun b o h => hSw.cell (p := ⟨b, o, none⟩) h); go_simp; try with_reducible rfl; done)); try simp only [Act.put, List.setIfInBounds_toArray, List.set_cons_zero, List.set_cons_succ])
  (refine held_takeA 8 (by rfl) ?_ (by kernel_rfl) (fun _ _ _ h => h) hs3r ?_ ?_; rotate_left; (focus (intro wq hSw; have hrd : ∀ b o, b < wr.heap.size → wq.cell? ⟨b, o, none⟩ = wr.cell? ⟨b, o, none⟩ := (fun b o h => hSw.cell (p := ⟨b, o, none⟩) h); go_simp; try with_reducible rfl; done)); try simp only [Act.put, List.setIfInBounds_toArray, List.set_cons_zero, List.set_cons_succ])
  (refine held_takeA 9 (by rfl) ?_ (by kernel_rfl) (fun _ _ _ h => h) hs3r ?_ ?_; rotate_left; (focus (intro wq hSw; have hrd : ∀ b o, b < wr.heap.size → wq.cell? ⟨b, o, none⟩ = wr.cell? ⟨b, o, none⟩ := (fun b o h => hSw.cell (p := ⟨b, o, none⟩) h); go_simp; try with_reducible rfl; done)); try simp only [Act.put, List.setIfInBounds_toArray, List.set_cons_zero, List.set_cons_succ])
  (refine held_takeA 10 (by rfl) ?_ (by kernel_rfl) (fun _ _ _ h => h) hs3r ?_ ?_; rotate_left; (focus (intro wq hSw; have hrd : ∀ b o, b < wr.heap.size → wq.cell? ⟨b, o, none⟩ = wr.cell? ⟨b, o, none⟩ := (fun b o h => hSw.cell (p := ⟨b, o, none⟩) h); go_simp; try with_reducible rfl; done)); try simp only [Act.put, List.setIfInBounds_toArray, List.set_cons_zero, List.set_cons_succ])
  refine wpAnyH_done (by kernel_rfl) ?_ _
  try refine NoPanic.normal ?_
  have hlv4 := hlv.drew
  have hT4 := hT.nx (Below.refl _ _).drew
  have hx4 := hx.below (Below.refl _ _).drew ltx
  have hC4 := hC.trans (Chg.of_below (X := fun _ => False) (Below.refl wr.heap.size wr).drew) (fun _ _ q => q.elim)
  obtain ⟨r, cap, rfl, -, -, -, -⟩ := hT.row.1.form hlen
  have hr0 : r < w.heap.size := (hbl0 r (by rw [← hv']; rfl)).2
  have hvr : v.ownBlock = some r := hv'.symm
  clear hlv hT hx hC p0 p1 c1 ltg ltx hzr hv'
  generalize wr.drew = w4 at *
  have p0 : w4.cell? ⟨sb, 0, none⟩ = some (.int .i64 s.id) := hx4.cellv 0 rfl
  have ltx4 := hx4.lt
  have hz4 := hC4.size
  have hso : SloIn mo co s := by
    rw [hs.out]
    exact hI.rng _ (List.mem_of_getElem? (atS_some hlen))
  unfold SloIn at hso
  have hzl : zs.length + 1 ≤ 1000001 := by
    have h1 := congrArg List.length hI.out
    rw [List.length_append, List.length_map, List.length_map] at h1
    omega
  have hone : Seen intK (w4.alloc (.cells #[.int .i64 s.id] 3)) (fun _ => True) (some ⟨w4.heap.size, 0, none⟩) 1 [s.id] := seen_one (R := intK) (S := fun _ => False) (S' := fun _ => True) w4 3 s.id #[.int .i64 s.id] rfl (WalkArith.wf_i64 (by omega)) (fun _ h => h.elim) trivial (fun _ h => h.elim)
  have hokl : ∀ e ∈ [s.id], intK.ok (w4.alloc (.cells #[.int .i64 s.id] 3)) (fun b => w.heap.size ≤ b ∧ b < (w4.alloc (.cells #[.int .i64 s.id] 3)).heap.size ∧ u3.ownBlock ≠ some b) e := fun e he => by
    rw [List.mem_singleton] at he
    subst he
    exact WalkArith.wf_i64 (by omega)
  have hb5 := (Below.refl w4.heap.size w4).alloc (Nat.le_refl _) (.cells #[.int .i64 s.id] 3)
  have hlv5 := hlv4.alloc (.cells #[.int .i64 s.id] 3)
  have hx5 := hx4.below hb5 ltx4
  have hT5 := hT4.nx hb5
  have hC5 := hC4.trans (Chg.of_below (X := fun _ => False) hb5) (fun _ _ q => q.elim)
  have hz5 := hC5.size
  clear hlv4 hx4 hT4 hC4
  go_upto_region 9 with (at_builtin; refine wpList_rows int_ok rfl (.tmp 44) (.tmp 47) rfl hlv5 rfl rfl hone hokl (by unfold maxLen; omega) (by omega) (by omega) ?_; intro lv6 w6 hlv6 hg6)
  have hu0 : ∀ k, u3.ownBlock = some k → w.heap.size ≤ k := fun k e => (hlv5.1.lt k e).1
  have hnx := own_ne_blk hlv5.1 hx5 (by decide)
  have hcg5 : Chg (w4.alloc (.cells #[.int .i64 s.id] 3)) w6 (fun k => u3.ownBlock = some k) := Chg.of_grownO hg6 (fun _ e => e)
  have hT6 := hT5.chg hcg5 (fun e => by have := hu0 _ e; omega) (fun e => by have := hu0 _ e; omega) (fun k e q => by injection (show some r = some k from e) with e; have := hu0 _ q; omega)
  have hx6 := hcg5.blk hx5 hnx
  have hC6 := hC5.trans hcg5 (fun i hi q => by have := hu0 _ q; omega)
  have hz6 := hC6.size
  have hnx6 := own_ne_blk hlv6.1 hx6 (by decide)
  clear hlv5 hx5 hT5 hC5 hone hokl hg6 hcg5 hnx hb5 p0
  have p0 : w6.cell? ⟨sb, 0, none⟩ = some (.int .i64 s.id) := hx6.cellv 0 rfl
  have c3 : w6.cell? ⟨g, 3, none⟩ = some (.map (some b)) := hT6.blk.cellv 3 rfl
  have ltg6 := hT6.ltg
  have ltx6 := hx6.lt
  have ltb6 := hT6.ltb
  have hgb6 : g ≠ b := hgb
  have hxb : sb ≠ b := by omega
  have hsA : s ∈ A' := by
    rw [hs.out]
    rcases hI.fr with ⟨q, _⟩ | ⟨_, q⟩
    · rw [q] at hlen; simp at hlen
    · exact q
  obtain ⟨j, hj⟩ := List.getElem?_of_mem hsA
  have hjE : (A'.map sloE)[j]? = some (.int .i64 s.id, .agg #[.int .i64 s.ex, .int .i64 s.od]) := by rw [List.getElem?_map, hj]; rfl
  -- region 9: 0 1 2 3 4 5 6M
  try refine wp_region_noPanic ?_
  have hs4r : w6.grownBy w6.drew (some b) := grown_drew (grown_refl _ _)
  refine wp_region_held_drew (S := fun w' => w6.grownBy w' (some b)) (by kernel_rfl) hs4r (fun _ => ?_)
  (refine held_takeA 0 (by rfl) ?_ (by kernel_rfl) (fun _ _ _ h => h) hs4r ?_ ?_; rotate_left; (focus (intro wq hSw; have hrd : ∀ b' o, b' < w6.heap.size → b' ≠ b → wq.cell? ⟨b', o, none⟩ = w6.cell? ⟨b', o, none⟩ := (fun b' o h hne => grown_cell hSw h hne); go_simp; try with_reducible rfl; done)); try simp only [Act.put, List.setIfInBounds_toArray, List.set_cons_zero, List.set_cons_succ])
  (refine held_takeA 1 (by rfl) ?_ (by kernel_rfl) (fun _ _ _ h => h) hs4r ?_ ?_; rotate_left; (focus (intro wq hSw; have hrd : ∀ b' o, b' < w6.heap.size → b' ≠ b → wq.cell? ⟨b', o, none⟩ = w6.cell? ⟨b', o, none⟩ := (fun b' o h hne => grown_cell hSw h hne); go_simp; try with_reducible rfl; done)); try simp only [Act.put, List.setIfInBounds_toArray, List.set_cons_zero, List.set_cons_succ])
  (refine held_takeA 2 (by rfl) ?_ (by kernel_rfl) (fun _ _ _ h => h) hs4r ?_ ?_; rotate_left; (focus (intro wq hSw; have hrd : ∀ b' o, b' < w6.heap.size → b' ≠ b → wq.cell? ⟨b', o, none⟩ = w6.cell? ⟨b', o, none⟩ := (fun b' o h hne => grown_cell hSw h hne); go_simp; try with_reducible rfl; done)); try simp only [Act.put, List.setIfInBounds_toArray, List.set_cons_zero, List.set_cons_succ])
  (refine held_takeA 3 (by rfl) ?_ (by kernel_rfl) (fun _ _ _ h => h) hs4r ?_ ?_; rotate_left; (focus (intro wq hSw; have hrd : ∀ b' o, b' < w6.heap.size → b' ≠ b → wq.cell? ⟨b', o, none⟩ = w6.cell? ⟨b', o, none⟩ := (fun b' o h hne => grown_cell hSw h hne); go_simp; try with_reducible rfl; done)); try simp only [Act.put, List.setIfInBounds_toArray, List.set_cons_zero, List.set_cons_succ])
  (refine held_takeA 4 (by rfl) ?_ (by kernel_rfl) (fun _ _ _ h => h) hs4r ?_ ?_; rotate_left; (focus (intro wq hSw; have hrd : ∀ b' o, b' < w6.heap.size → b' ≠ b → wq.cell? ⟨b', o, none⟩ = w6.cell? ⟨b', o, none⟩ := (fun b' o h hne => grown_cell hSw h hne); go_simp; try with_reducible rfl; done)); try simp only [Act.put, List.setIfInBounds_toArray, List.set_cons_zero, List.set_cons_succ])
  (refine held_takeA 5 (by rfl) ?_ (by kernel_rfl) (fun _ _ _ h => h) hs4r ?_ ?_; rotate_left; (focus (intro wq hSw; have hrd : ∀ b' o, b' < w6.heap.size → b' ≠ b → wq.cell? ⟨b', o, none⟩ = w6.cell? ⟨b', o, none⟩ := (fun b' o h hne => grown_cell hSw h hne); go_simp; try with_reducible rfl; done)); try simp only [Act.put, List.setIfInBounds_toArray, List.set_cons_zero, List.set_cons_succ])
  refine held_callA 6 (by rfl) (by kernel_rfl) (by rfl) (fun KQ hKQ => ?_)
  refine wp_del_hit hT6.ent.drew tkey tmap_und (.tmp 52) (.tmp 54) (by rfl) (by rfl) (by rfl) (tlit s.id (by omega) (by omega)) hjE ?_
  intro w7 he7 hg7
  refine hKQ.out _ _ (grown_trans hs4r hg7) (held_mono (S' := fun w' => w7.grownBy w' (some b)) (fun w' h => grown_trans (grown_trans hs4r hg7) h) _ _ _ _ ?_)
  clear hKQ KQ
  have hs5r : w7.grownBy w7 (some b) := grown_refl _ _
  try simp only [Act.put]
  refine wpAnyH_done (by kernel_rfl) ?_ _
  try refine NoPanic.normal ?_
  have hg67 : w6.grownBy w7 (some b) := grown_trans (grown_drew (grown_refl w6 (some b))) hg7
  rw [← map_eraseIdx'] at he7
  have hT7 : TabV w7 g b mo (no + 1) co (.slice (some ⟨r, 0, none⟩) H'.length cap) (A'.eraseIdx j) H' := ⟨hT6.blk.grown hg67 (by simp; omega), he7, ⟨hT6.row.1.kept hg67 (.inr hT6.nb), fun _ _ => trivial⟩, hT6.ng, hT6.nb⟩
  have hc67 : Chg w6 w7 (fun k => k = b) := Chg.of_grown hg67 rfl
  have hx7 := hc67.blk hx6 hxb
  have hlv7 := row_chg hlv6 hc67 (fun k e q => by have := (hlv6.1.lt k e).1; omega)
  have hC7 := hC6.trans hc67 (fun i hi q => .inr (.inl q))
  have hz7 := hC7.size
  clear hlv6 hx6 hT6 hC6 hc67 hg7 he7 hg67 p0 c3 ltg6 ltx6 ltb6
  obtain ⟨F'', hI2⟩ := hI.step hR hids hlen hex.out (by rw [← hs.out]; exact hj)
  have hok9 : ∀ s ∈ popL H', SloOk s := fun s hs => by have := hI.rng s (pop_mem s hs); unfold SloIn at this; unfold SloOk; omega
  have hn9 : (popL H').length ≤ 1000000 := by have := hI.len; have := popL_len hlen; omega
  have hlj := (List.getElem?_eq_some_iff.1 hj).1
  have hal : (A'.eraseIdx j).length = A'.length - 1 := List.length_eraseIdx_of_lt hlj
  have hids2 : (A'.eraseIdx j).Pairwise fun a b => a.id ≠ b.id := hids.sublist (List.eraseIdx_sublist _ _)
  rw [← hs.out] at hI2
  have hI3 := hI2
  obtain ⟨hd2, hhd2⟩ : ∃ hd, hd = decide (0 < (freshL (popL H').length (A'.eraseIdx j) (popL H')).length) := ⟨_, rfl⟩
  obtain ⟨s2, hs2⟩ : ∃ s, s = atS (freshL (popL H').length (A'.eraseIdx j) (popL H')) 0 := ⟨_, rfl⟩
  replace hhd2 := Lib.hid hhd2
  replace hs2 := Lib.hid hs2
  replace hal := Lib.hid hal
  replace hj := Lib.hid hj
  have hlenH := hI.len
  replace hI3 := Lib.hid hI2
  clear hI hI2 hjE
  go_wp2_with (first
    | (go_at_call 138; refine (pop_any w7 g b mo (no + 1) co _ H' r cap H'.length hT7 hlen (by omega)).mono ?_; rintro e w8 ⟨rfl, hT8, wa, wb, k1, k2, k3⟩; have hc78 : Chg w7 w8 (fun k => k = g ∨ k = r) := pop_chg k1 k2 k3; have hx8 := hc78.blk hx7 (by omega); have q0 : w8.cell? ⟨sb, 0, none⟩ = some (.int .i64 s.id) := hx8.cellv 0 rfl; have q1 : w8.cell? ⟨sb, 1, none⟩ = some (.int .i64 s.ex) := hx8.cellv 1 rfl; have q2 : w8.cell? ⟨sb, 2, none⟩ = some (.int .i64 s.od) := hx8.cellv 2 rfl; have lt8 := hx8.lt; have hT9 := hT8.alloc (.cells #[.int .i64 (s).id, .int .i64 (s).ex, .int .i64 (s).od] 198))
    | (go_at_call 137; refine (fresh_gen _ g b mo (no + 1) co _ _ _ hT9 hok9 hn9).mono ?_; rintro e w10 ⟨v10, rfl, hT10, hv10, hC10⟩; rw [headV_eq, ← hhd2.out, ← hs2.out]; have hX10 := hC10.blk (Blk.new w8 198 #[.int .i64 (s).id, .int .i64 (s).ex, .int .i64 (s).od]) (fun q => by rcases q with q | q <;> first | omega | (injection (show some r = some w8.heap.size from q) with q; omega)))
    | (refine wpList_store_blk rfl hX10 198 (.tmp 4) (.tmp 42) rfl rfl rfl rfl got_slot (by simp [Value.oneCell']) ?_; intro w11 hX11 hg11))
  have hC8 := hC7.trans hc78 (fun i hi q => q.elim .inl fun q => .inr (.inr (by rw [hvr, q])))
  have hz8 := hC8.size
  have hC9 := hC8.trans (Chg.of_below (X := fun _ => False) ((Below.refl w8.heap.size w8).alloc (Nat.le_refl _) (.cells #[.int .i64 (s).id, .int .i64 (s).ex, .int .i64 (s).od] 198))) (fun _ _ q => q.elim)
  have hz9 : w8.heap.size < (w8.alloc (.cells #[.int .i64 (s).id, .int .i64 (s).ex, .int .i64 (s).od] 198)).heap.size := by simp
  have hC10' := hC9.trans hC10 (fun i hi q => q.elim .inl fun q => .inr (.inr (hvr.trans (show some r = some i from q))))
  have hc11 : Chg w10 w11 (fun k => k = w8.heap.size) := Chg.of_grown hg11 rfl
  have hv10r : v10.ownBlock = some r := hv10
  have hlv8 := row_chg hlv7 hc78 (fun k e q => by have := (hlv7.1.lt k e).1; rcases q with q | q <;> omega)
  have hlv10 := row_chg (hlv8.alloc (.cells #[.int .i64 (s).id, .int .i64 (s).ex, .int .i64 (s).od] 198)) hC10 (fun k e q => by
    have := (hlv8.1.lt k e).1
    rcases q with q | q
    · omega
    · injection (show some r = some k from q) with q; omega)
  have hlv11 := row_chg hlv10 hc11 (fun k e q => by have := (hlv8.1.lt k e).2; omega)
  have hT11 := hT10.chg hc11 (by omega) (by omega) (fun k e q => by rw [hv10r] at e; injection e with e; omega)
  have hC11 := hC10'.trans hc11 (fun i hi q => by omega)
  go_roundg (A'.length - 1)
  case measure => omega
  case rel => exact ⟨w8.heap.size, hd2, s2, A'.eraseIdx j, _, F'', v10, _, rfl, rfl, hX11, hhd2.out, hs2.out, hT11, hv10r.trans hvr.symm, hlv11, by omega, hI3.out, hids2, by rw [hal.out]; exact Nat.le_refl _, hC11⟩
end Go.Proofs.Ytejgekoinbdhjaa
