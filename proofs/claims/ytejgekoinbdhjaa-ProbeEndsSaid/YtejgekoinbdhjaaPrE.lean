/- probe: lost. -/
import Derived.Test.YtejgekoinbdhjaaPrD
namespace Go.Proofs.Ytejgekoinbdhjaa
set_option linter.unusedVariables false
open Go Go.RowKit Go.Maps Go.Shelf
attribute [local go_sem] Oper.semAt_some

set_option maxRecDepth 100000 in
set_option maxHeartbeats 4000000 in
theorem lost_in (w : World) (g bn bw : Nat) (ev pa no sq : Int) (fn : Int → Option Int) (fw : Int → Option (Int × Int)) (h : ProV w g bn bw ev pa no sq fn fw) (hno : 0 ≤ no ∧ no ≤ 1099511627776) (hev : 0 ≤ ev ∧ ev ≤ 10000) (hpa : 0 ≤ pa ∧ pa ≤ 10000) (hsq : 0 ≤ sq ∧ sq ≤ 1000000000) (hat : ∀ id p, fw id = some p → 0 ≤ p.2 ∧ p.2 ≤ no) (ks : List Int) (ha : ks.Pairwise fun a b => a < b) (hks : ∀ k ∈ ks, IdIn k) (hlen : ks.length ≤ 1000) (hfn : ∀ id, id ∈ ks ↔ (fn id).isSome = true) :
    CallsIn Fence.wide 5 Try.prog 151 #[.pointer (some ⟨g, 0, none⟩)] w fun e w' => ∃ v s, s = ks.foldl (lostStep no pa) ⟨sq, fn, fw, []⟩ ∧ e = .returned v ∧ ProV w' g bn bw ev pa no s.sq s.fn s.fw ∧ Rows prK w' w.heap.size w.heap.size 134 v s.l ∧ PSok no sq ks.length s ∧ Chg w w' (fun k => k = g ∨ k = bn ∨ k = bw) := by
  have hro : Fence.wide.round = none := rfl
  have hfn0 : ∀ f, Fence.wide.fn f := fun _ => trivial
  have hB1 := (Below.refl w.heap.size w).alloc (Nat.le_refl _) (.cells #[.pointer (some ⟨g, 0, none⟩)] 126)
  have b1 := Boxed.new w 126 (.pointer (some ⟨g, 0, none⟩))
  have hB2 := hB1.alloc hB1.size (.cells #[.slice none 0 0] 128)
  have b2 := Boxed.new (w.alloc (.cells #[.pointer (some ⟨g, 0, none⟩)] 126)) 128 (.slice none 0 0)
  rw [World.size_alloc] at b2
  have b12 := b1.alloc (.cells #[.slice none 0 0] 128)
  have hB3 := hB2.alloc hB2.size (.cells #[.pointer (some ⟨g, 0, none⟩)] 126)
  have b3 := Boxed.new ((w.alloc (.cells #[.pointer (some ⟨g, 0, none⟩)] 126)).alloc (.cells #[.slice none 0 0] 128)) 126 (.pointer (some ⟨g, 0, none⟩))
  rw [World.size_alloc, World.size_alloc] at b3
  have b13 := b12.alloc (.cells #[.pointer (some ⟨g, 0, none⟩)] 126)
  have b23 := b2.alloc (.cells #[.pointer (some ⟨g, 0, none⟩)] 126)
  have h1 := h.nx hB1
  refine callsIn_of_wp_marks Try.func151 rfl (hfn0 _) ?_ hro
  simp only [Try.ntmps151, List.size_toArray, List.length_cons, List.length_nil, Nat.reduceAdd, Nat.reduceSub, Array.replicate_succ, Array.replicate_zero, List.push_toArray, List.append_toArray, List.nil_append, List.cons_append]
  gi_wp2_with (first
    | (gi_at_call 153; refine (callsIn_wide.2 (idsP_any _ _)).mono ?_; rintro e w' ⟨rfl, rfl⟩))
  try simp only [World.size_alloc] at *
  have hz : (((w.alloc (.cells #[.pointer (some ⟨g, 0, none⟩)] 126)).alloc (.cells #[.slice none 0 0] 128)).alloc (.cells #[.pointer (some ⟨g, 0, none⟩)] 126)).heap.size = w.heap.size + 1 + 1 + 1 := by simp
  generalize ((w.alloc (.cells #[.pointer (some ⟨g, 0, none⟩)] 126)).alloc (.cells #[.slice none 0 0] 128)).alloc (.cells #[.pointer (some ⟨g, 0, none⟩)] 126) = wl at *
  have h3 := h.nx hB3
  have lg := h.lt
  clear b1 b2 b12 hB1 hB2 h1
  refine rangeFunc_good hro (by omega) (gf := 183) (lb := #[.pointer (some ⟨w.heap.size + 1 + 1, 0, none⟩)]) rfl trivial (enters_of Try.func183 (by kernel_rfl) rfl)
    (ids_good (5 - 1) (by omega) (w.heap.size + 1 + 1) g bn ks ha hks hlen fn hfn wl b3 h3.lt.1 (h3.blk.cellv 4 rfl) h3.en) (fun h k => h.trans k) (keepI_put (by omega) (by omega) (by omega)) (goodI_put (by omega)) (fun _ => rfl)
    (fun pre W => ∃ v, LoopI w g bn bw w.heap.size (w.heap.size + 1) ev pa no sq ks (lostStep no pa) ⟨sq, fn, fw, []⟩ (w.heap.size + 1 + 1) v pre W) (loopI_own (by omega) (by omega) (by omega) (by omega) (by omega) (by omega) (by omega))
    ⟨.slice none 0 0, h3, b13, b3, b23, Rows.nil _ _ _ _, PSok.start hat, Chg.of_below hB3⟩
    (fun x => { tmps := #[.pointer (some ⟨g, 0, none⟩), .pointer (some ⟨w.heap.size, 0, none⟩), .slice none 0 0, .pointer (some ⟨w.heap.size + 1, 0, none⟩), .int .i64 x.1, undef, undef, .pointer (some ⟨g, 0, none⟩), .func (.func 183) #[] #[.pointer (some ⟨w.heap.size + 1 + 1, 0, none⟩)], .int .i64 x.1, .int .i64 x.2, undef, undef, undef, undef, undef, undef, undef, undef, undef, undef, undef, undef, undef, undef, undef, undef, undef, undef, undef, undef, undef, undef, undef, undef, undef, undef, undef, undef, undef, undef, undef, undef, undef, undef, undef, undef, undef], defers := [] }) ?assign ?body ?done
  case assign =>
    intro l x W K hK
    unfold encP
    gi_wp2
    exact hK
  case done =>
    rintro D xs W hD hxs ⟨v, hI⟩ hK
    have hbx := hI.lbox.cell
    have hbl := hI.lbox.lt
    gi_wp2
    refine ⟨by simp, .inl ⟨_, _, rfl, run_takeDeferred hK, ?_⟩⟩
    have hC : Chg W (W.putObj D (.deferred none)) (fun k => k = D) := Chg.of_grown (grownBy_putObj' W D _) rfl
    have hs : ks.foldl (lostStep no pa) ⟨sq, fn, fw, []⟩ = (xs.map Prod.fst).foldl (lostStep no pa) ⟨sq, fn, fw, []⟩ := by rw [hxs]
    have hxl : xs.length = ks.length := by rw [← hxs, List.length_map]
    have hok := hI.ok
    rw [hxl] at hok
    refine ⟨_, results_tmp rfl _ _ _, v, _, hs.symm, rfl, hI.pro.chg hC (by omega) (by omega) (by omega), ⟨hC.own hI.row.1 fun k hk e => ?_, fun _ _ => trivial⟩, hok, hI.chg.trans hC fun i hi e => by omega⟩
    obtain ⟨vs, fz, q⟩ := own_cells hI.row.1 hk
    rw [e, hK] at q
    cases q
  case body =>
    have hza : w.heap.size + 1 + 1 + 1 ≤ wl.heap.size := by omega
    have hzb : wl.heap.size ≤ w.heap.size + 1 + 1 + 1 := by omega
    clear hz
    rintro l0 pre ⟨id, at_⟩ W ⟨v, hI⟩ ⟨hkx, f, hfm, hfx⟩
    simp only at hkx hfx
    have hid : IdIn id := hks id (List.mem_of_getElem? hkx)
    obtain ⟨s, hs⟩ : ∃ s, s = (pre.map Prod.fst).foldl (lostStep no pa) ⟨sq, fn, fw, []⟩ := ⟨_, rfl⟩
    have hnext : ((pre ++ [(id, at_)]).map Prod.fst).foldl (lostStep no pa) ⟨sq, fn, fw, []⟩ = lostStep no pa s id := by rw [List.map_append, List.foldl_append, ← hs]; rfl
    have hpl : pre.length < ks.length := (List.getElem?_eq_some_iff.1 hkx).1
    obtain ⟨hpro, hsb, hib, hlb, hrow, hok, hchg⟩ := hI
    rw [← hs] at hpro hrow hok
    have hfe : s.fn = f := hpro.en.inj (fun u v e => by simpa [nV] using e) hfm
    rw [← hfe] at hfx
    clear hfe hfm hs
    have cs : W.cell? ⟨w.heap.size, 0, none⟩ = some (.pointer (some ⟨g, 0, none⟩)) := hsb.cell
    have g0 : W.cell? ⟨g, 0, none⟩ = some (.int .i64 ev) := hpro.blk.cellv 0 rfl
    have g1 : W.cell? ⟨g, 1, none⟩ = some (.int .i64 pa) := hpro.blk.cellv 1 rfl
    have g2 : W.cell? ⟨g, 2, none⟩ = some (.int .i64 no) := hpro.blk.cellv 2 rfl
    have g4 : W.cell? ⟨g, 4, none⟩ = some (.map (some bn)) := hpro.blk.cellv 4 rfl
    have g5 : W.cell? ⟨g, 5, none⟩ = some (.map (some bw)) := hpro.blk.cellv 5 rfl
    have lgW := hpro.blk.lt
    have lsW := hsb.lt
    have llW := hlb.lt
    have liW := hib.lt
    have hcl := hlb.cell
    have hlen' := hok.len
    have hrow1 := hrow
    replace hnext := Lib.hid hnext
    replace hkx := Lib.hid hkx
    replace hfx := Lib.hid hfx
    refine wpIn_block ?_
    refine wpIn_seq ?_
    refine region_inR (fun ⟨_, _, h⟩ => h) rfl ?_
    cases hf : s.fw id with
    | none =>
      have hlk := FMap.miss1 hpro.ew amap_und asked_zero hid hf
      have hst : lostStep no pa s id = s := by unfold lostStep; rw [hf]
      go_wp2_with fail
      have hd5 : (W.alloc (.cells #[.int .i64 0, .int .i64 0] 212)).heap.size = W.heap.size + 1 := by simp
      have hB5 := (Below.refl W.heap.size W).alloc (Nat.le_refl _) (.cells #[.int .i64 0, .int .i64 0] 212)
      have hx5 := Blk.new W 212 #[.int .i64 0, .int .i64 0]
      clear cs
      have cs : (W.alloc (.cells #[.int .i64 0, .int .i64 0] 212)).cell? ⟨w.heap.size, 0, none⟩ = some (.pointer (some ⟨g, 0, none⟩)) := (hB5.cell (p := ⟨w.heap.size, 0, none⟩) lsW).trans hsb.cell
      have k1 : (W.alloc (.cells #[.int .i64 0, .int .i64 0] 212)).cell? ⟨g, 1, none⟩ = some (.int .i64 pa) := (hB5.cell (p := ⟨g, 1, none⟩) lgW).trans g1
      have k2 : (W.alloc (.cells #[.int .i64 0, .int .i64 0] 212)).cell? ⟨g, 2, none⟩ = some (.int .i64 no) := (hB5.cell (p := ⟨g, 2, none⟩) lgW).trans g2
      have lg5 := Nat.lt_of_lt_of_le lgW hB5.size
      have ls5 := Nat.lt_of_lt_of_le lsW hB5.size
      generalize W.alloc (.cells #[.int .i64 0, .int .i64 0] 212) = W5 at *
      replace hst := Lib.hid hst
      refine wpIn_seq ?_
      -- region 5: 0 1 2 3 4 5 6 7 8 9 10 11 12 13 14
      have hs1r : Below W5.heap.size W5 W5.drew := (Below.refl _ _).drew
      refine region_drawR (S := fun w' => Below W5.heap.size W5 w') (by kernel_rfl) (fun ⟨_, _, h⟩ => h) rfl hs1r (fun _ => ?_)
      (refine held_takeA 0 (by rfl) ?_ (by kernel_rfl) (fun _ _ _ h => h) hs1r ?_ ?_; rotate_left; (focus (intro wq hSw; have hrd : ∀ b o, b < W5.heap.size → wq.cell? ⟨b, o, none⟩ = W5.cell? ⟨b, o, none⟩ := (fun b o h => hSw.cell (p := ⟨b, o, none⟩) h); go_simp; try with_reducible rfl; done)); try simp only [Act.put, List.setIfInBounds_toArray, List.set_cons_zero, List.set_cons_succ])
      (refine held_takeA 1 (by rfl) ?_ (by kernel_rfl) (fun _ _ _ h => h) hs1r ?_ ?_; rotate_left; (focus (intro wq hSw; have hrd : ∀ b o, b < W5.heap.size → wq.cell? ⟨b, o, none⟩ = W5.cell? ⟨b, o, none⟩ := (fun b o h => hSw.cell (p := ⟨b, o, none⟩) h); go_simp; try with_reducible rfl; done)); try simp only [Act.put, List.setIfInBounds_toArray, List.set_cons_zero, List.set_cons_succ])
      (refine held_skipA 2 (by rfl) (by kernel_rfl) (fun _ _ _ h => h) hs1r ?_; try simp only [Act.put, List.setIfInBounds_toArray, List.set_cons_zero, List.set_cons_succ])
      (refine held_skipA 3 (by rfl) (by kernel_rfl) (fun _ _ _ h => h) hs1r ?_; try simp only [Act.put, List.setIfInBounds_toArray, List.set_cons_zero, List.set_cons_succ])
      (refine held_skipA 4 (by rfl) (by kernel_rfl) (fun _ _ _ h => h) hs1r ?_; try simp only [Act.put, List.setIfInBounds_toArray, List.set_cons_zero, List.set_cons_succ])
      (refine held_skipA 5 (by rfl) (by kernel_rfl) (fun _ _ _ h => h) hs1r ?_; try simp only [Act.put, List.setIfInBounds_toArray, List.set_cons_zero, List.set_cons_succ])
      (refine held_skipA 6 (by rfl) (by kernel_rfl) (fun _ _ _ h => h) hs1r ?_; try simp only [Act.put, List.setIfInBounds_toArray, List.set_cons_zero, List.set_cons_succ])
      (refine held_skipA 7 (by rfl) (by kernel_rfl) (fun _ _ _ h => h) hs1r ?_; try simp only [Act.put, List.setIfInBounds_toArray, List.set_cons_zero, List.set_cons_succ])
      (refine held_skipA 8 (by rfl) (by kernel_rfl) (fun _ _ _ h => h) hs1r ?_; try simp only [Act.put, List.setIfInBounds_toArray, List.set_cons_zero, List.set_cons_succ])
      (refine held_skipA 9 (by rfl) (by kernel_rfl) (fun _ _ _ h => h) hs1r ?_; try simp only [Act.put, List.setIfInBounds_toArray, List.set_cons_zero, List.set_cons_succ])
      (refine held_skipA 10 (by rfl) (by kernel_rfl) (fun _ _ _ h => h) hs1r ?_; try simp only [Act.put, List.setIfInBounds_toArray, List.set_cons_zero, List.set_cons_succ])
      (refine held_skipA 11 (by rfl) (by kernel_rfl) (fun _ _ _ h => h) hs1r ?_; try simp only [Act.put, List.setIfInBounds_toArray, List.set_cons_zero, List.set_cons_succ])
      (refine held_skipA 12 (by rfl) (by kernel_rfl) (fun _ _ _ h => h) hs1r ?_; try simp only [Act.put, List.setIfInBounds_toArray, List.set_cons_zero, List.set_cons_succ])
      (refine held_skipA 13 (by rfl) (by kernel_rfl) (fun _ _ _ h => h) hs1r ?_; try simp only [Act.put, List.setIfInBounds_toArray, List.set_cons_zero, List.set_cons_succ])
      (refine held_takeA 14 (by rfl) ?_ (by kernel_rfl) (fun _ _ _ h => h) hs1r ?_ ?_; rotate_left; (focus (intro wq hSw; have hrd : ∀ b o, b < W5.heap.size → wq.cell? ⟨b, o, none⟩ = W5.cell? ⟨b, o, none⟩ := (fun b o h => hSw.cell (p := ⟨b, o, none⟩) h); go_simp; try with_reducible rfl; done)); try simp only [Act.put, List.setIfInBounds_toArray, List.set_cons_zero, List.set_cons_succ])
      refine wpAnyH_done (by kernel_rfl) ?_ _
      try refine NoPanic.normal ?_
      refine wpIn_cond_false rfl ?_
      refine wpIn_skip ?_
      have hB6 : Below W.heap.size W W5.drew := hB5.trans (Below.refl _ _).drew
      replace hst := hst.out
      exact ⟨keepsFrom_of (Chg.of_below (X := fun _ => False) hB6) fun _ q => q.elim, keepI_of (Chg.of_below (X := fun _ => False) hB6) liW (fun q => q) lgW (fun q => q) (fun q => q) fun _ q => q.elim, v, by
        have hc := Chg.of_below (X := fun _ => False) hB6
        have e := hnext.out
        refine ⟨?_, (hc.block _ lsW (fun q => q)).trans hsb, (hc.block _ liW (fun q => q)).trans hib, (hc.block _ llW (fun q => q)).trans hlb, ?_, ?_, hchg.trans hc fun _ _ q => q.elim⟩
        · rw [e, hst]; exact hpro.nx hB6
        · rw [e, hst]; exact hrow.below hB6
        · rw [e, hst, List.length_append]; exact hok.less⟩
    | some p =>
      have hlk := FMap.hit1 hpro.ew amap_und hid hf
      unfold aV at hlk
      have hpat := hok.at_ id p hf
      go_wp2_with fail
      have hd5 : (W.alloc (.cells #[.int .i64 p.1, .int .i64 p.2] 212)).heap.size = W.heap.size + 1 := by simp
      have hB5 := (Below.refl W.heap.size W).alloc (Nat.le_refl _) (.cells #[.int .i64 p.1, .int .i64 p.2] 212)
      have hx5 := Blk.new W 212 #[.int .i64 p.1, .int .i64 p.2]
      clear cs
      have cs : (W.alloc (.cells #[.int .i64 p.1, .int .i64 p.2] 212)).cell? ⟨w.heap.size, 0, none⟩ = some (.pointer (some ⟨g, 0, none⟩)) := (hB5.cell (p := ⟨w.heap.size, 0, none⟩) lsW).trans hsb.cell
      have k1 : (W.alloc (.cells #[.int .i64 p.1, .int .i64 p.2] 212)).cell? ⟨g, 1, none⟩ = some (.int .i64 pa) := (hB5.cell (p := ⟨g, 1, none⟩) lgW).trans g1
      have k2 : (W.alloc (.cells #[.int .i64 p.1, .int .i64 p.2] 212)).cell? ⟨g, 2, none⟩ = some (.int .i64 no) := (hB5.cell (p := ⟨g, 2, none⟩) lgW).trans g2
      have lg5 := Nat.lt_of_lt_of_le lgW hB5.size
      have ls5 := Nat.lt_of_lt_of_le lsW hB5.size
      generalize W.alloc (.cells #[.int .i64 p.1, .int .i64 p.2] 212) = W5 at *
      have x0 : W5.cell? ⟨W.heap.size, 0, none⟩ = some (.int .i64 p.1) := hx5.cellv 0 rfl
      have x1 : W5.cell? ⟨W.heap.size, 1, none⟩ = some (.int .i64 p.2) := hx5.cellv 1 rfl
      have lx5 := hx5.lt
      have kw : IntKind.i64.wrap (no - p.2) = no - p.2 := IntWalk.i64_in _ (by omega)
      refine wpIn_seq ?_
      by_cases hgo : pa ≤ no - p.2
      · have t1 : decide (pa ≤ no - p.2) = true := by simpa using hgo
        -- region 5: 0 1 2 3 4 5 6 7 8 9 10 11 12 13 14
        have hs2r : Below W5.heap.size W5 W5.drew := (Below.refl _ _).drew
        refine region_drawR (S := fun w' => Below W5.heap.size W5 w') (by kernel_rfl) (fun ⟨_, _, h⟩ => h) rfl hs2r (fun _ => ?_)
        (refine held_takeA 0 (by rfl) ?_ (by kernel_rfl) (fun _ _ _ h => h) hs2r ?_ ?_; rotate_left; (focus (intro wq hSw; have hrd : ∀ b o, b < W5.heap.size → wq.cell? ⟨b, o, none⟩ = W5.cell? ⟨b, o, none⟩ := (fun b o h => hSw.cell (p := ⟨b, o, none⟩) h); go_simp; try with_reducible rfl; done)); try simp only [Act.put, List.setIfInBounds_toArray, List.set_cons_zero, List.set_cons_succ])
        (refine held_takeA 1 (by rfl) ?_ (by kernel_rfl) (fun _ _ _ h => h) hs2r ?_ ?_; rotate_left; (focus (intro wq hSw; have hrd : ∀ b o, b < W5.heap.size → wq.cell? ⟨b, o, none⟩ = W5.cell? ⟨b, o, none⟩ := (fun b o h => hSw.cell (p := ⟨b, o, none⟩) h); go_simp; try with_reducible rfl; done)); try simp only [Act.put, List.setIfInBounds_toArray, List.set_cons_zero, List.set_cons_succ])
        (refine held_takeA 2 (by rfl) ?_ (by kernel_rfl) (fun _ _ _ h => h) hs2r ?_ ?_; rotate_left; (focus (intro wq hSw; have hrd : ∀ b o, b < W5.heap.size → wq.cell? ⟨b, o, none⟩ = W5.cell? ⟨b, o, none⟩ := (fun b o h => hSw.cell (p := ⟨b, o, none⟩) h); go_simp; try with_reducible rfl; done)); try simp only [Act.put, List.setIfInBounds_toArray, List.set_cons_zero, List.set_cons_succ])
        (refine held_takeA 3 (by rfl) ?_ (by kernel_rfl) (fun _ _ _ h => h) hs2r ?_ ?_; rotate_left; (focus (intro wq hSw; have hrd : ∀ b o, b < W5.heap.size → wq.cell? ⟨b, o, none⟩ = W5.cell? ⟨b, o, none⟩ := (fun b o h => hSw.cell (p := ⟨b, o, none⟩) h); go_simp; try with_reducible rfl; done)); try simp only [Act.put, List.setIfInBounds_toArray, List.set_cons_zero, List.set_cons_succ])
        (refine held_takeA 4 (by rfl) ?_ (by kernel_rfl) (fun _ _ _ h => h) hs2r ?_ ?_; rotate_left; (focus (intro wq hSw; have hrd : ∀ b o, b < W5.heap.size → wq.cell? ⟨b, o, none⟩ = W5.cell? ⟨b, o, none⟩ := (fun b o h => hSw.cell (p := ⟨b, o, none⟩) h); go_simp; try with_reducible rfl; done)); try simp only [Act.put, List.setIfInBounds_toArray, List.set_cons_zero, List.set_cons_succ])
        (refine held_takeA 5 (by rfl) ?_ (by kernel_rfl) (fun _ _ _ h => h) hs2r ?_ ?_; rotate_left; (focus (intro wq hSw; have hrd : ∀ b o, b < W5.heap.size → wq.cell? ⟨b, o, none⟩ = W5.cell? ⟨b, o, none⟩ := (fun b o h => hSw.cell (p := ⟨b, o, none⟩) h); go_simp; try with_reducible rfl; done)); try simp only [Act.put, List.setIfInBounds_toArray, List.set_cons_zero, List.set_cons_succ])
        (refine held_takeA 6 (by rfl) ?_ (by kernel_rfl) (fun _ _ _ h => h) hs2r ?_ ?_; rotate_left; (focus (intro wq hSw; have hrd : ∀ b o, b < W5.heap.size → wq.cell? ⟨b, o, none⟩ = W5.cell? ⟨b, o, none⟩ := (fun b o h => hSw.cell (p := ⟨b, o, none⟩) h); go_simp; try with_reducible rfl; done)); try simp only [Act.put, List.setIfInBounds_toArray, List.set_cons_zero, List.set_cons_succ])
        (refine held_takeA 7 (by rfl) ?_ (by kernel_rfl) (fun _ _ _ h => h) hs2r ?_ ?_; rotate_left; (focus (intro wq hSw; have hrd : ∀ b o, b < W5.heap.size → wq.cell? ⟨b, o, none⟩ = W5.cell? ⟨b, o, none⟩ := (fun b o h => hSw.cell (p := ⟨b, o, none⟩) h); go_simp; try with_reducible rfl; done)); try simp only [Act.put, List.setIfInBounds_toArray, List.set_cons_zero, List.set_cons_succ])
        (refine held_takeA 8 (by rfl) ?_ (by kernel_rfl) (fun _ _ _ h => h) hs2r ?_ ?_; rotate_left; (focus (intro wq hSw; have hrd : ∀ b o, b < W5.heap.size → wq.cell? ⟨b, o, none⟩ = W5.cell? ⟨b, o, none⟩ := (fun b o h => hSw.cell (p := ⟨b, o, none⟩) h); go_simp; try with_reducible rfl; done)); try simp only [Act.put, List.setIfInBounds_toArray, List.set_cons_zero, List.set_cons_succ])
        (refine held_takeA 9 (by rfl) ?_ (by kernel_rfl) (fun _ _ _ h => h) hs2r ?_ ?_; rotate_left; (focus (intro wq hSw; have hrd : ∀ b o, b < W5.heap.size → wq.cell? ⟨b, o, none⟩ = W5.cell? ⟨b, o, none⟩ := (fun b o h => hSw.cell (p := ⟨b, o, none⟩) h); go_simp; try with_reducible rfl; done)); try simp only [Act.put, List.setIfInBounds_toArray, List.set_cons_zero, List.set_cons_succ])
        (refine held_takeA 10 (by rfl) ?_ (by kernel_rfl) (fun _ _ _ h => h) hs2r ?_ ?_; rotate_left; (focus (intro wq hSw; have hrd : ∀ b o, b < W5.heap.size → wq.cell? ⟨b, o, none⟩ = W5.cell? ⟨b, o, none⟩ := (fun b o h => hSw.cell (p := ⟨b, o, none⟩) h); go_simp; try with_reducible rfl; done)); try simp only [Act.put, List.setIfInBounds_toArray, List.set_cons_zero, List.set_cons_succ])
        (refine held_takeA 11 (by rfl) ?_ (by kernel_rfl) (fun _ _ _ h => h) hs2r ?_ ?_; rotate_left; (focus (intro wq hSw; have hrd : ∀ b o, b < W5.heap.size → wq.cell? ⟨b, o, none⟩ = W5.cell? ⟨b, o, none⟩ := (fun b o h => hSw.cell (p := ⟨b, o, none⟩) h); go_simp; try with_reducible rfl; done)); try simp only [Act.put, List.setIfInBounds_toArray, List.set_cons_zero, List.set_cons_succ])
        (refine held_takeA 12 (by rfl) ?_ (by kernel_rfl) (fun _ _ _ h => h) hs2r ?_ ?_; rotate_left; (focus (intro wq hSw; have hrd : ∀ b o, b < W5.heap.size → wq.cell? ⟨b, o, none⟩ = W5.cell? ⟨b, o, none⟩ := (fun b o h => hSw.cell (p := ⟨b, o, none⟩) h); go_simp; try with_reducible rfl; done)); try simp only [Act.put, List.setIfInBounds_toArray, List.set_cons_zero, List.set_cons_succ])
        (refine held_takeA 13 (by rfl) ?_ (by kernel_rfl) (fun _ _ _ h => h) hs2r ?_ ?_; rotate_left; (focus (intro wq hSw; have hrd : ∀ b o, b < W5.heap.size → wq.cell? ⟨b, o, none⟩ = W5.cell? ⟨b, o, none⟩ := (fun b o h => hSw.cell (p := ⟨b, o, none⟩) h); go_simp; try with_reducible rfl; done)); try simp only [Act.put, List.setIfInBounds_toArray, List.set_cons_zero, List.set_cons_succ])
        (refine held_takeA 14 (by rfl) ?_ (by kernel_rfl) (fun _ _ _ h => h) hs2r ?_ ?_; rotate_left; (focus (intro wq hSw; have hrd : ∀ b o, b < W5.heap.size → wq.cell? ⟨b, o, none⟩ = W5.cell? ⟨b, o, none⟩ := (fun b o h => hSw.cell (p := ⟨b, o, none⟩) h); go_simp; try with_reducible rfl; done)); try simp only [Act.put, List.setIfInBounds_toArray, List.set_cons_zero, List.set_cons_succ])
        refine wpAnyH_done (by kernel_rfl) ?_ _
        try refine NoPanic.normal ?_
        refine wpIn_cond_true rfl ?_
        have hB6 : Below W.heap.size W W5.drew := hB5.trans (Below.refl _ _).drew
        replace x0 : W5.drew.cell? ⟨W.heap.size, 0, none⟩ = some (.int .i64 p.1) := x0
        replace lx5 : W.heap.size < W5.drew.heap.size := lx5
        clear hB5 cs k1 k2 lg5 ls5 hx5 x1 hd5
        generalize W5.drew = W6 at *
        have hrow5 := hrow.below hB6
        have hlb5 : Boxed W6 (w.heap.size + 1) 128 v := (hB6.block _ llW).trans hlb
        have hl5 := hlb5.cell
        have hll5 := hlb5.lt
        have hB7 := (Below.refl W6.heap.size W6).alloc (Nat.le_refl _) (.cells #[.int .i64 id, .int .i64 p.1] 134)
        have hrow7 := hrow5.below hB7
        have hlb7 : Boxed (W6.alloc (.cells #[.int .i64 id, .int .i64 p.1] 134)) (w.heap.size + 1) 128 v := (hB7.block _ hll5).trans hlb5
        have hseen : Seen prK (W6.alloc (.cells #[.int .i64 id, .int .i64 p.1] 134)) (fun _ => True) (some ⟨W6.heap.size, 0, none⟩) 1 [(id, p.1)] := seen_one (R := prK) (S := fun _ => False) (S' := fun _ => True) W6 134 (id, p.1) #[.int .i64 id, .int .i64 p.1] rfl trivial (fun _ h => h.elim) trivial (fun _ h => h.elim)
        have hwz : w.heap.size ≤ W6.heap.size := Nat.le_trans hchg.size hB6.size
        have hwz7 : w.heap.size ≤ (W6.alloc (.cells #[.int .i64 id, .int .i64 p.1] 134)).heap.size := Nat.le_trans hwz hB7.size
        have hne7 : v.ownBlock ≠ some (w.heap.size + 1) := fun e => by
          obtain ⟨vs, fz, q⟩ := own_cells hrow.1 e
          have q2 : W.heap[w.heap.size + 1]? = some (.cells #[v] 128 (0, 0)) := hlb
          rw [q2] at q
          injection q with q
          injection q with _ q _
          exact absurd q (by decide)
        have hBW7 := hB6.trans (hB7.mono hB6.size)
        refine wpIn_seq ?_
        refine region_inR (fun ⟨_, _, h⟩ => h) rfl ?_
        go_wp2_with (at_builtin; refine wpList_rows pr_ok rfl (.tmp 35) (.tmp 40) rfl hrow7 rfl rfl hseen (fun _ _ => trivial) (by unfold maxLen; omega) (by omega) hwz7 ?_; intro v8 w8 hrow8 hg8; obtain ⟨A8, c8, rfl, -, -, -⟩ := hrow8.1.any; have hlb8 : Boxed w8 (w.heap.size + 1) 128 v := hlb7.kept hg8 (fun e => hne7 e.symm); have hl8 := hlb8.cell; have hf8 := hlb8.frozen; have hll8 := hlb8.lt)
        have hln : (s.l ++ [(id, p.1)]).length = s.l.length + 1 := List.length_append
        rw [hln] at hrow8
        replace hln := Lib.hid hln
        obtain ⟨hlb9, hg9⟩ := blk_store (show Blk w8 (w.heap.size + 1) 128 #[v] from hlb8) 0 (.slice A8 (s.l.length + 1) c8)
        replace hlb9 : Boxed (w8.setCell ⟨w.heap.size + 1, 0, none⟩ (.slice A8 (s.l.length + 1) c8)) (w.heap.size + 1) 128 (.slice A8 (s.l.length + 1) c8) := hlb9
        have hne8 : (Value.slice A8 (s.l.length + 1) c8).ownBlock ≠ some (w.heap.size + 1) := fun e => by
          obtain ⟨vs, fz, q⟩ := own_cells hrow8.1 e
          have q2 : w8.heap[w.heap.size + 1]? = some (.cells #[v] 128 (0, 0)) := hlb8
          rw [q2] at q
          injection q with q
          injection q with _ q _
          exact absurd q (by decide)
        have hrow9 : Rows prK (w8.setCell ⟨w.heap.size + 1, 0, none⟩ (.slice A8 (s.l.length + 1) c8)) w.heap.size w.heap.size 134 (.slice A8 (s.l.length + 1) c8) (s.l ++ [(id, p.1)]) := ⟨hrow8.1.kept hg9 (.inr hne8), fun _ _ => trivial⟩
        have hC9 : Chg W (w8.setCell ⟨w.heap.size + 1, 0, none⟩ (.slice A8 (s.l.length + 1) c8)) (fun k => k = w.heap.size + 1 ∨ v.ownBlock = some k) :=
          ((Chg.of_below (X := fun k => k = w.heap.size + 1 ∨ v.ownBlock = some k) hBW7).trans (Chg.of_grownO (X := fun k => v.ownBlock = some k) hg8 fun _ e => e) fun _ _ q => .inr q).trans (Chg.of_grown (X := fun k => k = w.heap.size + 1) hg9 rfl) fun _ _ q => .inl q
        generalize w8.setCell ⟨w.heap.size + 1, 0, none⟩ (.slice A8 (s.l.length + 1) c8) = w9 at *
        clear hg9 hg8 hrow8 hlb8 hl8 hf8 hll8 hrow7 hlb7 hseen hB7 hrow5 hlb5 hl5 hll5 hBW7 hwz7 hwz hne8
        have nB : ∀ k, k = w.heap.size + 1 ∨ v.ownBlock = some k → ∃ vs T fz, W.heap[k]? = some (Obj.cells vs T fz) ∧ (T = 128 ∨ T = 134) := fun k q => by
          rcases q with q | q
          · subst q; exact ⟨_, _, _, hlb, .inl rfl⟩
          · obtain ⟨vs, fz, q⟩ := own_cells hrow.1 q
            exact ⟨vs, _, fz, q, .inr rfl⟩
        have nI : ∀ k, k = w.heap.size + 1 ∨ v.ownBlock = some k → ∀ (vs : Array Value) (fz : Nat × Nat), W.heap[k]? ≠ some (Obj.cells vs 3 fz) := fun k q vs fz e => by
          obtain ⟨vs', T, fz', e', hT⟩ := nB k q
          rw [e'] at e
          injection e with e
          injection e with _ e _
          rcases hT with rfl | rfl <;> exact absurd e (by decide)
        have nS : ∀ k T u, Boxed W k T u → T ≠ 128 → T ≠ 134 → ¬ (k = w.heap.size + 1 ∨ v.ownBlock = some k) := fun k T u hbx h1 h2 q => by
          obtain ⟨vs', T', fz', e', hT⟩ := nB k q
          rw [show W.heap[k]? = some (.cells #[u] T (0, 0)) from hbx] at e'
          injection e' with e'
          injection e' with _ e' _
          rcases hT with rfl | rfl
          · exact h1 e'
          · exact h2 e'
        have nG : ¬ (g = w.heap.size + 1 ∨ v.ownBlock = some g) := fun q => by
          obtain ⟨vs', T', fz', e', hT⟩ := nB g q
          have q2 := hpro.blk
          unfold Blk at q2
          rw [q2] at e'
          injection e' with e'
          injection e' with _ e' _
          rcases hT with rfl | rfl <;> exact absurd e' (by decide)
        have nM : ∀ {V : Type} {enc : V → Value} {b : Nat} {f : Int → Option V}, FMap enc W b f → ¬ (b = w.heap.size + 1 ∨ v.ownBlock = some b) := fun hm q => by
          obtain ⟨vs', T', fz', e', hT⟩ := nB _ q
          exact hm.no_cells _ _ _ e'
        have hpro9 := hpro.chg hC9 nG (nM hpro.en) (nM hpro.ew)
        have hsb9 : Boxed w9 w.heap.size 126 (.pointer (some ⟨g, 0, none⟩)) := (hC9.block _ lsW (nS _ _ _ hsb (by decide) (by decide))).trans hsb
        have hib9 : Boxed w9 (w.heap.size + 1 + 1) 126 (.pointer (some ⟨g, 0, none⟩)) := (hC9.block _ liW (nS _ _ _ hib (by decide) (by decide))).trans hib
        have hst : lostStep no pa s id = { s with fw := upd s.fw id none, l := s.l ++ [(id, p.1)] } := by unfold lostStep; rw [hf]; simp only; rw [if_pos hgo]
        replace hst := Lib.hid hst
        clear hgo
        have c9s : w9.cell? ⟨w.heap.size, 0, none⟩ = some (.pointer (some ⟨g, 0, none⟩)) := hsb9.cell
        have c95 : w9.cell? ⟨g, 5, none⟩ = some (.map (some bw)) := hpro9.blk.cellv 5 rfl
        have lg9 := hpro9.blk.lt
        have ls9 := hsb9.lt
        refine region_inR (fun ⟨_, _, h⟩ => h) rfl ?_
        go_wp2_with (refine wpList_fdel rfl hpro9.ew amap_und hid (.tmp 45) (.tmp 46) rfl rfl rfl ?_; intro w10 hw10 hg10)
        have hCx : Chg w9 w10 (fun k => k = bw) := Chg.of_grown hg10 rfl
        have hpro10 : ProV w10 g bn bw ev pa no s.sq s.fn (upd s.fw id none) := ⟨hCx.blk hpro9.blk hpro9.gw, hpro9.en.chg hCx hpro9.ne, hw10, hpro9.ne⟩
        clear c9s c95
        have hC10 : Chg W w10 (fun k => (k = w.heap.size + 1 ∨ v.ownBlock = some k) ∨ (k = bw)) := (hC9.mono fun _ _ q => .inl q).trans hCx fun _ _ q => .inr q
        have far : ∀ k, k < W.heap.size → (k = bw) → k < wl.heap.size := fun k _ q => by omega
        replace hst := hst.out
        refine ⟨keepsFrom_of hC10 fun k q => q.elim (fun q => (nB k q).elim fun vs q => q.elim fun T q => q.elim fun fz q => .inr ⟨vs, T, fz, q.1⟩) fun q => .inl (by omega), ?_, .slice A8 (s.l.length + 1) c8, ?_⟩
        · exact keepI_of hC10 liW (fun q => q.elim (nS _ _ _ hib (by decide) (by decide)) (by omega)) lgW (fun q => q.elim nG hpro.gw) (fun q => q.elim (nM hpro.en) hpro.ne) fun k q => q.elim (nI k) fun q => by subst q; exact fun vs fz => hpro.ew.no_cells _ _ _
        · have e := hnext.out
          refine ⟨?_, (hCx.block _ hsb9.lt (by omega)).trans hsb9, (hCx.block _ hib9.lt (by omega)).trans hib9, (hCx.block _ hlb9.lt (by omega)).trans hlb9, ?_, ?_, (hchg.trans hC10 fun i hi q => ?_)⟩
          · rw [e, hst]; exact hpro10
          · rw [e, hst]
            refine ⟨hCx.own hrow9.1 fun k hk q => ?_, fun _ _ => trivial⟩
            obtain ⟨vs, fz, q2⟩ := own_cells hrow9.1 hk
            subst q; exact hpro9.ew.no_cells _ _ _ q2
          · rw [e, List.length_append]
            exact hok.lost id
          · rcases q with (q | q) | q
            · omega
            · have := (hrow.1.lt _ q).1; omega
            · omega
      · have t1 : decide (pa ≤ no - p.2) = false := by simpa using hgo
        have hst : lostStep no pa s id = s := by unfold lostStep; rw [hf]; simp only; rw [if_neg hgo]
        replace hst := Lib.hid hst
        clear hgo
        -- region 5: 0 1 2 3 4 5 6 7 8 9 10 11 12 13 14
        have hs3r : Below W5.heap.size W5 W5.drew := (Below.refl _ _).drew
        refine region_drawR (S := fun w' => Below W5.heap.size W5 w') (by kernel_rfl) (fun ⟨_, _, h⟩ => h) rfl hs3r (fun _ => ?_)
        (refine held_takeA 0 (by rfl) ?_ (by kernel_rfl) (fun _ _ _ h => h) hs3r ?_ ?_; rotate_left; (focus (intro wq hSw; have hrd : ∀ b o, b < W5.heap.size → wq.cell? ⟨b, o, none⟩ = W5.cell? ⟨b, o, none⟩ := (fun b o h => hSw.cell (p := ⟨b, o, none⟩) h); go_simp; try with_reducible rfl; done)); try simp only [Act.put, List.setIfInBounds_toArray, List.set_cons_zero, List.set_cons_succ])
        (refine held_takeA 1 (by rfl) ?_ (by kernel_rfl) (fun _ _ _ h => h) hs3r ?_ ?_; rotate_left; (focus (intro wq hSw; have hrd : ∀ b o, b < W5.heap.size → wq.cell? ⟨b, o, none⟩ = W5.cell? ⟨b, o, none⟩ := (fun b o h => hSw.cell (p := ⟨b, o, none⟩) h); go_simp; try with_reducible rfl; done)); try simp only [Act.put, List.setIfInBounds_toArray, List.set_cons_zero, List.set_cons_succ])
        (refine held_takeA 2 (by rfl) ?_ (by kernel_rfl) (fun _ _ _ h => h) hs3r ?_ ?_; rotate_left; (focus (intro wq hSw; have hrd : ∀ b o, b < W5.heap.size → wq.cell? ⟨b, o, none⟩ = W5.cell? ⟨b, o, none⟩ := (fun b o h => hSw.cell (p := ⟨b, o, none⟩) h); go_simp; try with_reducible rfl; done)); try simp only [Act.put, List.setIfInBounds_toArray, List.set_cons_zero, List.set_cons_succ])
        (refine held_takeA 3 (by rfl) ?_ (by kernel_rfl) (fun _ _ _ h => h) hs3r ?_ ?_; rotate_left; (focus (intro wq hSw; have hrd : ∀ b o, b < W5.heap.size → wq.cell? ⟨b, o, none⟩ = W5.cell? ⟨b, o, none⟩ := (fun b o h => hSw.cell (p := ⟨b, o, none⟩) h); go_simp; try with_reducible rfl; done)); try simp only [Act.put, List.setIfInBounds_toArray, List.set_cons_zero, List.set_cons_succ])
        (refine held_takeA 4 (by rfl) ?_ (by kernel_rfl) (fun _ _ _ h => h) hs3r ?_ ?_; rotate_left; (focus (intro wq hSw; have hrd : ∀ b o, b < W5.heap.size → wq.cell? ⟨b, o, none⟩ = W5.cell? ⟨b, o, none⟩ := (fun b o h => hSw.cell (p := ⟨b, o, none⟩) h); go_simp; try with_reducible rfl; done)); try simp only [Act.put, List.setIfInBounds_toArray, List.set_cons_zero, List.set_cons_succ])
        (refine held_takeA 5 (by rfl) ?_ (by kernel_rfl) (fun _ _ _ h => h) hs3r ?_ ?_; rotate_left; (focus (intro wq hSw; have hrd : ∀ b o, b < W5.heap.size → wq.cell? ⟨b, o, none⟩ = W5.cell? ⟨b, o, none⟩ := (fun b o h => hSw.cell (p := ⟨b, o, none⟩) h); go_simp; try with_reducible rfl; done)); try simp only [Act.put, List.setIfInBounds_toArray, List.set_cons_zero, List.set_cons_succ])
        (refine held_takeA 6 (by rfl) ?_ (by kernel_rfl) (fun _ _ _ h => h) hs3r ?_ ?_; rotate_left; (focus (intro wq hSw; have hrd : ∀ b o, b < W5.heap.size → wq.cell? ⟨b, o, none⟩ = W5.cell? ⟨b, o, none⟩ := (fun b o h => hSw.cell (p := ⟨b, o, none⟩) h); go_simp; try with_reducible rfl; done)); try simp only [Act.put, List.setIfInBounds_toArray, List.set_cons_zero, List.set_cons_succ])
        (refine held_takeA 7 (by rfl) ?_ (by kernel_rfl) (fun _ _ _ h => h) hs3r ?_ ?_; rotate_left; (focus (intro wq hSw; have hrd : ∀ b o, b < W5.heap.size → wq.cell? ⟨b, o, none⟩ = W5.cell? ⟨b, o, none⟩ := (fun b o h => hSw.cell (p := ⟨b, o, none⟩) h); go_simp; try with_reducible rfl; done)); try simp only [Act.put, List.setIfInBounds_toArray, List.set_cons_zero, List.set_cons_succ])
        (refine held_takeA 8 (by rfl) ?_ (by kernel_rfl) (fun _ _ _ h => h) hs3r ?_ ?_; rotate_left; (focus (intro wq hSw; have hrd : ∀ b o, b < W5.heap.size → wq.cell? ⟨b, o, none⟩ = W5.cell? ⟨b, o, none⟩ := (fun b o h => hSw.cell (p := ⟨b, o, none⟩) h); go_simp; try with_reducible rfl; done)); try simp only [Act.put, List.setIfInBounds_toArray, List.set_cons_zero, List.set_cons_succ])
        (refine held_takeA 9 (by rfl) ?_ (by kernel_rfl) (fun _ _ _ h => h) hs3r ?_ ?_; rotate_left; (focus (intro wq hSw; have hrd : ∀ b o, b < W5.heap.size → wq.cell? ⟨b, o, none⟩ = W5.cell? ⟨b, o, none⟩ := (fun b o h => hSw.cell (p := ⟨b, o, none⟩) h); go_simp; try with_reducible rfl; done)); try simp only [Act.put, List.setIfInBounds_toArray, List.set_cons_zero, List.set_cons_succ])
        (refine held_takeA 10 (by rfl) ?_ (by kernel_rfl) (fun _ _ _ h => h) hs3r ?_ ?_; rotate_left; (focus (intro wq hSw; have hrd : ∀ b o, b < W5.heap.size → wq.cell? ⟨b, o, none⟩ = W5.cell? ⟨b, o, none⟩ := (fun b o h => hSw.cell (p := ⟨b, o, none⟩) h); go_simp; try with_reducible rfl; done)); try simp only [Act.put, List.setIfInBounds_toArray, List.set_cons_zero, List.set_cons_succ])
        (refine held_takeA 11 (by rfl) ?_ (by kernel_rfl) (fun _ _ _ h => h) hs3r ?_ ?_; rotate_left; (focus (intro wq hSw; have hrd : ∀ b o, b < W5.heap.size → wq.cell? ⟨b, o, none⟩ = W5.cell? ⟨b, o, none⟩ := (fun b o h => hSw.cell (p := ⟨b, o, none⟩) h); go_simp; try with_reducible rfl; done)); try simp only [Act.put, List.setIfInBounds_toArray, List.set_cons_zero, List.set_cons_succ])
        (refine held_takeA 12 (by rfl) ?_ (by kernel_rfl) (fun _ _ _ h => h) hs3r ?_ ?_; rotate_left; (focus (intro wq hSw; have hrd : ∀ b o, b < W5.heap.size → wq.cell? ⟨b, o, none⟩ = W5.cell? ⟨b, o, none⟩ := (fun b o h => hSw.cell (p := ⟨b, o, none⟩) h); go_simp; try with_reducible rfl; done)); try simp only [Act.put, List.setIfInBounds_toArray, List.set_cons_zero, List.set_cons_succ])
        (refine held_takeA 13 (by rfl) ?_ (by kernel_rfl) (fun _ _ _ h => h) hs3r ?_ ?_; rotate_left; (focus (intro wq hSw; have hrd : ∀ b o, b < W5.heap.size → wq.cell? ⟨b, o, none⟩ = W5.cell? ⟨b, o, none⟩ := (fun b o h => hSw.cell (p := ⟨b, o, none⟩) h); go_simp; try with_reducible rfl; done)); try simp only [Act.put, List.setIfInBounds_toArray, List.set_cons_zero, List.set_cons_succ])
        (refine held_takeA 14 (by rfl) ?_ (by kernel_rfl) (fun _ _ _ h => h) hs3r ?_ ?_; rotate_left; (focus (intro wq hSw; have hrd : ∀ b o, b < W5.heap.size → wq.cell? ⟨b, o, none⟩ = W5.cell? ⟨b, o, none⟩ := (fun b o h => hSw.cell (p := ⟨b, o, none⟩) h); go_simp; try with_reducible rfl; done)); try simp only [Act.put, List.setIfInBounds_toArray, List.set_cons_zero, List.set_cons_succ])
        refine wpAnyH_done (by kernel_rfl) ?_ _
        try refine NoPanic.normal ?_
        refine wpIn_cond_false rfl ?_
        refine wpIn_skip ?_
        have hB6 : Below W.heap.size W W5.drew := hB5.trans (Below.refl _ _).drew
        replace hst := hst.out
        exact ⟨keepsFrom_of (Chg.of_below (X := fun _ => False) hB6) fun _ q => q.elim, keepI_of (Chg.of_below (X := fun _ => False) hB6) liW (fun q => q) lgW (fun q => q) (fun q => q) fun _ q => q.elim, v, by
        have hc := Chg.of_below (X := fun _ => False) hB6
        have e := hnext.out
        refine ⟨?_, (hc.block _ lsW (fun q => q)).trans hsb, (hc.block _ liW (fun q => q)).trans hib, (hc.block _ llW (fun q => q)).trans hlb, ?_, ?_, hchg.trans hc fun _ _ q => q.elim⟩
        · rw [e, hst]; exact hpro.nx hB6
        · rw [e, hst]; exact hrow.below hB6
        · rw [e, hst, List.length_append]; exact hok.less⟩
end Go.Proofs.Ytejgekoinbdhjaa
