/- probe: ask, Waiting. -/
import Derived.Test.YtejgekoinbdhjaaPrF
namespace Go.Proofs.Ytejgekoinbdhjaa
set_option linter.unusedVariables false
open Go Go.RowKit Go.Maps Go.Shelf
attribute [local go_sem] Oper.semAt_some

set_option maxRecDepth 100000 in
set_option maxHeartbeats 4000000 in
theorem ask_in (w : World) (g bn bw : Nat) (ev pa no sq : Int) (fn : Int → Option Int) (fw : Int → Option (Int × Int)) (h : ProV w g bn bw ev pa no sq fn fw) (hno : 0 ≤ no ∧ no ≤ 1099511627776) (hev : 0 ≤ ev ∧ ev ≤ 10000) (hpa : 0 ≤ pa ∧ pa ≤ 10000) (hsq : 0 ≤ sq ∧ sq ≤ 1000000000) (hat : ∀ id p, fw id = some p → 0 ≤ p.2 ∧ p.2 ≤ no) (ks : List Int) (ha : ks.Pairwise fun a b => a < b) (hks : ∀ k ∈ ks, IdIn k) (hlen : ks.length ≤ 1000) (hfn : ∀ id, id ∈ ks ↔ (fn id).isSome = true) :
    CallsIn Fence.wide 5 Try.prog 152 #[.pointer (some ⟨g, 0, none⟩)] w fun e w' => ∃ v s, s = ks.foldl (askStep no ev) ⟨sq, fn, fw, []⟩ ∧ e = .returned v ∧ ProV w' g bn bw ev pa no s.sq s.fn s.fw ∧ Rows prK w' w.heap.size w.heap.size 134 v s.l ∧ PSok no sq ks.length s ∧ Chg w w' (fun k => k = g ∨ k = bn ∨ k = bw) := by
  have hro : Fence.wide.round = none := rfl
  have hfn0 : ∀ f, Fence.wide.fn f := fun _ => trivial
  have hB1 := (Below.refl w.heap.size w).alloc (Nat.le_refl _) (.cells #[.pointer (some ⟨g, 0, none⟩)] 126)
  have b1 := Boxed.new w 126 (.pointer (some ⟨g, 0, none⟩))
  have hB2 := hB1.alloc hB1.size (.cells #[.slice none 0 0] 128)
  have b2 := Boxed.new (w.alloc (.cells #[.pointer (some ⟨g, 0, none⟩)] 126)) 128 (.slice none 0 0)
  rw [World.size_alloc] at b2
  have b12 := b1.alloc (.cells #[.slice none 0 0] 128)
  have hB3 := hB2.alloc hB2.size (.cells #[.pointer (some ⟨g, 0, none⟩)] 126)
  have b3 := Boxed.new ((w.alloc (.cells #[.pointer (some ⟨g, 0, none⟩)] 126)).alloc (.cells #[.slice none 0 0] 128)) 126 (.pointer (some ⟨g, 0, none⟩))
  rw [World.size_alloc, World.size_alloc] at b3
  have b13 := b12.alloc (.cells #[.pointer (some ⟨g, 0, none⟩)] 126)
  have b23 := b2.alloc (.cells #[.pointer (some ⟨g, 0, none⟩)] 126)
  have h1 := h.nx hB1
  refine callsIn_of_wp_marks Try.func152 rfl (hfn0 _) ?_ hro
  simp only [Try.ntmps152, List.size_toArray, List.length_cons, List.length_nil, Nat.reduceAdd, Nat.reduceSub, Array.replicate_succ, Array.replicate_zero, List.push_toArray, List.append_toArray, List.nil_append, List.cons_append]
  gi_wp2_with (first
    | (gi_at_call 153; refine (callsIn_wide.2 (idsP_any _ _)).mono ?_; rintro e w' ⟨rfl, rfl⟩))
  try simp only [World.size_alloc] at *
  have hz : (((w.alloc (.cells #[.pointer (some ⟨g, 0, none⟩)] 126)).alloc (.cells #[.slice none 0 0] 128)).alloc (.cells #[.pointer (some ⟨g, 0, none⟩)] 126)).heap.size = w.heap.size + 1 + 1 + 1 := by simp
  generalize ((w.alloc (.cells #[.pointer (some ⟨g, 0, none⟩)] 126)).alloc (.cells #[.slice none 0 0] 128)).alloc (.cells #[.pointer (some ⟨g, 0, none⟩)] 126) = wl at *
  have h3 := h.nx hB3
  have lg := h.lt
  clear b1 b2 b12 hB1 hB2 h1
  refine rangeFunc_good hro (by omega) (gf := 183) (lb := #[.pointer (some ⟨w.heap.size + 1 + 1, 0, none⟩)]) rfl trivial (enters_of Try.func183 (by kernel_rfl) rfl)
    (ids_good (5 - 1) (by omega) (w.heap.size + 1 + 1) g bn ks ha hks hlen fn hfn wl b3 h3.lt.1 (h3.blk.cellv 4 rfl) h3.en) (fun h k => h.trans k) (keepI_put (by omega) (by omega) (by omega)) (goodI_put (by omega)) (fun _ => rfl)
    (fun pre W => ∃ v, LoopI w g bn bw w.heap.size (w.heap.size + 1) ev pa no sq ks (askStep no ev) ⟨sq, fn, fw, []⟩ (w.heap.size + 1 + 1) v pre W) (loopI_own (by omega) (by omega) (by omega) (by omega) (by omega) (by omega) (by omega))
    ⟨.slice none 0 0, h3, b13, b3, b23, Rows.nil _ _ _ _, PSok.start hat, Chg.of_below hB3⟩
    (fun x => { tmps := #[.pointer (some ⟨g, 0, none⟩), .pointer (some ⟨w.heap.size, 0, none⟩), .slice none 0 0, .pointer (some ⟨w.heap.size + 1, 0, none⟩), .int .i64 x.1, .int .i64 x.2, undef, .pointer (some ⟨g, 0, none⟩), .func (.func 183) #[] #[.pointer (some ⟨w.heap.size + 1 + 1, 0, none⟩)], .int .i64 x.1, .int .i64 x.2, undef, undef, undef, undef, undef, undef, undef, undef, undef, undef, undef, undef, undef, undef, undef, undef, undef, undef, undef, undef, undef, undef, undef, undef, undef, undef, undef, undef, undef, undef, undef, undef, undef, undef, undef, undef, undef, undef, undef, undef, undef, undef], defers := [] }) ?assign ?body ?done
  case assign =>
    intro l x W K hK
    unfold encP
    gi_wp2
    exact hK
  case done =>
    rintro D xs W hD hxs ⟨v, hI⟩ hK
    have hbx := hI.lbox.cell
    have hbl := hI.lbox.lt
    gi_wp2
    refine ⟨by simp, .inl ⟨_, _, rfl, run_takeDeferred hK, ?_⟩⟩
    have hC : Chg W (W.putObj D (.deferred none)) (fun k => k = D) := Chg.of_grown (grownBy_putObj' W D _) rfl
    have hs : ks.foldl (askStep no ev) ⟨sq, fn, fw, []⟩ = (xs.map Prod.fst).foldl (askStep no ev) ⟨sq, fn, fw, []⟩ := by rw [hxs]
    have hxl : xs.length = ks.length := by rw [← hxs, List.length_map]
    have hok := hI.ok
    rw [hxl] at hok
    refine ⟨_, results_tmp rfl _ _ _, v, _, hs.symm, rfl, hI.pro.chg hC (by omega) (by omega) (by omega), ⟨hC.own hI.row.1 fun k hk e => ?_, fun _ _ => trivial⟩, hok, hI.chg.trans hC fun i hi e => by omega⟩
    obtain ⟨vs, fz, q⟩ := own_cells hI.row.1 hk
    rw [e, hK] at q
    cases q
  case body =>
    have hza : w.heap.size + 1 + 1 + 1 ≤ wl.heap.size := by omega
    have hzb : wl.heap.size ≤ w.heap.size + 1 + 1 + 1 := by omega
    clear hz
    rintro l0 pre ⟨id, at_⟩ W ⟨v, hI⟩ ⟨hkx, f, hfm, hfx⟩
    simp only at hkx hfx
    have hid : IdIn id := hks id (List.mem_of_getElem? hkx)
    obtain ⟨s, hs⟩ : ∃ s, s = (pre.map Prod.fst).foldl (askStep no ev) ⟨sq, fn, fw, []⟩ := ⟨_, rfl⟩
    have hnext : ((pre ++ [(id, at_)]).map Prod.fst).foldl (askStep no ev) ⟨sq, fn, fw, []⟩ = askStep no ev s id := by rw [List.map_append, List.foldl_append, ← hs]; rfl
    have hpl : pre.length < ks.length := (List.getElem?_eq_some_iff.1 hkx).1
    obtain ⟨hpro, hsb, hib, hlb, hrow, hok, hchg⟩ := hI
    rw [← hs] at hpro hrow hok
    have hfe : s.fn = f := hpro.en.inj (fun u v e => by simpa [nV] using e) hfm
    rw [← hfe] at hfx
    clear hfe hfm hs
    have cs : W.cell? ⟨w.heap.size, 0, none⟩ = some (.pointer (some ⟨g, 0, none⟩)) := hsb.cell
    have g0 : W.cell? ⟨g, 0, none⟩ = some (.int .i64 ev) := hpro.blk.cellv 0 rfl
    have g1 : W.cell? ⟨g, 1, none⟩ = some (.int .i64 pa) := hpro.blk.cellv 1 rfl
    have g2 : W.cell? ⟨g, 2, none⟩ = some (.int .i64 no) := hpro.blk.cellv 2 rfl
    have g4 : W.cell? ⟨g, 4, none⟩ = some (.map (some bn)) := hpro.blk.cellv 4 rfl
    have g5 : W.cell? ⟨g, 5, none⟩ = some (.map (some bw)) := hpro.blk.cellv 5 rfl
    have lgW := hpro.blk.lt
    have lsW := hsb.lt
    have llW := hlb.lt
    have liW := hib.lt
    have hcl := hlb.cell
    have hlen' := hok.len
    have hrow1 := hrow
    replace hnext := Lib.hid hnext
    replace hkx := Lib.hid hkx
    replace hfx := Lib.hid hfx
    have hmid : Mid w g bn bw w.heap.size (w.heap.size + 1) (w.heap.size + 1 + 1) wl.heap.size ev pa no W W v s := ⟨hpro, hsb, hib, hlb, hrow, hchg, KeepI.refl _ _ _ _, KeepsFrom.refl _ _⟩
    have hwz : w.heap.size ≤ W.heap.size := hchg.size
    have nsw : w.heap.size ≠ bw := by omega
    have nsn : w.heap.size ≠ bn := by omega
    refine wpIn_block ?_
    refine wpIn_seq ?_
    refine wpIn_seq ?_
    refine region_inR (fun ⟨_, _, h⟩ => h) rfl ?_
    by_cases hdue : at_ = no
    · have hst : askStep no ev s id = { sq := s.sq + 1, fn := upd s.fn id (some (no + ev)), fw := upd s.fw id (some (s.sq + 1, no)), l := s.l ++ [(id, s.sq + 1)] } := by unfold askStep; rw [if_pos (by rw [hfx.out, hdue])]
      replace hst := Lib.hid hst
      have d1 : (at_ != no) = false := by simp [hdue]
      replace hdue := Lib.hid hdue
      go_wp2_with fail
      refine wpIn_cond_false rfl ?_
      refine wpIn_skip ?_
      refine wpIn_seq ?_
      refine region_inR (fun ⟨_, _, h⟩ => h) rfl ?_
      have hhi := hok.hi
      have hlo := hok.lo
      go_wp2_with (go_at_call 182; refine (atAdd_any W g 3 _ _ s.sq hpro.blk rfl (by omega)).mono ?_; rintro e w6 ⟨rfl, hb6, hg6⟩)
      replace hb6 : Blk w6 g 125 #[.int .i64 ev, .int .i64 pa, .int .i64 no, .int .i64 (s.sq + 1), .map (some bn), .map (some bw)] := hb6
      have m6 := hmid.putG (by omega) (by omega) hg6 hb6
      clear hg6 hb6 cs g0 g1 g2 g4 g5 lgW lsW llW hcl hlb hsb hib hrow hrow1 hpro hchg hmid
      have csw6 : w6.cell? ⟨w.heap.size, 0, none⟩ = some (.pointer (some ⟨g, 0, none⟩)) := m6.sbox.cell
      have gw60 : w6.cell? ⟨g, 0, none⟩ = some (.int .i64 ev) := m6.pro.blk.cellv 0 rfl
      have gw62 : w6.cell? ⟨g, 2, none⟩ = some (.int .i64 no) := m6.pro.blk.cellv 2 rfl
      have gw65 : w6.cell? ⟨g, 5, none⟩ = some (.map (some bw)) := m6.pro.blk.cellv 5 rfl
      have lgw6 := m6.pro.blk.lt
      have lsw6 := m6.sbox.lt
      have gnWw6 := m6.pro.gn
      have gwWw6 := m6.pro.gw
      have llw6 := m6.lbox.lt
      have clw6 := m6.lbox.cell
      refine wpIn_seq ?_
      -- region 7: 0 1 2 3 4 5 6 7 8 9 10 11M
      have hs1r : w6.grownBy w6.drew (some bw) := grown_drew (grown_refl _ _)
      refine region_drawR (S := fun w' => w6.grownBy w' (some bw)) (by kernel_rfl) (fun ⟨_, _, h⟩ => h) rfl hs1r (fun _ => ?_)
      (refine held_takeA 0 (by rfl) ?_ (by kernel_rfl) (fun _ _ _ h => h) hs1r ?_ ?_; rotate_left; (focus (intro wq hSw; have hrd : ∀ b' o, b' < w6.heap.size → b' ≠ bw → wq.cell? ⟨b', o, none⟩ = w6.cell? ⟨b', o, none⟩ := (fun b' o h hne => grown_cell hSw h hne); go_simp; try with_reducible rfl; done)); try simp only [Act.put, List.setIfInBounds_toArray, List.set_cons_zero, List.set_cons_succ])
      (refine held_takeA 1 (by rfl) ?_ (by kernel_rfl) (fun _ _ _ h => h) hs1r ?_ ?_; rotate_left; (focus (intro wq hSw; have hrd : ∀ b' o, b' < w6.heap.size → b' ≠ bw → wq.cell? ⟨b', o, none⟩ = w6.cell? ⟨b', o, none⟩ := (fun b' o h hne => grown_cell hSw h hne); go_simp; try with_reducible rfl; done)); try simp only [Act.put, List.setIfInBounds_toArray, List.set_cons_zero, List.set_cons_succ])
      (refine held_takeA 2 (by rfl) ?_ (by kernel_rfl) (fun _ _ _ h => h) hs1r ?_ ?_; rotate_left; (focus (intro wq hSw; have hrd : ∀ b' o, b' < w6.heap.size → b' ≠ bw → wq.cell? ⟨b', o, none⟩ = w6.cell? ⟨b', o, none⟩ := (fun b' o h hne => grown_cell hSw h hne); go_simp; try with_reducible rfl; done)); try simp only [Act.put, List.setIfInBounds_toArray, List.set_cons_zero, List.set_cons_succ])
      (refine held_takeA 3 (by rfl) ?_ (by kernel_rfl) (fun _ _ _ h => h) hs1r ?_ ?_; rotate_left; (focus (intro wq hSw; have hrd : ∀ b' o, b' < w6.heap.size → b' ≠ bw → wq.cell? ⟨b', o, none⟩ = w6.cell? ⟨b', o, none⟩ := (fun b' o h hne => grown_cell hSw h hne); go_simp; try with_reducible rfl; done)); try simp only [Act.put, List.setIfInBounds_toArray, List.set_cons_zero, List.set_cons_succ])
      (refine held_takeA 4 (by rfl) ?_ (by kernel_rfl) (fun _ _ _ h => h) hs1r ?_ ?_; rotate_left; (focus (intro wq hSw; have hrd : ∀ b' o, b' < w6.heap.size → b' ≠ bw → wq.cell? ⟨b', o, none⟩ = w6.cell? ⟨b', o, none⟩ := (fun b' o h hne => grown_cell hSw h hne); go_simp; try with_reducible rfl; done)); try simp only [Act.put, List.setIfInBounds_toArray, List.set_cons_zero, List.set_cons_succ])
      (refine held_takeA 5 (by rfl) ?_ (by kernel_rfl) (fun _ _ _ h => h) hs1r ?_ ?_; rotate_left; (focus (intro wq hSw; have hrd : ∀ b' o, b' < w6.heap.size → b' ≠ bw → wq.cell? ⟨b', o, none⟩ = w6.cell? ⟨b', o, none⟩ := (fun b' o h hne => grown_cell hSw h hne); go_simp; try with_reducible rfl; done)); try simp only [Act.put, List.setIfInBounds_toArray, List.set_cons_zero, List.set_cons_succ])
      (refine held_takeA 6 (by rfl) ?_ (by kernel_rfl) (fun _ _ _ h => h) hs1r ?_ ?_; rotate_left; (focus (intro wq hSw; have hrd : ∀ b' o, b' < w6.heap.size → b' ≠ bw → wq.cell? ⟨b', o, none⟩ = w6.cell? ⟨b', o, none⟩ := (fun b' o h hne => grown_cell hSw h hne); go_simp; try with_reducible rfl; done)); try simp only [Act.put, List.setIfInBounds_toArray, List.set_cons_zero, List.set_cons_succ])
      (refine held_takeA 7 (by rfl) ?_ (by kernel_rfl) (fun _ _ _ h => h) hs1r ?_ ?_; rotate_left; (focus (intro wq hSw; have hrd : ∀ b' o, b' < w6.heap.size → b' ≠ bw → wq.cell? ⟨b', o, none⟩ = w6.cell? ⟨b', o, none⟩ := (fun b' o h hne => grown_cell hSw h hne); go_simp; try with_reducible rfl; done)); try simp only [Act.put, List.setIfInBounds_toArray, List.set_cons_zero, List.set_cons_succ])
      (refine held_takeA 8 (by rfl) ?_ (by kernel_rfl) (fun _ _ _ h => h) hs1r ?_ ?_; rotate_left; (focus (intro wq hSw; have hrd : ∀ b' o, b' < w6.heap.size → b' ≠ bw → wq.cell? ⟨b', o, none⟩ = w6.cell? ⟨b', o, none⟩ := (fun b' o h hne => grown_cell hSw h hne); go_simp; try with_reducible rfl; done)); try simp only [Act.put, List.setIfInBounds_toArray, List.set_cons_zero, List.set_cons_succ])
      (refine held_takeA 9 (by rfl) ?_ (by kernel_rfl) (fun _ _ _ h => h) hs1r ?_ ?_; rotate_left; (focus (intro wq hSw; have hrd : ∀ b' o, b' < w6.heap.size → b' ≠ bw → wq.cell? ⟨b', o, none⟩ = w6.cell? ⟨b', o, none⟩ := (fun b' o h hne => grown_cell hSw h hne); go_simp; try with_reducible rfl; done)); try simp only [Act.put, List.setIfInBounds_toArray, List.set_cons_zero, List.set_cons_succ])
      (refine held_takeA 10 (by rfl) ?_ (by kernel_rfl) (fun _ _ _ h => h) hs1r ?_ ?_; rotate_left; (focus (intro wq hSw; have hrd : ∀ b' o, b' < w6.heap.size → b' ≠ bw → wq.cell? ⟨b', o, none⟩ = w6.cell? ⟨b', o, none⟩ := (fun b' o h hne => grown_cell hSw h hne); go_simp; try with_reducible rfl; done)); try simp only [Act.put, List.setIfInBounds_toArray, List.set_cons_zero, List.set_cons_succ])
      refine held_callA 11 (by rfl) (by kernel_rfl) (by rfl) (fun KQ hKQ => ?_)
      refine wp_fput (show FMap aV w6.drew bw s.fw from m6.pro.ew) amap_und hid (v := (s.sq + 1, no)) (.tmp 24) (.tmp 25) (.tmp 31) (by rfl) (by rfl) (by rfl) (by rfl) ?_
      intro w7 he7 hg7
      refine hKQ.out _ _ (grown_trans hs1r hg7) (held_mono (S' := fun w' => w7.grownBy w' (some bw)) (fun w' h => grown_trans (grown_trans hs1r hg7) h) _ _ _ _ ?_)
      clear hKQ KQ
      have hs2r : w7.grownBy w7 (some bw) := grown_refl _ _
      try simp only [Act.put]
      refine wpAnyH_done (by kernel_rfl) ?_ _
      try refine NoPanic.normal ?_
      have m7 := m6.putW (by omega) (by omega) (grown_trans (grown_drew (grown_refl w6 (some bw))) hg7) he7
      clear csw6 gw60 gw62 gw65 lgw6 lsw6 gnWw6 gwWw6 llw6 clw6 m6 hg7 he7
      have csw7 : w7.cell? ⟨w.heap.size, 0, none⟩ = some (.pointer (some ⟨g, 0, none⟩)) := m7.sbox.cell
      have gw70 : w7.cell? ⟨g, 0, none⟩ = some (.int .i64 ev) := m7.pro.blk.cellv 0 rfl
      have gw72 : w7.cell? ⟨g, 2, none⟩ = some (.int .i64 no) := m7.pro.blk.cellv 2 rfl
      have gw74 : w7.cell? ⟨g, 4, none⟩ = some (.map (some bn)) := m7.pro.blk.cellv 4 rfl
      have lgw7 := m7.pro.blk.lt
      have lsw7 := m7.sbox.lt
      have gnWw7 := m7.pro.gn
      have gwWw7 := m7.pro.gw
      have llw7 := m7.lbox.lt
      have clw7 := m7.lbox.cell
      have kw : IntKind.i64.wrap (no + ev) = no + ev := IntWalk.i64_in _ (by omega)
      refine wpIn_seq ?_
      -- region 8: 0 1 2 3 4 5 6 7 8 9 10 11 12 13 14M
      have hs3r : w7.grownBy w7.drew (some bn) := grown_drew (grown_refl _ _)
      refine region_drawR (S := fun w' => w7.grownBy w' (some bn)) (by kernel_rfl) (fun ⟨_, _, h⟩ => h) rfl hs3r (fun _ => ?_)
      (refine held_takeA 0 (by rfl) ?_ (by kernel_rfl) (fun _ _ _ h => h) hs3r ?_ ?_; rotate_left; (focus (intro wq hSw; have hrd : ∀ b' o, b' < w7.heap.size → b' ≠ bn → wq.cell? ⟨b', o, none⟩ = w7.cell? ⟨b', o, none⟩ := (fun b' o h hne => grown_cell hSw h hne); go_simp; try with_reducible rfl; done)); try simp only [Act.put, List.setIfInBounds_toArray, List.set_cons_zero, List.set_cons_succ])
      (refine held_takeA 1 (by rfl) ?_ (by kernel_rfl) (fun _ _ _ h => h) hs3r ?_ ?_; rotate_left; (focus (intro wq hSw; have hrd : ∀ b' o, b' < w7.heap.size → b' ≠ bn → wq.cell? ⟨b', o, none⟩ = w7.cell? ⟨b', o, none⟩ := (fun b' o h hne => grown_cell hSw h hne); go_simp; try with_reducible rfl; done)); try simp only [Act.put, List.setIfInBounds_toArray, List.set_cons_zero, List.set_cons_succ])
      (refine held_takeA 2 (by rfl) ?_ (by kernel_rfl) (fun _ _ _ h => h) hs3r ?_ ?_; rotate_left; (focus (intro wq hSw; have hrd : ∀ b' o, b' < w7.heap.size → b' ≠ bn → wq.cell? ⟨b', o, none⟩ = w7.cell? ⟨b', o, none⟩ := (fun b' o h hne => grown_cell hSw h hne); go_simp; try with_reducible rfl; done)); try simp only [Act.put, List.setIfInBounds_toArray, List.set_cons_zero, List.set_cons_succ])
      (refine held_takeA 3 (by rfl) ?_ (by kernel_rfl) (fun _ _ _ h => h) hs3r ?_ ?_; rotate_left; (focus (intro wq hSw; have hrd : ∀ b' o, b' < w7.heap.size → b' ≠ bn → wq.cell? ⟨b', o, none⟩ = w7.cell? ⟨b', o, none⟩ := (fun b' o h hne => grown_cell hSw h hne); go_simp; try with_reducible rfl; done)); try simp only [Act.put, List.setIfInBounds_toArray, List.set_cons_zero, List.set_cons_succ])
      (refine held_takeA 4 (by rfl) ?_ (by kernel_rfl) (fun _ _ _ h => h) hs3r ?_ ?_; rotate_left; (focus (intro wq hSw; have hrd : ∀ b' o, b' < w7.heap.size → b' ≠ bn → wq.cell? ⟨b', o, none⟩ = w7.cell? ⟨b', o, none⟩ := (fun b' o h hne => grown_cell hSw h hne); go_simp; try with_reducible rfl; done)); try simp only [Act.put, List.setIfInBounds_toArray, List.set_cons_zero, List.set_cons_succ])
      (refine held_takeA 5 (by rfl) ?_ (by kernel_rfl) (fun _ _ _ h => h) hs3r ?_ ?_; rotate_left; (focus (intro wq hSw; have hrd : ∀ b' o, b' < w7.heap.size → b' ≠ bn → wq.cell? ⟨b', o, none⟩ = w7.cell? ⟨b', o, none⟩ := (fun b' o h hne => grown_cell hSw h hne); go_simp; try with_reducible rfl; done)); try simp only [Act.put, List.setIfInBounds_toArray, List.set_cons_zero, List.set_cons_succ])
      (refine held_takeA 6 (by rfl) ?_ (by kernel_rfl) (fun _ _ _ h => h) hs3r ?_ ?_; rotate_left; (focus (intro wq hSw; have hrd : ∀ b' o, b' < w7.heap.size → b' ≠ bn → wq.cell? ⟨b', o, none⟩ = w7.cell? ⟨b', o, none⟩ := (fun b' o h hne => grown_cell hSw h hne); go_simp; try with_reducible rfl; done)); try simp only [Act.put, List.setIfInBounds_toArray, List.set_cons_zero, List.set_cons_succ])
      (refine held_takeA 7 (by rfl) ?_ (by kernel_rfl) (fun _ _ _ h => h) hs3r ?_ ?_; rotate_left; (focus (intro wq hSw; have hrd : ∀ b' o, b' < w7.heap.size → b' ≠ bn → wq.cell? ⟨b', o, none⟩ = w7.cell? ⟨b', o, none⟩ := (fun b' o h hne => grown_cell hSw h hne); go_simp; try with_reducible rfl; done)); try simp only [Act.put, List.setIfInBounds_toArray, List.set_cons_zero, List.set_cons_succ])
      (refine held_takeA 8 (by rfl) ?_ (by kernel_rfl) (fun _ _ _ h => h) hs3r ?_ ?_; rotate_left; (focus (intro wq hSw; have hrd : ∀ b' o, b' < w7.heap.size → b' ≠ bn → wq.cell? ⟨b', o, none⟩ = w7.cell? ⟨b', o, none⟩ := (fun b' o h hne => grown_cell hSw h hne); go_simp; try with_reducible rfl; done)); try simp only [Act.put, List.setIfInBounds_toArray, List.set_cons_zero, List.set_cons_succ])
      (refine held_takeA 9 (by rfl) ?_ (by kernel_rfl) (fun _ _ _ h => h) hs3r ?_ ?_; rotate_left; (focus (intro wq hSw; have hrd : ∀ b' o, b' < w7.heap.size → b' ≠ bn → wq.cell? ⟨b', o, none⟩ = w7.cell? ⟨b', o, none⟩ := (fun b' o h hne => grown_cell hSw h hne); go_simp; try with_reducible rfl; done)); try simp only [Act.put, List.setIfInBounds_toArray, List.set_cons_zero, List.set_cons_succ])
      (refine held_takeA 10 (by rfl) ?_ (by kernel_rfl) (fun _ _ _ h => h) hs3r ?_ ?_; rotate_left; (focus (intro wq hSw; have hrd : ∀ b' o, b' < w7.heap.size → b' ≠ bn → wq.cell? ⟨b', o, none⟩ = w7.cell? ⟨b', o, none⟩ := (fun b' o h hne => grown_cell hSw h hne); go_simp; try with_reducible rfl; done)); try simp only [Act.put, List.setIfInBounds_toArray, List.set_cons_zero, List.set_cons_succ])
      (refine held_takeA 11 (by rfl) ?_ (by kernel_rfl) (fun _ _ _ h => h) hs3r ?_ ?_; rotate_left; (focus (intro wq hSw; have hrd : ∀ b' o, b' < w7.heap.size → b' ≠ bn → wq.cell? ⟨b', o, none⟩ = w7.cell? ⟨b', o, none⟩ := (fun b' o h hne => grown_cell hSw h hne); go_simp; try with_reducible rfl; done)); try simp only [Act.put, List.setIfInBounds_toArray, List.set_cons_zero, List.set_cons_succ])
      (refine held_takeA 12 (by rfl) ?_ (by kernel_rfl) (fun _ _ _ h => h) hs3r ?_ ?_; rotate_left; (focus (intro wq hSw; have hrd : ∀ b' o, b' < w7.heap.size → b' ≠ bn → wq.cell? ⟨b', o, none⟩ = w7.cell? ⟨b', o, none⟩ := (fun b' o h hne => grown_cell hSw h hne); go_simp; try with_reducible rfl; done)); try simp only [Act.put, List.setIfInBounds_toArray, List.set_cons_zero, List.set_cons_succ])
      (refine held_takeA 13 (by rfl) ?_ (by kernel_rfl) (fun _ _ _ h => h) hs3r ?_ ?_; rotate_left; (focus (intro wq hSw; have hrd : ∀ b' o, b' < w7.heap.size → b' ≠ bn → wq.cell? ⟨b', o, none⟩ = w7.cell? ⟨b', o, none⟩ := (fun b' o h hne => grown_cell hSw h hne); go_simp; try with_reducible rfl; done)); try simp only [Act.put, List.setIfInBounds_toArray, List.set_cons_zero, List.set_cons_succ])
      refine held_callA 14 (by rfl) (by kernel_rfl) (by rfl) (fun KQ hKQ => ?_)
      refine wp_fput (show FMap nV w7.drew bn s.fn from m7.pro.en) nmap_und hid (v := no + ev) (.tmp 35) (.tmp 36) (.tmp 45) (by rfl) (by rfl) (by rfl) (by rfl) ?_
      intro w8 he8 hg8
      refine hKQ.out _ _ (grown_trans hs3r hg8) (held_mono (S' := fun w' => w8.grownBy w' (some bn)) (fun w' h => grown_trans (grown_trans hs3r hg8) h) _ _ _ _ ?_)
      clear hKQ KQ
      have hs4r : w8.grownBy w8 (some bn) := grown_refl _ _
      try simp only [Act.put]
      refine wpAnyH_done (by kernel_rfl) ?_ _
      try refine NoPanic.normal ?_
      have m8 := m7.putN (by omega) (by omega) (grown_trans (grown_drew (grown_refl w7 (some bn))) hg8) he8
      clear csw7 gw70 gw72 gw74 lgw7 lsw7 gnWw7 gwWw7 llw7 clw7 m7 hg8 he8
      have hB7 := (Below.refl w8.heap.size w8).alloc (Nat.le_refl _) (.cells #[.int .i64 id, .int .i64 (s.sq + 1)] 134)
      have m7a := m8.nx hB7
      have hseen : Seen prK (w8.alloc (.cells #[.int .i64 id, .int .i64 (s.sq + 1)] 134)) (fun _ => True) (some ⟨w8.heap.size, 0, none⟩) 1 [(id, s.sq + 1)] := seen_one (R := prK) (S := fun _ => False) (S' := fun _ => True) w8 134 (id, s.sq + 1) #[.int .i64 id, .int .i64 (s.sq + 1)] rfl trivial (fun _ h => h.elim) trivial (fun _ h => h.elim)
      have hwz7 : w.heap.size ≤ (w8.alloc (.cells #[.int .i64 id, .int .i64 (s.sq + 1)] 134)).heap.size := by have := m7a.out; omega
      have cl5 := m8.lbox.cell
      have hrow7a : Rows prK _ w.heap.size w.heap.size 134 v s.l := m7a.row
      have ll5 := m8.lbox.lt
      refine region_inR (fun ⟨_, _, h⟩ => h) rfl ?_
      go_wp2_with (at_builtin; refine wpList_rows pr_ok rfl (.tmp 46) (.tmp 50) rfl hrow7a rfl rfl hseen (fun _ _ => trivial) (by unfold maxLen; omega) (by omega) hwz7 ?_; intro v8 w8 hrow8 hg8; obtain ⟨A8, c8, rfl, -, -, -⟩ := hrow8.1.any; have hx8 : (fun k => v.ownBlock = some k) (w.heap.size + 1) → False := (fun e => by obtain ⟨vs, fz, q⟩ := own_cells m7a.row.1 e; rw [show _ = some (Obj.cells #[v] 128 (0, 0)) from m7a.lbox] at q; injection q with q; injection q with _ q _; exact absurd q (by decide)); have hlb8 : Boxed w8 (w.heap.size + 1) 128 v := m7a.lbox.kept hg8 (fun e => hx8 e.symm); have hl8 := hlb8.cell; have hf8 := hlb8.frozen; have hll8 := hlb8.lt)
      have hln : (s.l ++ [(id, s.sq + 1)]).length = s.l.length + 1 := List.length_append
      have m9 := m7a.app hwz7 hrow8 hg8
      rw [hln] at m9
      exact ⟨m9.from_, m9.keep, _, by
        have e := hnext.out
        have m2 : Mid w g bn bw w.heap.size (w.heap.size + 1) (w.heap.size + 1 + 1) wl.heap.size ev pa no W (w8.setCell ⟨w.heap.size + 1, 0, none⟩ (.slice A8 (s.l.length + 1) c8)) (.slice A8 (s.l.length + 1) c8) (askStep no ev s id) := by rw [hst.out]; exact m9
        rw [← e] at m2
        exact m2.done (by rw [e, List.length_append]; exact hok.ask hno.1 id)⟩
    · have hst : askStep no ev s id = s := by unfold askStep; rw [if_neg (by rw [hfx.out]; exact hdue)]
      replace hst := Lib.hid hst
      have d1 : (at_ != no) = true := by simpa using hdue
      clear hdue
      go_wp2_with fail
      refine wpIn_cond_true rfl ?_
      refine wpIn_exit ?_
      exact ⟨hmid.from_, hmid.keep, v, by
        have e := hnext.out
        have m2 := hmid
        rw [← hst.out, ← e] at m2
        exact m2.done (by rw [e, List.length_append]; exact hok.ask hno.1 id)⟩
set_option maxRecDepth 100000 in
set_option maxHeartbeats 4000000 in
theorem wait_in (w : World) (g bn bw : Nat) (ev pa no sq : Int) (fn : Int → Option Int) (fw : Int → Option (Int × Int)) (h : ProV w g bn bw ev pa no sq fn fw) (hno : 0 ≤ no ∧ no ≤ 1099511627776) (hev : 0 ≤ ev ∧ ev ≤ 10000) (hpa : 0 ≤ pa ∧ pa ≤ 10000) (hsq : 0 ≤ sq ∧ sq ≤ 1000000000) (hat : ∀ id p, fw id = some p → 0 ≤ p.2 ∧ p.2 ≤ no) (ks : List Int) (ha : ks.Pairwise fun a b => a < b) (hks : ∀ k ∈ ks, IdIn k) (hlen : ks.length ≤ 1000) (hfn : ∀ id, id ∈ ks ↔ (fn id).isSome = true) :
    CallsIn Fence.wide 5 Try.prog 75 #[.pointer (some ⟨g, 0, none⟩)] w fun e w' => ∃ v s, s = ks.foldl (waitStep) ⟨sq, fn, fw, []⟩ ∧ e = .returned v ∧ ProV w' g bn bw ev pa no s.sq s.fn s.fw ∧ Rows prK w' w.heap.size w.heap.size 134 v s.l ∧ PSok no sq ks.length s ∧ Chg w w' (fun k => k = g ∨ k = bn ∨ k = bw) := by
  have hro : Fence.wide.round = none := rfl
  have hfn0 : ∀ f, Fence.wide.fn f := fun _ => trivial
  have hB1 := (Below.refl w.heap.size w).alloc (Nat.le_refl _) (.cells #[.pointer (some ⟨g, 0, none⟩)] 126)
  have b1 := Boxed.new w 126 (.pointer (some ⟨g, 0, none⟩))
  have hB2 := hB1.alloc hB1.size (.cells #[.slice none 0 0] 128)
  have b2 := Boxed.new (w.alloc (.cells #[.pointer (some ⟨g, 0, none⟩)] 126)) 128 (.slice none 0 0)
  rw [World.size_alloc] at b2
  have b12 := b1.alloc (.cells #[.slice none 0 0] 128)
  have hB3 := hB2.alloc hB2.size (.cells #[.pointer (some ⟨g, 0, none⟩)] 126)
  have b3 := Boxed.new ((w.alloc (.cells #[.pointer (some ⟨g, 0, none⟩)] 126)).alloc (.cells #[.slice none 0 0] 128)) 126 (.pointer (some ⟨g, 0, none⟩))
  rw [World.size_alloc, World.size_alloc] at b3
  have b13 := b12.alloc (.cells #[.pointer (some ⟨g, 0, none⟩)] 126)
  have b23 := b2.alloc (.cells #[.pointer (some ⟨g, 0, none⟩)] 126)
  have h1 := h.nx hB1
  refine callsIn_of_wp_marks Try.func75 rfl (hfn0 _) ?_ hro
  simp only [Try.ntmps75, List.size_toArray, List.length_cons, List.length_nil, Nat.reduceAdd, Nat.reduceSub, Array.replicate_succ, Array.replicate_zero, List.push_toArray, List.append_toArray, List.nil_append, List.cons_append]
  gi_wp2_with (first
    | (gi_at_call 153; refine (callsIn_wide.2 (idsP_any _ _)).mono ?_; rintro e w' ⟨rfl, rfl⟩)
    | (gi_at_call 150; refine (callsIn_wide.2 (madeP_in h1)).mono ?_; rintro e w' ⟨rfl, rfl⟩))
  try simp only [World.size_alloc] at *
  have hz : (((w.alloc (.cells #[.pointer (some ⟨g, 0, none⟩)] 126)).alloc (.cells #[.slice none 0 0] 128)).alloc (.cells #[.pointer (some ⟨g, 0, none⟩)] 126)).heap.size = w.heap.size + 1 + 1 + 1 := by simp
  generalize ((w.alloc (.cells #[.pointer (some ⟨g, 0, none⟩)] 126)).alloc (.cells #[.slice none 0 0] 128)).alloc (.cells #[.pointer (some ⟨g, 0, none⟩)] 126) = wl at *
  have h3 := h.nx hB3
  have lg := h.lt
  clear b1 b2 b12 hB1 hB2 h1
  refine rangeFunc_good hro (by omega) (gf := 183) (lb := #[.pointer (some ⟨w.heap.size + 1 + 1, 0, none⟩)]) rfl trivial (enters_of Try.func183 (by kernel_rfl) rfl)
    (ids_good (5 - 1) (by omega) (w.heap.size + 1 + 1) g bn ks ha hks hlen fn hfn wl b3 h3.lt.1 (h3.blk.cellv 4 rfl) h3.en) (fun h k => h.trans k) (keepI_put (by omega) (by omega) (by omega)) (goodI_put (by omega)) (fun _ => rfl)
    (fun pre W => ∃ v, LoopI w g bn bw w.heap.size (w.heap.size + 1) ev pa no sq ks (waitStep) ⟨sq, fn, fw, []⟩ (w.heap.size + 1 + 1) v pre W) (loopI_own (by omega) (by omega) (by omega) (by omega) (by omega) (by omega) (by omega))
    ⟨.slice none 0 0, h3, b13, b3, b23, Rows.nil _ _ _ _, PSok.start hat, Chg.of_below hB3⟩
    (fun x => { tmps := #[.pointer (some ⟨g, 0, none⟩), .pointer (some ⟨w.heap.size, 0, none⟩), .slice none 0 0, .pointer (some ⟨w.heap.size + 1, 0, none⟩), .int .i64 x.1, undef, undef, .pointer (some ⟨g, 0, none⟩), .bool true, .bool false, .pointer (some ⟨g, 0, none⟩), .func (.func 183) #[] #[.pointer (some ⟨w.heap.size + 1 + 1, 0, none⟩)], .int .i64 x.1, .int .i64 x.2, undef, undef, undef, undef, undef, undef, undef, undef, undef, undef, undef, undef, undef, undef, undef, undef, undef, undef], defers := [] }) ?assign ?body ?done
  case assign =>
    intro l x W K hK
    unfold encP
    gi_wp2
    exact hK
  case done =>
    rintro D xs W hD hxs ⟨v, hI⟩ hK
    have hbx := hI.lbox.cell
    have hbl := hI.lbox.lt
    gi_wp2
    refine ⟨by simp, .inl ⟨_, _, rfl, run_takeDeferred hK, ?_⟩⟩
    have hC : Chg W (W.putObj D (.deferred none)) (fun k => k = D) := Chg.of_grown (grownBy_putObj' W D _) rfl
    have hs : ks.foldl (waitStep) ⟨sq, fn, fw, []⟩ = (xs.map Prod.fst).foldl (waitStep) ⟨sq, fn, fw, []⟩ := by rw [hxs]
    have hxl : xs.length = ks.length := by rw [← hxs, List.length_map]
    have hok := hI.ok
    rw [hxl] at hok
    refine ⟨_, results_tmp rfl _ _ _, v, _, hs.symm, rfl, hI.pro.chg hC (by omega) (by omega) (by omega), ⟨hC.own hI.row.1 fun k hk e => ?_, fun _ _ => trivial⟩, hok, hI.chg.trans hC fun i hi e => by omega⟩
    obtain ⟨vs, fz, q⟩ := own_cells hI.row.1 hk
    rw [e, hK] at q
    cases q
  case body =>
    have hza : w.heap.size + 1 + 1 + 1 ≤ wl.heap.size := by omega
    have hzb : wl.heap.size ≤ w.heap.size + 1 + 1 + 1 := by omega
    clear hz
    rintro l0 pre ⟨id, at_⟩ W ⟨v, hI⟩ ⟨hkx, f, hfm, hfx⟩
    simp only at hkx hfx
    have hid : IdIn id := hks id (List.mem_of_getElem? hkx)
    obtain ⟨s, hs⟩ : ∃ s, s = (pre.map Prod.fst).foldl (waitStep) ⟨sq, fn, fw, []⟩ := ⟨_, rfl⟩
    have hnext : ((pre ++ [(id, at_)]).map Prod.fst).foldl (waitStep) ⟨sq, fn, fw, []⟩ = waitStep s id := by rw [List.map_append, List.foldl_append, ← hs]; rfl
    have hpl : pre.length < ks.length := (List.getElem?_eq_some_iff.1 hkx).1
    obtain ⟨hpro, hsb, hib, hlb, hrow, hok, hchg⟩ := hI
    rw [← hs] at hpro hrow hok
    have hfe : s.fn = f := hpro.en.inj (fun u v e => by simpa [nV] using e) hfm
    rw [← hfe] at hfx
    clear hfe hfm hs
    have cs : W.cell? ⟨w.heap.size, 0, none⟩ = some (.pointer (some ⟨g, 0, none⟩)) := hsb.cell
    have g0 : W.cell? ⟨g, 0, none⟩ = some (.int .i64 ev) := hpro.blk.cellv 0 rfl
    have g1 : W.cell? ⟨g, 1, none⟩ = some (.int .i64 pa) := hpro.blk.cellv 1 rfl
    have g2 : W.cell? ⟨g, 2, none⟩ = some (.int .i64 no) := hpro.blk.cellv 2 rfl
    have g4 : W.cell? ⟨g, 4, none⟩ = some (.map (some bn)) := hpro.blk.cellv 4 rfl
    have g5 : W.cell? ⟨g, 5, none⟩ = some (.map (some bw)) := hpro.blk.cellv 5 rfl
    have lgW := hpro.blk.lt
    have lsW := hsb.lt
    have llW := hlb.lt
    have liW := hib.lt
    have hcl := hlb.cell
    have hlen' := hok.len
    have hrow1 := hrow
    replace hnext := Lib.hid hnext
    replace hkx := Lib.hid hkx
    replace hfx := Lib.hid hfx
    have hmid : Mid w g bn bw w.heap.size (w.heap.size + 1) (w.heap.size + 1 + 1) wl.heap.size ev pa no W W v s := ⟨hpro, hsb, hib, hlb, hrow, hchg, KeepI.refl _ _ _ _, KeepsFrom.refl _ _⟩
    have hwz : w.heap.size ≤ W.heap.size := hchg.size
    have nsw : w.heap.size ≠ bw := by omega
    have nsn : w.heap.size ≠ bn := by omega
    refine wpIn_block ?_
    refine wpIn_seq ?_
    refine region_inR (fun ⟨_, _, h⟩ => h) rfl ?_
    cases hf : s.fw id with
    | none =>
      have hlk := FMap.miss1 hpro.ew amap_und asked_zero hid hf
      have hst : waitStep s id = s := by unfold waitStep; rw [hf]
      replace hst := Lib.hid hst
      go_wp2_with fail
      have hB5 := (Below.refl W.heap.size W).alloc (Nat.le_refl _) (.cells #[.int .i64 0, .int .i64 0] 212)
      have hx5 := Blk.new W 212 #[.int .i64 0, .int .i64 0]
      have m5 := hmid.nx hB5
      generalize W.alloc (.cells #[.int .i64 0, .int .i64 0] 212) = W5 at *
      refine wpIn_seq ?_
      refine region_inR (fun ⟨_, _, h⟩ => h) rfl ?_
      go_wp2_with fail
      refine wpIn_cond_false rfl ?_
      refine wpIn_skip ?_
      exact ⟨m5.from_, m5.keep, v, by
        have e := hnext.out
        have m2 := m5
        rw [← hst.out, ← e] at m2
        exact m2.done (by rw [e, List.length_append]; exact hok.wait id)⟩
    | some p =>
      have hlk := FMap.hit1 hpro.ew amap_und hid hf
      unfold aV at hlk
      have hst : waitStep s id = { s with l := s.l ++ [(id, p.1)] } := by unfold waitStep; rw [hf]
      replace hst := Lib.hid hst
      go_wp2_with fail
      have hB5 := (Below.refl W.heap.size W).alloc (Nat.le_refl _) (.cells #[.int .i64 p.1, .int .i64 p.2] 212)
      have hx5 := Blk.new W 212 #[.int .i64 p.1, .int .i64 p.2]
      have m5 := hmid.nx hB5
      generalize W.alloc (.cells #[.int .i64 p.1, .int .i64 p.2] 212) = W5 at *
      have x0 : W5.cell? ⟨W.heap.size, 0, none⟩ = some (.int .i64 p.1) := hx5.cellv 0 rfl
      have lx5 := hx5.lt
      refine wpIn_seq ?_
      refine region_inR (fun ⟨_, _, h⟩ => h) rfl ?_
      go_wp2_with fail
      refine wpIn_cond_true rfl ?_
      have hB7 := (Below.refl W5.heap.size W5).alloc (Nat.le_refl _) (.cells #[.int .i64 id, .int .i64 p.1] 134)
      have m7a := m5.nx hB7
      have hseen : Seen prK (W5.alloc (.cells #[.int .i64 id, .int .i64 p.1] 134)) (fun _ => True) (some ⟨W5.heap.size, 0, none⟩) 1 [(id, p.1)] := seen_one (R := prK) (S := fun _ => False) (S' := fun _ => True) W5 134 (id, p.1) #[.int .i64 id, .int .i64 p.1] rfl trivial (fun _ h => h.elim) trivial (fun _ h => h.elim)
      have hwz7 : w.heap.size ≤ (W5.alloc (.cells #[.int .i64 id, .int .i64 p.1] 134)).heap.size := by have := m7a.out; omega
      have cl5 := m5.lbox.cell
      have hrow7a : Rows prK _ w.heap.size w.heap.size 134 v s.l := m7a.row
      have ll5 := m5.lbox.lt
      refine region_inR (fun ⟨_, _, h⟩ => h) rfl ?_
      go_wp2_with (at_builtin; refine wpList_rows pr_ok rfl (.tmp 24) (.tmp 29) rfl hrow7a rfl rfl hseen (fun _ _ => trivial) (by unfold maxLen; omega) (by omega) hwz7 ?_; intro v8 w8 hrow8 hg8; obtain ⟨A8, c8, rfl, -, -, -⟩ := hrow8.1.any; have hx8 : (fun k => v.ownBlock = some k) (w.heap.size + 1) → False := (fun e => by obtain ⟨vs, fz, q⟩ := own_cells m7a.row.1 e; rw [show _ = some (Obj.cells #[v] 128 (0, 0)) from m7a.lbox] at q; injection q with q; injection q with _ q _; exact absurd q (by decide)); have hlb8 : Boxed w8 (w.heap.size + 1) 128 v := m7a.lbox.kept hg8 (fun e => hx8 e.symm); have hl8 := hlb8.cell; have hf8 := hlb8.frozen; have hll8 := hlb8.lt)
      have hln : (s.l ++ [(id, p.1)]).length = s.l.length + 1 := List.length_append
      have m9 := m7a.app hwz7 hrow8 hg8
      rw [hln] at m9
      exact ⟨m9.from_, m9.keep, _, by
        have e := hnext.out
        have m2 : Mid w g bn bw w.heap.size (w.heap.size + 1) (w.heap.size + 1 + 1) wl.heap.size ev pa no W (w8.setCell ⟨w.heap.size + 1, 0, none⟩ (.slice A8 (s.l.length + 1) c8)) (.slice A8 (s.l.length + 1) c8) (waitStep s id) := by rw [hst.out]; exact m9
        rw [← e] at m2
        exact m2.done (by rw [e, List.length_append]; exact hok.wait id)⟩
end Go.Proofs.Ytejgekoinbdhjaa
