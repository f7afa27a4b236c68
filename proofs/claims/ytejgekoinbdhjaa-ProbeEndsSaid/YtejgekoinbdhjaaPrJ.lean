/- probe: each function in plain terms. -/
import Derived.Test.YtejgekoinbdhjaaPrI
namespace Go.Proofs.Ytejgekoinbdhjaa
set_option linter.unusedVariables false
open Go Go.RowKit Go.Maps

section
variable (w : World) (g bn bw : Nat) (ev pa no sq : Int) (L : List Pr) (h : ProV w g bn bw ev pa no sq (fnL L) (fwL L)) (hno : 0 ≤ no ∧ no ≤ 1099511627776) (hev : 0 ≤ ev ∧ ev ≤ 10000) (hpa : 0 ≤ pa ∧ pa ≤ 10000) (hsq : 0 ≤ sq ∧ sq ≤ 1000000000)
  (hat : ∀ id p, fwL L id = some p → 0 ≤ p.2 ∧ p.2 ≤ no) (hd : Dist L) (hks : ∀ k ∈ L.map Pr.id, IdIn k) (hlen : L.length ≤ 1000)
include h hno hev hpa hsq hat hd hks hlen
theorem lostP_any : Calls Try.prog 151 #[.pointer (some ⟨g, 0, none⟩)] w fun e w' => ∃ v, e = .returned v ∧ ProV w' g bn bw ev pa no sq (fnL (L.map (lostR no pa))) (fwL (L.map (lostR no pa))) ∧ Rows prK w' w.heap.size w.heap.size 134 v (lostOf no pa L) ∧ Chg w w' (fun k => k = g ∨ k = bn ∨ k = bw) := by
  refine (callsIn_wide.1 (lost_in w g bn bw ev pa no sq _ _ h hno hev hpa hsq hat (L.map Pr.id) (dist_ids hd) hks (by rw [List.length_map]; exact hlen) (fn_ids L))).mono ?_
  rintro e w' ⟨v, s, hs, rfl, h1, h2, -, h3⟩
  have := lost_fold no pa sq L [] [] hd
  simp only [List.nil_append] at this
  rw [this] at hs
  subst hs
  exact ⟨v, rfl, h1, h2, h3⟩
theorem askP_any : Calls Try.prog 152 #[.pointer (some ⟨g, 0, none⟩)] w fun e w' => ∃ v, e = .returned v ∧ ProV w' g bn bw ev pa no (askAll no ev sq L).2.1 (fnL (askAll no ev sq L).1) (fwL (askAll no ev sq L).1) ∧ Rows prK w' w.heap.size w.heap.size 134 v (askAll no ev sq L).2.2 ∧ Chg w w' (fun k => k = g ∨ k = bn ∨ k = bw) := by
  refine (callsIn_wide.1 (ask_in w g bn bw ev pa no sq _ _ h hno hev hpa hsq hat (L.map Pr.id) (dist_ids hd) hks (by rw [List.length_map]; exact hlen) (fn_ids L))).mono ?_
  rintro e w' ⟨v, s, hs, rfl, h1, h2, -, h3⟩
  have := ask_fold no ev L [] sq [] hsq.1 hd
  simp only [List.nil_append] at this
  rw [this] at hs
  subst hs
  exact ⟨v, rfl, h1, h2, h3⟩
theorem waitP_any : Calls Try.prog 75 #[.pointer (some ⟨g, 0, none⟩)] w fun e w' => ∃ v, e = .returned v ∧ ProV w' g bn bw ev pa no sq (fnL L) (fwL L) ∧ Rows prK w' w.heap.size w.heap.size 134 v (waitsOf L) ∧ Chg w w' (fun k => k = g ∨ k = bn ∨ k = bw) := by
  refine (callsIn_wide.1 (wait_in w g bn bw ev pa no sq _ _ h hno hev hpa hsq hat (L.map Pr.id) (dist_ids hd) hks (by rw [List.length_map]; exact hlen) (fn_ids L))).mono ?_
  rintro e w' ⟨v, s, hs, rfl, h1, h2, -, h3⟩
  have := wait_fold sq L hd L [] [] rfl
  simp only [List.nil_append] at this
  rw [this] at hs
  subst hs
  exact ⟨v, rfl, h1, h2, h3⟩
end
theorem newX24 (w : World) (ev pa : Int) (h1 : 1 ≤ ev) (h2 : ev ≤ 10000) (h3 : 1 ≤ pa) (h4 : pa ≤ ev) :
    Calls Try.prog 81 #[.int .i64 ev, .int .i64 pa] w fun e w' => ∃ g X, e = .returned (.pointer (some ⟨g, 0, none⟩)) ∧ TabP w' X g ev pa 0 0 [] ∧ (∀ k, X k → w.heap.size ≤ k) ∧ Below w.heap.size w w' := by
  refine (newP_in w ev pa h1 h2 h3 h4).mono ?_
  rintro e w' ⟨g, bn, bw, rfl, hP, q1, q2, q3, hB⟩
  refine ⟨g, fun k => k = g ∨ k = bn ∨ k = bw, rfl, ⟨bn, bw, hP, ⟨⟨h1, h2⟩, ⟨h3, h4⟩, by omega, by omega, List.Pairwise.nil, by simp⟩, fun k q => q, fun k q => ?_⟩, fun k q => ?_, hB⟩
  · have := hP.lt; omega
  · omega
def addC (L : List Pr) (id no : Int) : Int × List Pr := if id < 0 ∨ 255 < id then (9, L) else if (findP L id).isSome then (13, L) else (0, insP L id (no + 1))
def resC (L : List Pr) (id s : Int) : Int × List Pr := match findP L id with
  | some r => if r.sq = s ∧ 0 < r.sq then (0, clrP L id) else (7, L)
  | none => (7, L)
def tick1 (no pa : Int) (L : List Pr) : List Pr := L.map (lostR (no + 1) pa)
theorem GoodP.lost {ev pa no sq : Int} {L : List Pr} (h : GoodP ev pa no sq L) : GoodP ev pa (no + 1) sq (tick1 no pa L) :=
  ⟨h.ev_, h.pa_, by have := h.no_; omega, h.sq_, dist_of_ids (lost_ids _ _ L) h.dist, fun r hr => by
    obtain ⟨a, ha, rfl⟩ := List.mem_map.1 hr
    exact lostR_in ((h.rows a ha).up (by omega) (Int.le_refl _))⟩
theorem GoodP.ask {ev pa no sq : Int} {L : List Pr} (h : GoodP ev pa no sq L) : GoodP ev pa no (askAll no ev sq L).2.1 (askAll no ev sq L).1 :=
  ⟨h.ev_, h.pa_, h.no_, Int.le_trans h.sq_ (ask_sq no ev L sq).1, dist_of_ids (ask_ids no ev L sq) h.dist, ask_rows no ev h.no_ L sq h.sq_ h.rows⟩
section
variable {w : World} {X : Nat → Prop} {g : Nat} {ev pa no sq : Int} {L : List Pr} (h : TabP w X g ev pa no sq L)
include h
theorem addX24 (id : Int) (hno : no ≤ 1099511627776) : Calls Try.prog 72 #[.pointer (some ⟨g, 0, none⟩), .int .i64 id] w fun e w' => e = .returned (.int .i64 (addC L id no).1) ∧ TabP w' X g ev pa no sq (addC L id no).2 ∧ Chg w w' X := by
  have h0 := h
  obtain ⟨bn, bw, hP, hG, hX, hlt⟩ := h
  unfold addC
  by_cases hid : id < 0 ∨ 255 < id
  · simp only [if_pos hid]
    refine (addP_bad w g bn bw ev pa no sq _ _ hP id hid).mono ?_
    rintro e w' ⟨rfl, rfl⟩
    exact ⟨rfl, h0, Chg.refl _ _⟩
  simp only [if_neg hid]
  cases hf : findP L id with
  | some r =>
    refine (addP_there w g bn bw ev pa no sq _ _ hP id (by omega) r.nx (by unfold fnL; rw [hf]; rfl)).mono ?_
    rintro e w' ⟨rfl, rfl⟩
    exact ⟨rfl, h0, Chg.refl _ _⟩
  | none =>
    have hn : ∀ a ∈ L, a.id ≠ id := fun a ha e => by rw [← e, findP_some hG.dist ha] at hf; cases hf
    refine (addP_new w g bn bw ev pa no sq _ _ hP id (by omega) ⟨hG.no_, hno⟩ (by unfold fnL; rw [hf]; rfl)).mono ?_
    rintro e w' ⟨rfl, hP', hC⟩
    rw [← ins_fn hn, ← ins_fw (nx := no + 1) hn] at hP'
    refine ⟨rfl, ⟨bn, bw, hP', ⟨hG.ev_, hG.pa_, hG.no_, hG.sq_, ins_dist hG.dist hn, fun r hr => ?_⟩, hX, fun k hk => Nat.lt_of_lt_of_le (hlt k hk) hC.size⟩, hC.mono fun i _ q => hX i (by subst q; exact .inr (.inl rfl))⟩
    rcases ins_mem hr with hr | rfl
    · exact hG.rows r hr
    · exact ⟨by show 0 ≤ id ∧ id ≤ 255; omega, ⟨Int.le_refl _, hG.sq_⟩, fun q => absurd q (by show ¬ (0 : Int) < 0; omega)⟩
theorem remX24 (id : Int) (hid : IdIn id) : Calls Try.prog 73 #[.pointer (some ⟨g, 0, none⟩), .int .i64 id] w fun e w' => e = .returned (.bool (findP L id).isSome) ∧ TabP w' X g ev pa no sq (remP L id) ∧ Chg w w' X := by
  obtain ⟨bn, bw, hP, hG, hX, hlt⟩ := h
  have fin : ∀ (e : Ending) (w' : World) (b : Bool), (findP L id).isSome = b → (e = .returned (.bool b) ∧ ProV w' g bn bw ev pa no sq (upd (fnL L) id none) (upd (fwL L) id none) ∧ Chg w w' (fun k => k = bn ∨ k = bw)) →
      (e = .returned (.bool (findP L id).isSome) ∧ TabP w' X g ev pa no sq (remP L id) ∧ Chg w w' X) := by
    rintro e w' b hb ⟨rfl, hP', hC⟩
    rw [← rem_fn, ← rem_fw] at hP'
    exact ⟨by rw [hb], ⟨bn, bw, hP', ⟨hG.ev_, hG.pa_, hG.no_, hG.sq_, List.Pairwise.sublist List.filter_sublist hG.dist, fun r hr => hG.rows r (List.mem_filter.1 hr).1⟩, hX, fun k hk => Nat.lt_of_lt_of_le (hlt k hk) hC.size⟩, hC.mono fun i _ q => hX i (.inr q)⟩
  cases hf : findP L id with
  | some r => rw [← hf]; exact (remP_hit w g bn bw ev pa no sq _ _ hP id hid r.nx (by unfold fnL; rw [hf]; rfl)).mono fun e w' q => fin e w' true (by rw [hf]; rfl) q
  | none => rw [← hf]; exact (remP_miss w g bn bw ev pa no sq _ _ hP id hid (by unfold fnL; rw [hf]; rfl)).mono fun e w' q => fin e w' false (by rw [hf]; rfl) q
theorem resX24 (id s : Int) (hid : IdIn id) : Calls Try.prog 74 #[.pointer (some ⟨g, 0, none⟩), .agg #[.int .i64 id, .int .i64 s]] w fun e w' => e = .returned (.int .i64 (resC L id s).1) ∧ TabP w' X g ev pa no sq (resC L id s).2 ∧ Chg w w' X := by
  have h0 := h
  obtain ⟨bn, bw, hP, hG, hX, hlt⟩ := h
  unfold resC
  cases hf : findP L id with
  | none =>
    refine (resP_miss w g bn bw ev pa no sq _ _ hP id s hid (by unfold fwL; rw [hf]; rfl)).mono ?_
    rintro e w' ⟨rfl, hb⟩
    exact ⟨rfl, h0.nx hb, Chg.of_below hb⟩
  | some r =>
    by_cases hs : 0 < r.sq
    · have hw : fwL L id = some (r.sq, r.at_) := by unfold fwL; rw [hf]; exact if_pos hs
      by_cases he : r.sq = s
      · simp only [if_pos (⟨he, hs⟩ : r.sq = s ∧ 0 < r.sq)]
        obtain ⟨hr, hrid⟩ := findP_get hf
        subst hrid
        refine (resP_ok w g bn bw ev pa no sq _ _ hP r.id s hid (r.sq, r.at_) hw he).mono ?_
        rintro e w' ⟨rfl, hP', hC⟩
        rw [← clr_fn hG.dist hr, ← clr_fw hG.dist hr] at hP'
        exact ⟨rfl, ⟨bn, bw, hP', ⟨hG.ev_, hG.pa_, hG.no_, hG.sq_, dist_of_ids (clr_ids L r.id) hG.dist, clr_in hG.rows r.id⟩, hX, fun k hk => Nat.lt_of_lt_of_le (hlt k hk) hC.size⟩, hC.mono fun i _ q => hX i (by subst q; exact .inr (.inr rfl))⟩
      · simp only [if_neg (fun q : r.sq = s ∧ 0 < r.sq => he q.1)]
        refine (resP_bad w g bn bw ev pa no sq _ _ hP id s hid (r.sq, r.at_) hw he).mono ?_
        rintro e w' ⟨rfl, hb⟩
        exact ⟨rfl, h0.nx hb, Chg.of_below hb⟩
    · simp only [if_neg (fun q : r.sq = s ∧ 0 < r.sq => hs q.2)]
      refine (resP_miss w g bn bw ev pa no sq _ _ hP id s hid (by unfold fwL; rw [hf]; exact if_neg hs)).mono ?_
      rintro e w' ⟨rfl, hb⟩
      exact ⟨rfl, h0.nx hb, Chg.of_below hb⟩
theorem waitX24 (hno : no ≤ 1099511627776) (hsq : sq ≤ 1000000000) : Calls Try.prog 75 #[.pointer (some ⟨g, 0, none⟩)] w fun e w' => ∃ v, e = .returned v ∧ Rows prK w' w.heap.size w.heap.size 134 v (waitsOf L) ∧ TabP w' X g ev pa no sq L ∧ Chg w w' X := by
  obtain ⟨bn, bw, hP, hG, hX, hlt⟩ := h
  have q1 := hG.ev_
  have q2 := hG.pa_
  refine (waitP_any w g bn bw ev pa no sq L hP ⟨hG.no_, hno⟩ (by omega) (by omega) ⟨hG.sq_, hsq⟩ hG.at_ hG.dist hG.idIn (by have := hG.len; omega)).mono ?_
  rintro e w' ⟨v, rfl, hP', hr, hC⟩
  exact ⟨v, rfl, hr, ⟨bn, bw, hP', hG, hX, fun k hk => Nat.lt_of_lt_of_le (hlt k hk) hC.size⟩, hC.mono fun i _ q => hX i q⟩
end
set_option maxRecDepth 100000 in
set_option maxHeartbeats 4000000 in
theorem tickX24 {w : World} {X : Nat → Prop} {g : Nat} {ev pa no sq : Int} {L : List Pr} (h : TabP w X g ev pa no sq L) (hno : no < 1099511627776) (hsq : sq ≤ 1000000000) :
    Calls Try.prog 71 #[.pointer (some ⟨g, 0, none⟩)] w fun e w' => ∃ v1 v2, e = .returned (.tuple #[v2, v1]) ∧ Rows prK w' w.heap.size w.heap.size 134 v1 (lostOf (no + 1) pa L) ∧ Rows prK w' w.heap.size w.heap.size 134 v2 (askAll (no + 1) ev sq (tick1 no pa L)).2.2 ∧ TabP w' X g ev pa (no + 1) (askAll (no + 1) ev sq (tick1 no pa L)).2.1 (askAll (no + 1) ev sq (tick1 no pa L)).1 ∧ Chg w w' X := by
  obtain ⟨bn, bw, hP, hG, hX, hlt⟩ := h
  have hn0 := hG.no_
  have q1 := hG.ev_
  have q2 := hG.pa_
  have g2 : w.cell? ⟨g, 2, none⟩ = some (.int .i64 no) := hP.blk.cellv 2 rfl
  have gf := hP.blk.frozen 2
  have lg := hP.blk.lt
  have d1 : decide (1099511627776 ≤ no) = false := by simp; omega
  have kw : IntKind.i64.wrap (no + 1) = no + 1 := IntWalk.i64_in _ (by omega)
  obtain ⟨hb1, hg1⟩ := blk_store hP.blk 2 (.int .i64 (no + 1))
  replace hb1 := Lib.hid hb1
  replace hg1 := Lib.hid hg1
  go_enter Try.func71, Try.ntmps71
  go_upto_region 4 with (go_at_call 150; refine (madeP_in hP).mono ?_; rintro e w' ⟨rfl, rfl⟩)
  have hC1 : Chg w (w.setCell ⟨g, 2, none⟩ (.int .i64 (no + 1))) (fun k => k = g) := Chg.of_grown hg1.out rfl
  have hP1 : ProV (w.setCell ⟨g, 2, none⟩ (.int .i64 (no + 1))) g bn bw ev pa (no + 1) sq (fnL L) (fwL L) := ⟨hb1.out, hP.en.chg hC1 (fun e => hP.gn e.symm), hP.ew.chg hC1 (fun e => hP.gw e.symm), hP.ne⟩
  clear hb1 hg1 g2 gf lg
  generalize w.setCell ⟨g, 2, none⟩ (.int .i64 (no + 1)) = w1 at *
  have hat1 : ∀ id p, fwL L id = some p → 0 ≤ p.2 ∧ p.2 ≤ no + 1 := fun id p hp => by have := hG.at_ id p hp; omega
  have hG2 := hG.lost
  have hlen := hG.len
  have hl2 : (tick1 no pa L).length ≤ 1000 := by unfold tick1; rw [List.length_map]; omega
  have hl1 : L.length ≤ 1000 := by omega
  have hXg := hX
  replace hX := Lib.hid hX
  go_wp2_with (first
    | (go_at_call 151; refine (lostP_any w1 g bn bw ev pa (no + 1) sq L hP1 (by omega) (by omega) (by omega) ⟨hG.sq_, hsq⟩ hat1 hG.dist hG.idIn hl1).mono ?_; rintro e w2 ⟨v1, rfl, hP2, hr1, hC2⟩)
    | (go_at_call 152; refine (askP_any w2 g bn bw ev pa (no + 1) sq (tick1 no pa L) hP2 (by omega) (by omega) (by omega) ⟨hG.sq_, hsq⟩ hG2.at_ hG2.dist hG2.idIn hl2).mono ?_; rintro e w3 ⟨v2, rfl, hP3, hr2, hC3⟩))
  go_ret2
  have hz1 := hC1.size
  have hz2 := hC2.size
  have hlt3 := hP.lt
  have hr1' : Rows prK w3 w1.heap.size w1.heap.size 134 v1 (lostOf (no + 1) pa L) := ⟨hC3.own hr1.1 fun k hk q => by have := (hr1.1.lt k hk).1; omega, fun _ _ => trivial⟩
  have hC := ((hC1.mono (Y := fun k => k = g ∨ k = bn ∨ k = bw) fun _ _ q => .inl q).trans hC2 fun _ _ q => q).trans hC3 fun _ _ q => q
  exact ⟨v1, v2, rfl, hr1'.less hz1 hz1, hr2.less (Nat.le_trans hz1 hz2) (Nat.le_trans hz1 hz2), ⟨bn, bw, hP3, hG2.ask, hX.out, fun k hk => Nat.lt_of_lt_of_le (hlt k hk) hC.size⟩, hC.mono fun i _ q => hX.out i q⟩
set_option maxRecDepth 100000 in
theorem nowX24 {w : World} {X : Nat → Prop} {g : Nat} {ev pa no sq : Int} {L : List Pr} (h : TabP w X g ev pa no sq L) :
    Calls Try.prog 77 #[.pointer (some ⟨g, 0, none⟩)] w fun e w' => e = .returned (.int .i64 no) ∧ w = w' := by
  obtain ⟨bn, bw, hP, hG, hX, hlt⟩ := h
  have g2 : w.cell? ⟨g, 2, none⟩ = some (.int .i64 no) := hP.blk.cellv 2 rfl
  have lg := hP.blk.lt
  go_enter Try.func77, Try.ntmps77
  go_wp2_with (go_at_call 150; refine (madeP_in hP).mono ?_; rintro e w' ⟨rfl, rfl⟩)
  go_ret
  exact ⟨rfl, rfl⟩
set_option maxRecDepth 100000 in
theorem idsX24 {w : World} {X : Nat → Prop} {g : Nat} {ev pa no sq : Int} {L : List Pr} (h : TabP w X g ev pa no sq L) :
    Calls Try.prog 76 #[.pointer (some ⟨g, 0, none⟩)] w fun e w' => ∃ v, e = .returned v ∧ Rows intK w' w.heap.size w.heap.size 3 v (L.map Pr.id) ∧ Below w.heap.size w w' := by
  obtain ⟨bn, bw, hP, hG, hX, hlt⟩ := h
  have g4 : w.cell? ⟨g, 4, none⟩ = some (.map (some bn)) := hP.blk.cellv 4 rfl
  have lg := hP.blk.lt
  have hB := (Below.refl w.heap.size w).alloc (Nat.le_refl _) (.cells #[.map (some bn)] 122)
  have hp := Blk.new w 122 #[.map (some bn)]
  obtain ⟨le, hE, hperm⟩ := hP.en.ids ((dist_ids hG.dist).imp fun h => by omega) (fn_ids L)
  have hsrt := Lib.hid (sorted_ids hperm (dist_ids hG.dist))
  have hpl := Lib.hid hperm.length_eq
  have hE2 := hE.alloc (.cells #[.map (some bn)] 122)
  have hk := entF_keys (enc := nV) le
  have hll : (le.map (entF nV)).length ≤ 1000000 := by have q := hperm.length_eq; rw [List.length_map, List.length_map] at q; have := hG.len; rw [List.length_map]; omega
  have hidI := hG.idIn
  go_enter Try.func76, Try.ntmps76
  go_wp2_with (first
    | (go_at_call 150; refine (madeP_in hP).mono ?_; rintro e w' ⟨rfl, rfl⟩)
    | (go_at_call 154; refine (keysS_any w bn).mono ?_; rintro e w5 ⟨rfl, rfl⟩)
    | (go_at_call 139; refine (sortedS_any _ w.heap.size bn _ (le.map Prod.fst) hp.lt (hp.cellv 0 rfl) hE2 hk hll).mono ?_; rintro e w7 ⟨lv, rfl, hown, hB7⟩))
  go_ret
  rw [hsrt.out, hpl.out, ← intI_flat] at hown
  have hz := hB.size
  exact ⟨_, rfl, (show Rows intK w7 _ _ 3 lv (L.map Pr.id) from ⟨hown, fun z hz => WalkArith.wf_i64 (hidI z hz)⟩).less hz hz, hB.trans (hB7.mono hz)⟩
set_option maxRecDepth 100000 in
theorem pAddNil (w : World)  (id : Int) : Calls Try.prog 72 #[.pointer none, .int .i64 id] w fun e w' => e = .returned (.int .i64 1) ∧ w = w' := by
  go_enter Try.func72, Try.ntmps72
  go_wp2_with (go_at_call 150; refine (madeP_nil w).mono ?_; rintro e w' ⟨rfl, rfl⟩)
  go_ret
  exact ⟨rfl, rfl⟩
set_option maxRecDepth 100000 in
theorem pAddZero (w : World) (g : Nat) (ev pa no sq : Int) (m : Option Nat) (h : Blk w g 125 #[.int .i64 ev, .int .i64 pa, .int .i64 no, .int .i64 sq, .map none, .map m]) (id : Int) : Calls Try.prog 72 #[.pointer (some ⟨g, 0, none⟩), .int .i64 id] w fun e w' => e = .returned (.int .i64 1) ∧ w = w' := by
  go_enter Try.func72, Try.ntmps72
  go_wp2_with (go_at_call 150; refine (madeP_zero w g ev pa no sq m h).mono ?_; rintro e w' ⟨rfl, rfl⟩)
  go_ret
  exact ⟨rfl, rfl⟩
set_option maxRecDepth 100000 in
theorem pRemoveNil (w : World)  (id : Int) : Calls Try.prog 73 #[.pointer none, .int .i64 id] w fun e w' => e = .returned (.bool false) ∧ w = w' := by
  go_enter Try.func73, Try.ntmps73
  go_wp2_with (go_at_call 150; refine (madeP_nil w).mono ?_; rintro e w' ⟨rfl, rfl⟩)
  go_ret
  exact ⟨rfl, rfl⟩
set_option maxRecDepth 100000 in
theorem pRemoveZero (w : World) (g : Nat) (ev pa no sq : Int) (m : Option Nat) (h : Blk w g 125 #[.int .i64 ev, .int .i64 pa, .int .i64 no, .int .i64 sq, .map none, .map m]) (id : Int) : Calls Try.prog 73 #[.pointer (some ⟨g, 0, none⟩), .int .i64 id] w fun e w' => e = .returned (.bool false) ∧ w = w' := by
  go_enter Try.func73, Try.ntmps73
  go_wp2_with (go_at_call 150; refine (madeP_zero w g ev pa no sq m h).mono ?_; rintro e w' ⟨rfl, rfl⟩)
  go_ret
  exact ⟨rfl, rfl⟩
set_option maxRecDepth 100000 in
theorem pTickNil (w : World)  : Calls Try.prog 71 #[.pointer none] w fun e w' => e = .returned (.tuple #[.slice none 0 0, .slice none 0 0]) ∧ w = w' := by
  go_enter Try.func71, Try.ntmps71
  go_wp2_with (go_at_call 150; refine (madeP_nil w).mono ?_; rintro e w' ⟨rfl, rfl⟩)
  go_ret2
  exact ⟨rfl, rfl⟩
set_option maxRecDepth 100000 in
theorem pTickZero (w : World) (g : Nat) (ev pa no sq : Int) (m : Option Nat) (h : Blk w g 125 #[.int .i64 ev, .int .i64 pa, .int .i64 no, .int .i64 sq, .map none, .map m]) : Calls Try.prog 71 #[.pointer (some ⟨g, 0, none⟩)] w fun e w' => e = .returned (.tuple #[.slice none 0 0, .slice none 0 0]) ∧ w = w' := by
  go_enter Try.func71, Try.ntmps71
  go_wp2_with (go_at_call 150; refine (madeP_zero w g ev pa no sq m h).mono ?_; rintro e w' ⟨rfl, rfl⟩)
  go_ret2
  exact ⟨rfl, rfl⟩
set_option maxRecDepth 100000 in
theorem pIdsNil (w : World)  : Calls Try.prog 76 #[.pointer none] w fun e w' => e = .returned (.slice none 0 0) ∧ w = w' := by
  go_enter Try.func76, Try.ntmps76
  go_wp2_with (go_at_call 150; refine (madeP_nil w).mono ?_; rintro e w' ⟨rfl, rfl⟩)
  go_ret
  exact ⟨rfl, rfl⟩
set_option maxRecDepth 100000 in
theorem pIdsZero (w : World) (g : Nat) (ev pa no sq : Int) (m : Option Nat) (h : Blk w g 125 #[.int .i64 ev, .int .i64 pa, .int .i64 no, .int .i64 sq, .map none, .map m]) : Calls Try.prog 76 #[.pointer (some ⟨g, 0, none⟩)] w fun e w' => e = .returned (.slice none 0 0) ∧ w = w' := by
  go_enter Try.func76, Try.ntmps76
  go_wp2_with (go_at_call 150; refine (madeP_zero w g ev pa no sq m h).mono ?_; rintro e w' ⟨rfl, rfl⟩)
  go_ret
  exact ⟨rfl, rfl⟩
set_option maxRecDepth 100000 in
theorem pNowNil (w : World)  : Calls Try.prog 77 #[.pointer none] w fun e w' => e = .returned (.int .i64 0) ∧ w = w' := by
  go_enter Try.func77, Try.ntmps77
  go_wp2_with (go_at_call 150; refine (madeP_nil w).mono ?_; rintro e w' ⟨rfl, rfl⟩)
  go_ret
  exact ⟨rfl, rfl⟩
set_option maxRecDepth 100000 in
theorem pNowZero (w : World) (g : Nat) (ev pa no sq : Int) (m : Option Nat) (h : Blk w g 125 #[.int .i64 ev, .int .i64 pa, .int .i64 no, .int .i64 sq, .map none, .map m]) : Calls Try.prog 77 #[.pointer (some ⟨g, 0, none⟩)] w fun e w' => e = .returned (.int .i64 0) ∧ w = w' := by
  go_enter Try.func77, Try.ntmps77
  go_wp2_with (go_at_call 150; refine (madeP_zero w g ev pa no sq m h).mono ?_; rintro e w' ⟨rfl, rfl⟩)
  go_ret
  exact ⟨rfl, rfl⟩
set_option maxRecDepth 100000 in
theorem pCopyNil (w : World)  : Calls Try.prog 78 #[.pointer none] w fun e w' => e = .returned (.pointer none) ∧ w = w' := by
  go_enter Try.func78, Try.ntmps78
  go_wp2_with (go_at_call 150; refine (madeP_nil w).mono ?_; rintro e w' ⟨rfl, rfl⟩)
  go_ret
  exact ⟨rfl, rfl⟩
set_option maxRecDepth 100000 in
theorem pCopyZero (w : World) (g : Nat) (ev pa no sq : Int) (m : Option Nat) (h : Blk w g 125 #[.int .i64 ev, .int .i64 pa, .int .i64 no, .int .i64 sq, .map none, .map m]) : Calls Try.prog 78 #[.pointer (some ⟨g, 0, none⟩)] w fun e w' => e = .returned (.pointer none) ∧ w = w' := by
  go_enter Try.func78, Try.ntmps78
  go_wp2_with (go_at_call 150; refine (madeP_zero w g ev pa no sq m h).mono ?_; rintro e w' ⟨rfl, rfl⟩)
  go_ret
  exact ⟨rfl, rfl⟩
set_option maxRecDepth 100000 in
theorem pWaitingNil (w : World)  : Calls Try.prog 75 #[.pointer none] w fun e w' => e = .returned (.slice none 0 0) ∧ Below w.heap.size w w' := by
  have hB := (Below.refl w.heap.size w).alloc (Nat.le_refl _) (.cells #[.pointer none] 126)
  go_enter Try.func75, Try.ntmps75
  go_wp2_with (go_at_call 150; refine (madeP_nil _).mono ?_; rintro e w' ⟨rfl, rfl⟩)
  go_ret
  exact ⟨rfl, hB⟩
set_option maxRecDepth 100000 in
theorem pWaitingZero (w : World) (g : Nat) (ev pa no sq : Int) (m : Option Nat) (h : Blk w g 125 #[.int .i64 ev, .int .i64 pa, .int .i64 no, .int .i64 sq, .map none, .map m]) : Calls Try.prog 75 #[.pointer (some ⟨g, 0, none⟩)] w fun e w' => e = .returned (.slice none 0 0) ∧ Below w.heap.size w w' := by
  have hB := (Below.refl w.heap.size w).alloc (Nat.le_refl _) (.cells #[.pointer (some ⟨g, 0, none⟩)] 126)
  have h1 := h.below hB h.lt
  go_enter Try.func75, Try.ntmps75
  go_wp2_with (go_at_call 150; refine (madeP_zero _ g ev pa no sq m h1).mono ?_; rintro e w' ⟨rfl, rfl⟩)
  go_ret
  exact ⟨rfl, hB⟩
set_option maxRecDepth 100000 in
theorem pResultNil (w : World)  (id s : Int) : Calls Try.prog 74 #[.pointer none, .agg #[.int .i64 id, .int .i64 s]] w fun e w' => e = .returned (.int .i64 1) ∧ Below w.heap.size w w' := by
  have hB := (Below.refl w.heap.size w).alloc (Nat.le_refl _) (.cells #[.int .i64 id, .int .i64 s] 134)
  go_enter Try.func74, Try.ntmps74
  go_wp2_with (go_at_call 150; refine (madeP_nil _).mono ?_; rintro e w' ⟨rfl, rfl⟩)
  go_ret
  exact ⟨rfl, hB⟩
set_option maxRecDepth 100000 in
theorem pResultZero (w : World) (g : Nat) (ev pa no sq : Int) (m : Option Nat) (h : Blk w g 125 #[.int .i64 ev, .int .i64 pa, .int .i64 no, .int .i64 sq, .map none, .map m]) (id s : Int) : Calls Try.prog 74 #[.pointer (some ⟨g, 0, none⟩), .agg #[.int .i64 id, .int .i64 s]] w fun e w' => e = .returned (.int .i64 1) ∧ Below w.heap.size w w' := by
  have hB := (Below.refl w.heap.size w).alloc (Nat.le_refl _) (.cells #[.int .i64 id, .int .i64 s] 134)
  have h1 := h.below hB h.lt
  go_enter Try.func74, Try.ntmps74
  go_wp2_with (go_at_call 150; refine (madeP_zero _ g ev pa no sq m h1).mono ?_; rintro e w' ⟨rfl, rfl⟩)
  go_ret
  exact ⟨rfl, hB⟩
end Go.Proofs.Ytejgekoinbdhjaa
