import Derived.Test.YtgdeecmhhbdjgaaGreatMVipActs21
import Derived.Test.YtgdeecmhhbdjgaaGreatMVipActs34
import Derived.Test.YtgdeecmhhbdjgaaGreatMVipActs11
/- vip: the program's Copy: the parts (a vip that has some of its counters). -/
namespace Go.Proofs.YtgdeecmhhbdjgaaGreat
set_option linter.unusedVariables false
open Go Go.RowKit Go.Maps Go.MapKept

structure VipQ (w : World) (g d p pb f m : Nat) (XF : Nat → Prop) (kb : Int → Nat) (l : List Int) (s : VpS) : Prop where
  blk : Blk w g 62 (vpC (vpV s d p f m))
  dmp : Blk w d 223 (dm.dampCs s.dF s.dS s.dR s.dC s.dH s.pe s.hd)
  pol : PoolIn w p pb s.pc s.M
  flw : TabF w XF f s.ro s.idl s.now s.n s.E
  ent : Ent Tryz.prog 3 w m (l.map (cntE kb))
  cnt : ∀ i ∈ l, Blk w (kb i) 212 (rs.riseCs s.ri s.fa (s.K i).1 (s.K i).2)
  inj : ∀ i ∈ l, ∀ j ∈ l, kb i = kb j → i = j
  pbm : pb ≠ m
  sep : ∀ k, XF k → k ≠ g ∧ k ≠ d ∧ k ≠ p ∧ k ≠ pb ∧ k ≠ m ∧ ∀ i ∈ l, k ≠ kb i
section
variable {w w' : World} {g d p pb f m : Nat} {XF Y X : Nat → Prop} {kb : Int → Nat} {s : VpS} {l : List Int}
theorem VipQ.nx (h : VipQ w g d p pb f m XF kb l s) (hb : Below w.heap.size w w') : VipQ w' g d p pb f m XF kb l s :=
  ⟨h.blk.below hb h.blk.lt, h.dmp.below hb h.dmp.lt, h.pol.nx hb, h.flw.fwd hb, h.ent.below hb h.ent.lt, fun i hi => (h.cnt i hi).below hb (h.cnt i hi).lt, h.inj, h.pbm, h.sep⟩
theorem VipQ.lt (h : VipQ w g d p pb f m XF kb l s) : g < w.heap.size ∧ d < w.heap.size ∧ p < w.heap.size ∧ pb < w.heap.size ∧ m < w.heap.size ∧ (∀ k, XF k → k < w.heap.size) ∧ ∀ i ∈ l, kb i < w.heap.size :=
  ⟨h.blk.lt, h.dmp.lt, h.pol.ltg, h.pol.ltb, h.ent.lt, h.flw.good.2.2.2.2, fun i hi => (h.cnt i hi).lt⟩
theorem VipQ.add {kn : Nat} {i : Int} (h : VipQ w g d p pb f m XF kb l s) (hc : Chg w w' (fun k => k = m)) (hi : i ∉ l) (hm : Ent Tryz.prog 3 w' m (l.map (cntE kb) ++ [(.int .i64 i, .pointer (some ⟨kn, 0, none⟩))])) (hk : Blk w' kn 212 (rs.riseCs s.ri s.fa (s.K i).1 (s.K i).2)) (hkn : w.heap.size ≤ kn) :
    VipQ w' g d p pb f m XF (fun j => if j = i then kn else kb j) (l ++ [i]) s := by
  have hold : ∀ j ∈ l, (if j = i then kn else kb j) = kb j := fun j hj => if_neg fun (e : j = i) => hi (e ▸ hj)
  have hnew : (if i = i then kn else kb i) = kn := if_pos rfl
  obtain ⟨l1, l2, l3, l4, l5, l6, l7⟩ := h.lt
  refine ⟨hc.blk h.blk (ent_blk_ne h.ent h.blk), hc.blk h.dmp (ent_blk_ne h.ent h.dmp), ⟨hc.blk h.pol.1 (ent_blk_ne h.ent h.pol.1), hc.ent h.pol.2 h.pbm⟩, h.flw.chg hc fun k hk => (h.sep k hk).2.2.2.2.1, ?_, fun j hj => ?_, fun j hj j' hj' e => ?_, h.pbm, fun k hX => ?_⟩
  · rw [List.map_append]
    have e1 : l.map (cntE kb) = l.map (cntE fun j => if j = i then kn else kb j) := List.map_congr_left fun j hj => by
      show (_, Value.pointer (some ⟨kb j, 0, none⟩)) = (_, Value.pointer (some ⟨if j = i then kn else kb j, 0, none⟩))
      rw [hold j hj]
    have e2 : [i].map (cntE fun j => if j = i then kn else kb j) = [(.int .i64 i, .pointer (some ⟨kn, 0, none⟩))] := by
      show [(_, Value.pointer (some ⟨if i = i then kn else kb i, 0, none⟩))] = _
      rw [hnew]
    rw [← e1, e2]
    exact hm
  · rcases List.mem_append.1 hj with q | q
    · show Blk w' (if j = i then kn else kb j) _ _
      rw [hold j q]
      exact hc.blk (h.cnt j q) (ent_blk_ne h.ent (h.cnt j q))
    · obtain rfl : j = i := by simpa using q
      show Blk w' (if j = j then kn else kb j) _ _
      rw [if_pos rfl]
      exact hk
  · replace e : (if j = i then kn else kb j) = (if j' = i then kn else kb j') := e
    rcases List.mem_append.1 hj with q | q <;> rcases List.mem_append.1 hj' with q' | q'
    · rw [hold j q, hold j' q'] at e
      exact h.inj j q j' q' e
    · obtain rfl : j' = i := by simpa using q'
      rw [hold j q, if_pos rfl] at e
      have := l7 j q
      omega
    · obtain rfl : j = i := by simpa using q
      rw [hold j' q', if_pos rfl] at e
      have := l7 j' q'
      omega
    · rw [show j = i by simpa using q, show j' = i by simpa using q']
  · obtain ⟨a1, a2, a3, a4, a5, a6⟩ := h.sep k hX
    refine ⟨a1, a2, a3, a4, a5, fun j hj => ?_⟩
    show k ≠ if j = i then kn else kb j
    rcases List.mem_append.1 hj with q | q
    · rw [hold j q]
      exact a6 j q
    · obtain rfl : j = i := by simpa using q
      rw [if_pos rfl]
      have := l6 k hX
      omega
theorem VipQ.all (h : VipQ w g d p pb f m XF kb l s) (hp : l.Perm (idsM s.M)) : VipR w g d p pb f m XF kb s :=
  ⟨h.blk, h.dmp, h.pol, h.flw, ⟨_, h.ent, hp.map _⟩, fun i hi => h.cnt i (hp.mem_iff.2 hi), fun i hi j hj => h.inj i (hp.mem_iff.2 hi) j (hp.mem_iff.2 hj), h.pbm, fun k hk => ⟨(h.sep k hk).1, (h.sep k hk).2.1, (h.sep k hk).2.2.1, (h.sep k hk).2.2.2.1, (h.sep k hk).2.2.2.2.1, fun i hi => (h.sep k hk).2.2.2.2.2 i (hp.mem_iff.2 hi)⟩⟩
end
theorem dmCopy (F S R C H p : Int) (h : Bool) (g : Nat) (w : World) (hF : 1 ≤ F) (hb : Blk w g 223 (dm.dampCs F S R C H p h)) :
    Calls Tryz.prog 99 #[.pointer (some ⟨g, 0, none⟩)] w fun e w' => ∃ d, e = .returned (.pointer (some ⟨d, 0, none⟩)) ∧ Blk w' d 223 (dm.dampCs F S R C H p h) ∧ w.heap.size ≤ d ∧ Below w.heap.size w w' :=
  (dm.copy_any F S R C H p h g w hF hb).mono fun e w' q => ⟨_, q.1, q.2.1, Nat.le_refl _, q.2.2⟩
theorem cntCopy (r f n : Int) (u : Bool) (g : Nat) (w : World) (hr : 0 < r) (hb : Blk w g 212 (rs.riseCs r f u n)) :
    Calls Tryz.prog 102 #[.pointer (some ⟨g, 0, none⟩)] w fun e w' => ∃ k, e = .returned (.pointer (some ⟨k, 0, none⟩)) ∧ Blk w' k 212 (rs.riseCs r f u n) ∧ w.heap.size ≤ k ∧ Below w.heap.size w w' :=
  (rs.copy_any r f n u g w hr hb).mono fun e w' q => ⟨_, q.1, q.2.1, Nat.le_refl _, q.2.2⟩
def CopyC (w : World) (s : VpS) (v : Value) (wx : World) : Prop :=
  ∃ g d p pb f m XF, v = .pointer (some ⟨g, 0, none⟩) ∧ VipQ wx g d p pb f m XF (fun _ => 0) [] s ∧ (∀ k, Foot g d p pb m XF (fun _ => 0) [] k → w.heap.size ≤ k) ∧ Below w.heap.size w wx
end Go.Proofs.YtgdeecmhhbdjgaaGreat

/- vip: the program's Copy. -/
namespace Go.Proofs.YtgdeecmhhbdjgaaGreat
set_option linter.unusedVariables false
open Go Go.RowKit Go.Maps Go.MapKept

def idE (e : Value × Value) : Int := match e.1 with
  | .int _ i => i
  | _ => 0
theorem idE_map (kb : Int → Nat) (l : List Int) : (l.map (cntE kb)).map idE = l := by
  rw [List.map_map]
  exact List.map_id _
theorem rng_fresh {P : Program} {w : World} {b r : Nat} {A : List (Value × Value)} {l : List Int} {kb : Int → Nat} {i : Int} (h : Rng P 3 w b r A (l.map (cntE kb) ++ [cntE kb i])) : i ∉ l := by
  have hn := h.ent.nodup
  obtain ⟨es, clock, since, seen, c0, h1, h2, h3, h4, h5, h6, h7, h8, h9⟩ := h
  intro hi
  have hp := (h9.map Prod.fst).nodup_iff.2 hn
  rw [List.map_append, List.nodup_append] at hp
  have hp2 := hp.1
  rw [List.map_append, List.nodup_append] at hp2
  exact hp2.2.2 (.int .i64 i) (List.mem_map.2 ⟨cntE kb i, List.mem_map.2 ⟨i, hi, rfl⟩, rfl⟩) (.int .i64 i) (by simp [cntE]) rfl
theorem rng_blk {P : Program} {K : TypeId} {w : World} {b r x : Nat} {A dn : List (Value × Value)} {T : TypeId} {cs : Array Value} (h : Rng P K w b r A dn) (hb : Blk w x T cs) : x ≠ r := by
  obtain ⟨es, clock, since, seen, c0, h1, h2, h3, h4, h5, h6⟩ := h
  intro e
  subst e
  unfold Blk at hb
  rw [h5] at hb
  cases hb
theorem rng_ent {P : Program} {K : TypeId} {w : World} {b r x : Nat} {A dn B : List (Value × Value)} (h : Rng P K w b r A dn) (hb : Ent P K w x B) : x ≠ r := by
  obtain ⟨es, clock, since, seen, c0, h1, h2, h3, h4, h5, h6⟩ := h
  obtain ⟨es2, clock2, k1, k2⟩ := hb
  intro e
  subst e
  rw [h5] at k1
  cases k1
theorem VipQ.rng {w w' : World} {g d p pb f m b r : Nat} {XF : Nat → Prop} {kb : Int → Nat} {s : VpS} {l : List Int} {A dn : List (Value × Value)} (h : VipQ w g d p pb f m XF kb l s) (hr : Rng Tryz.prog 3 w b r A dn) (hc : Chg w w' (fun k => k = r)) (hX : ∀ k, XF k → k ≠ r) : VipQ w' g d p pb f m XF kb l s :=
  ⟨hc.blk h.blk (rng_blk hr h.blk), hc.blk h.dmp (rng_blk hr h.dmp), ⟨hc.blk h.pol.1 (rng_blk hr h.pol.1), hc.ent h.pol.2 (rng_ent hr h.pol.2)⟩, h.flw.chg hc hX, hc.ent h.ent (rng_ent hr h.ent), fun i hi => hc.blk (h.cnt i hi) (rng_blk hr (h.cnt i hi)), h.inj, h.pbm, h.sep⟩
set_option maxRecDepth 100000 in
set_option maxHeartbeats 16000000 in
theorem vpCopy {w : World} {g d p pb f m : Nat} {XF : Nat → Prop} {kb : Int → Nat} {s : VpS} (h : VipR w g d p pb f m XF kb s) (hG : GoodV s) (hn : s.n ≤ 1000000) (hr : ∀ i ∈ idsM s.M, -9223372036854775808 ≤ i ∧ i ≤ 9223372036854775807) :
    Calls Tryz.prog 33 #[.pointer (some ⟨g, 0, none⟩)] w fun e w' => ∃ g2 X2, e = .returned (.pointer (some ⟨g2, 0, none⟩)) ∧ VipT w' X2 g2 s ∧ (∀ k, X2 k → w.heap.size ≤ k) ∧ Below w.heap.size w w' := by
  have hF := hG.F.1
  have lg := h.blk.lt
  go_enter Tryz.func33, Tryz.ntmps33
  go_upto_region 3 with (go_at_call 85; refine (vpMade_yes w g m (vpV s d p f m) rfl h.blk).mono ?_; rintro en w' ⟨rfl, rfl⟩)
  go_cut [3] (fun s3 wx => CopyC w s s3 wx)
  case first =>
    have HB := (Below.refl w.heap.size w).drew
    have c0 : w.cell? ⟨g, 0, none⟩ = some (.pointer (some ⟨d, 0, none⟩)) := h.blk.cellv 0 rfl
    have c1 : w.cell? ⟨g, 1, none⟩ = some (.int .u32 s.ad) := h.blk.cellv 1 rfl
    have c2 : w.cell? ⟨g, 2, none⟩ = some (.int .i64 32) := h.blk.cellv 2 rfl
    have c3 : w.cell? ⟨g, 3, none⟩ = some (.pointer (some ⟨p, 0, none⟩)) := h.blk.cellv 3 rfl
    have c4 : w.cell? ⟨g, 4, none⟩ = some (.pointer (some ⟨f, 0, none⟩)) := h.blk.cellv 4 rfl
    have c5 : w.cell? ⟨g, 5, none⟩ = some (.map (some m)) := h.blk.cellv 5 rfl
    have c6 : w.cell? ⟨g, 6, none⟩ = some (.bool s.on) := h.blk.cellv 6 rfl
    have c7 : w.cell? ⟨g, 7, none⟩ = some (.int .i64 s.lv) := h.blk.cellv 7 rfl
    try refine wp_region_noPanic ?_
    have hs1r : Below w.heap.size w w.drew := (Below.refl _ _).drew
    refine wp_region_held_drew (S := fun w' => Below w.heap.size w w') (by kernel_rfl) hs1r (fun _ => ?_)
    (refine held_takeA 0 (by rfl) ?_ (by kernel_rfl) (fun _ _ _ h => h) hs1r ?_ ?_; rotate_left; (focus (intro wq hSw; have hrd := zR hSw; go_simp; try with_reducible rfl; done)); try simp only [Act.put, zA, zB, zC])
    (refine held_takeA 1 (by rfl) ?_ (by kernel_rfl) (fun _ _ _ h => h) hs1r ?_ ?_; rotate_left; (focus (intro wq hSw; have hrd := zR hSw; go_simp; try with_reducible rfl; done)); try simp only [Act.put, zA, zB, zC])
    (refine held_takeA 2 (by rfl) ?_ (by kernel_rfl) (fun _ _ _ h => h) hs1r ?_ ?_; rotate_left; (focus (intro wq hSw; have hrd := zR hSw; go_simp; try with_reducible rfl; done)); try simp only [Act.put, zA, zB, zC])
    (refine held_takeA 3 (by rfl) ?_ (by kernel_rfl) (fun _ _ _ h => h) hs1r ?_ ?_; rotate_left; (focus (intro wq hSw; have hrd := zR hSw; go_simp; try with_reducible rfl; done)); try simp only [Act.put, zA, zB, zC])
    (refine held_takeA 4 (by rfl) ?_ (by kernel_rfl) (fun _ _ _ h => h) hs1r ?_ ?_; rotate_left; (focus (intro wq hSw; have hrd := zR hSw; go_simp; try with_reducible rfl; done)); try simp only [Act.put, zA, zB, zC])
    (refine held_takeA 7 (by rfl) ?_ (by kernel_rfl) (fun _ _ _ h => h) hs1r ?_ ?_; rotate_left; (focus (intro wq hSw; have hrd := zR hSw; go_simp; try with_reducible rfl; done)); try simp only [Act.put, zA, zB, zC])
    (refine held_takeA 8 (by rfl) ?_ (by kernel_rfl) (fun _ _ _ h => h) hs1r ?_ ?_; rotate_left; (focus (intro wq hSw; have hrd := zR hSw; go_simp; try with_reducible rfl; done)); try simp only [Act.put, zA, zB, zC])
    (refine held_takeA 9 (by rfl) ?_ (by kernel_rfl) (fun _ _ _ h => h) hs1r ?_ ?_; rotate_left; (focus (intro wq hSw; have hrd := zR hSw; go_simp; try with_reducible rfl; done)); try simp only [Act.put, zA, zB, zC])
    (refine held_takeA 10 (by rfl) ?_ (by kernel_rfl) (fun _ _ _ h => h) hs1r ?_ ?_; rotate_left; (focus (intro wq hSw; have hrd := zR hSw; go_simp; try with_reducible rfl; done)); try simp only [Act.put, zA, zB, zC])
    (refine held_takeA 11 (by rfl) ?_ (by kernel_rfl) (fun _ _ _ h => h) hs1r ?_ ?_; rotate_left; (focus (intro wq hSw; have hrd := zR hSw; go_simp; try with_reducible rfl; done)); try simp only [Act.put, zA, zB, zC])
    (refine held_takeA 12 (by rfl) ?_ (by kernel_rfl) (fun _ _ _ h => h) hs1r ?_ ?_; rotate_left; (focus (intro wq hSw; have hrd := zR hSw; go_simp; try with_reducible rfl; done)); try simp only [Act.put, zA, zB, zC])
    (refine held_takeA 13 (by rfl) ?_ (by kernel_rfl) (fun _ _ _ h => h) hs1r ?_ ?_; rotate_left; (focus (intro wq hSw; have hrd := zR hSw; go_simp; try with_reducible rfl; done)); try simp only [Act.put, zA, zB, zC])
    (refine held_takeA 14 (by rfl) ?_ (by kernel_rfl) (fun _ _ _ h => h) hs1r ?_ ?_; rotate_left; (focus (intro wq hSw; have hrd := zR hSw; go_simp; try with_reducible rfl; done)); try simp only [Act.put, zA, zB, zC])
    (refine held_takeA 16 (by rfl) ?_ (by kernel_rfl) (fun _ _ _ h => h) hs1r ?_ ?_; rotate_left; (focus (intro wq hSw; have hrd := zR hSw; go_simp; try with_reducible rfl; done)); try simp only [Act.put, zA, zB, zC])
    (refine held_takeA 17 (by rfl) ?_ (by kernel_rfl) (fun _ _ _ h => h) hs1r ?_ ?_; rotate_left; (focus (intro wq hSw; have hrd := zR hSw; go_simp; try with_reducible rfl; done)); try simp only [Act.put, zA, zB, zC])
    (refine held_takeA 18 (by rfl) ?_ (by kernel_rfl) (fun _ _ _ h => h) hs1r ?_ ?_; rotate_left; (focus (intro wq hSw; have hrd := zR hSw; go_simp; try with_reducible rfl; done)); try simp only [Act.put, zA, zB, zC])
    (refine held_takeA 19 (by rfl) ?_ (by kernel_rfl) (fun _ _ _ h => h) hs1r ?_ ?_; rotate_left; (focus (intro wq hSw; have hrd := zR hSw; go_simp; try with_reducible rfl; done)); try simp only [Act.put, zA, zB, zC])
    (refine held_takeA 22 (by rfl) ?_ (by kernel_rfl) (fun _ _ _ h => h) hs1r ?_ ?_; rotate_left; (focus (intro wq hSw; have hrd := zR hSw; go_simp; try with_reducible rfl; done)); try simp only [Act.put, zA, zB, zC])
    (refine held_takeA 23 (by rfl) ?_ (by kernel_rfl) (fun _ _ _ h => h) hs1r ?_ ?_; rotate_left; (focus (intro wq hSw; have hrd := zR hSw; go_simp; try with_reducible rfl; done)); try simp only [Act.put, zA, zB, zC])
    (refine held_takeA 24 (by rfl) ?_ (by kernel_rfl) (fun _ _ _ h => h) hs1r ?_ ?_; rotate_left; (focus (intro wq hSw; have hrd := zR hSw; go_simp; try with_reducible rfl; done)); try simp only [Act.put, zA, zB, zC])
    (refine held_takeA 25 (by rfl) ?_ (by kernel_rfl) (fun _ _ _ h => h) hs1r ?_ ?_; rotate_left; (focus (intro wq hSw; have hrd := zR hSw; go_simp; try with_reducible rfl; done)); try simp only [Act.put, zA, zB, zC])
    (refine held_takeA 26 (by rfl) ?_ (by kernel_rfl) (fun _ _ _ h => h) hs1r ?_ ?_; rotate_left; (focus (intro wq hSw; have hrd := zR hSw; go_simp; try with_reducible rfl; done)); try simp only [Act.put, zA, zB, zC])
    (refine held_takeA 27 (by rfl) ?_ (by kernel_rfl) (fun _ _ _ h => h) hs1r ?_ ?_; rotate_left; (focus (intro wq hSw; have hrd := zR hSw; go_simp; try with_reducible rfl; done)); try simp only [Act.put, zA, zB, zC])
    (refine held_takeA 28 (by rfl) ?_ (by kernel_rfl) (fun _ _ _ h => h) hs1r ?_ ?_; rotate_left; (focus (intro wq hSw; have hrd := zR hSw; go_simp; try with_reducible rfl; done)); try simp only [Act.put, zA, zB, zC])
    (refine held_takeA 29 (by rfl) ?_ (by kernel_rfl) (fun _ _ _ h => h) hs1r ?_ ?_; rotate_left; (focus (intro wq hSw; have hrd := zR hSw; go_simp; try with_reducible rfl; done)); try simp only [Act.put, zA, zB, zC])
    refine held_two 5 21 (by rfl) (by rfl) (by kernel_rfl) (by rfl) (by rfl) (fun KQ hKQ => ?_) (fun KQ hKQ => ?_)
    · skip
      go_simp
      refine (dmCopy s.dF s.dS s.dR s.dC s.dH s.pe s.hd d w.drew hF (h.nx HB).dmp).mono ?_
      rintro e y1 ⟨d2, rfl, hd, bd, hb⟩
      have hzy1 : w.heap.size ≤ y1.heap.size := hb.size
      replace bd : w.heap.size ≤ d2 := bd
      have d1 := hd.lt
      replace hb : Below w.heap.size w y1 := (Below.refl _ _).drew.trans hb
      replace HB := hb
      refine hKQ.out _ _ (hs1r.trans (show Below w.drew.heap.size w.drew y1 from ⟨hb.os, hb.tape, hb.output, hb.size, hb.block⟩)) (held_mono (S' := fun w' => Below y1.heap.size y1 w') (fun w' h => (hs1r.trans (show Below w.drew.heap.size w.drew y1 from ⟨hb.os, hb.tape, hb.output, hb.size, hb.block⟩)).trans (h.mono (hs1r.trans (show Below w.drew.heap.size w.drew y1 from ⟨hb.os, hb.tape, hb.output, hb.size, hb.block⟩)).size)) _ _ _ _ ?_)
      clear hKQ KQ
      have hs2r : Below y1.heap.size y1 y1 := Below.refl _ _
      try simp only [Act.put, zA, zB, zC]
      (refine held_takeA 6 (by rfl) ?_ (by kernel_rfl) (fun _ _ _ h => h) hs2r ?_ ?_; rotate_left; (focus (intro wq hSw; have hrd := zR hSw; go_simp; try with_reducible rfl; done)); try simp only [Act.put, zA, zB, zC])
      clear hb
      refine held_two 15 21 (by rfl) (by rfl) (by kernel_rfl) (by rfl) (by rfl) (fun KQ hKQ => ?_) (fun KQ hKQ => ?_)
      · skip
        go_simp
        refine (pCopy y1 p pb s.pc s.M (h.nx HB).pol).mono ?_
        rintro e y2 ⟨p2, pb2, rfl, hp, bp, bpb, hb⟩
        have hzy2 : y1.heap.size ≤ y2.heap.size := hb.size
        replace bp : y1.heap.size ≤ p2 := bp
        replace bpb : y1.heap.size ≤ pb2 := bpb
        have p1 := hp.ltg
        have p3 := hp.ltb
        replace hd := hd.below hb hd.lt
        replace HB := HB.trans (hb.mono HB.size)
        refine hKQ.out _ _ (hs2r.trans hb) (held_mono (S' := fun w' => Below y2.heap.size y2 w') (fun w' h => (hs2r.trans hb).trans (h.mono (hs2r.trans hb).size)) _ _ _ _ ?_)
        clear hKQ KQ
        have hs3r : Below y2.heap.size y2 y2 := Below.refl _ _
        try simp only [Act.put, zA, zB, zC]
        clear hb
        refine held_two 20 21 (by rfl) (by rfl) (by kernel_rfl) (by rfl) (by rfl) (fun KQ hKQ => ?_) (fun KQ hKQ => ?_)
        · skip
          go_simp
          refine (copyFX (h.nx HB).flw hn).mono ?_
          rintro e y3 ⟨f2, XF2, rfl, hf, bX, hb⟩
          have hzy3 : y2.heap.size ≤ y3.heap.size := hb.size
          have X1 := hf.good.2.2.2.2
          replace hd := hd.below hb hd.lt
          replace hp := hp.nx hb
          replace HB := HB.trans (hb.mono HB.size)
          refine hKQ.out _ _ (hs3r.trans hb) (held_mono (S' := fun w' => Below y3.heap.size y3 w') (fun w' h => (hs3r.trans hb).trans (h.mono (hs3r.trans hb).size)) _ _ _ _ ?_)
          clear hKQ KQ
          have hs4r : Below y3.heap.size y3 y3 := Below.refl _ _
          try simp only [Act.put, zA, zB, zC]
          clear hb
          refine held_callA 21 (by rfl) (by kernel_rfl) (by rfl) (fun KQ hKQ => ?_)
          go_simp
          have hb := (Below.refl y3.heap.size y3).alloc (Nat.le_refl _) (.map #[] 0)
          have hm : Ent Tryz.prog 3 (y3.alloc (.map #[] 0)) y3.heap.size [] := Ent.made y3
          have hd9 : (y3.alloc (.map #[] 0)).drew = y3.drew.alloc (.map #[] 0) := rfl
          try rw [hd9]
          clear hd9
          obtain ⟨m2, em⟩ : ∃ m2, m2 = y3.heap.size := ⟨_, rfl⟩
          rw [← em] at hm
          try rw [← em]
          have m0 : y3.heap.size ≤ m2 := by rw [em]; exact Nat.le_refl _
          have m1 := hm.lt
          replace em := Lib.hid em
          generalize y3.alloc (.map #[] 0) = y4 at *
          have hzy4 : y3.heap.size ≤ y4.heap.size := hb.size
          replace hd := hd.below hb hd.lt
          replace hp := hp.nx hb
          replace hf := hf.fwd hb
          replace HB := HB.trans (hb.mono HB.size)
          refine hKQ.out _ _ (hs4r.trans hb) (held_mono (S' := fun w' => Below y4.heap.size y4 w') (fun w' h => (hs4r.trans hb).trans (h.mono (hs4r.trans hb).size)) _ _ _ _ ?_)
          clear hKQ KQ
          have hs5r : Below y4.heap.size y4 y4 := Below.refl _ _
          try simp only [Act.put, zA, zB, zC]
          (refine held_takeA 30 (by rfl) ?_ (by kernel_rfl) (fun _ _ _ h => h) hs5r ?_ ?_; rotate_left; (focus (intro wq hSw; have hrd := zR hSw; go_simp; try with_reducible rfl; done)); try simp only [Act.put, zA, zB, zC])
          clear hb
          refine held_callA 31 (by rfl) (by kernel_rfl) (by rfl) (fun KQ hKQ => ?_)
          go_simp
          have hbb := (Below.refl y4.heap.size y4).alloc (Nat.le_refl _) (.cells #[.pointer (some ⟨d2, 0, none⟩), .int .u32 s.ad, .int .i64 32, .pointer (some ⟨p2, 0, none⟩), .pointer (some ⟨f2, 0, none⟩), .map (some m2), .bool s.on, .int .i64 s.lv] 62)
          have hg := Blk.new y4 62 #[.pointer (some ⟨d2, 0, none⟩), .int .u32 s.ad, .int .i64 32, .pointer (some ⟨p2, 0, none⟩), .pointer (some ⟨f2, 0, none⟩), .map (some m2), .bool s.on, .int .i64 s.lv]
          obtain ⟨g2, eg⟩ : ∃ g2, g2 = y4.heap.size := ⟨_, rfl⟩
          rw [← eg] at hg
          try rw [← eg]
          have g0 : y4.heap.size ≤ g2 := by rw [eg]; exact Nat.le_refl _
          replace eg := Lib.hid eg
          generalize y4.alloc (.cells #[.pointer (some ⟨d2, 0, none⟩), .int .u32 s.ad, .int .i64 32, .pointer (some ⟨p2, 0, none⟩), .pointer (some ⟨f2, 0, none⟩), .map (some m2), .bool s.on, .int .i64 s.lv] 62) = yz at *
          replace hd := hd.below hbb hd.lt
          replace hp := hp.nx hbb
          replace hf := hf.fwd hbb
          replace hm := hm.below hbb hm.lt
          replace HB := HB.trans (hbb.mono HB.size)
          refine hKQ.out _ _ (hs5r.trans hbb) (held_mono (S' := fun w' => Below yz.heap.size yz w') (fun w' h => (hs5r.trans hbb).trans (h.mono (hs5r.trans hbb).size)) _ _ _ _ ?_)
          clear hKQ KQ
          have hs6r : Below yz.heap.size yz yz := Below.refl _ _
          try simp only [Act.put, zA, zB, zC]
          (refine held_takeA 32 (by rfl) ?_ (by kernel_rfl) (fun _ _ _ h => h) hs6r ?_ ?_; rotate_left; (focus (intro wq hSw; have hrd := zR hSw; go_simp; try with_reducible rfl; done)); try simp only [Act.put, zA, zB, zC])
          refine wpAnyH_done (by kernel_rfl) ?_ _
          try refine NoPanic.normal ?_
          go_wp2_with fail
          go_meet
          have hdz : w.drew.heap.size = w.heap.size := rfl
          refine ⟨g2, d2, p2, pb2, f2, m2, XF2, rfl, ⟨hg, hd, hp, hf, hm, (fun i hi => by cases hi), (fun i hi => by cases hi), by omega, fun k hk => ?_⟩, fun k hk => ?_, HB⟩
          · have := bX k hk
            have := X1 k hk
            refine ⟨?_, ?_, ?_, ?_, ?_, fun i hi => by cases hi⟩ <;> omega
          · rcases hk with q | q | q | q | q | q | ⟨i, hi, _⟩
            · omega
            · omega
            · omega
            · omega
            · omega
            · have := bX k q
              omega
            · cases hi
        · skip
          go_simp
          have hb := (Below.refl y2.heap.size y2).alloc (Nat.le_refl _) (.map #[] 0)
          have hm : Ent Tryz.prog 3 (y2.alloc (.map #[] 0)) y2.heap.size [] := Ent.made y2
          have hd9 : (y2.alloc (.map #[] 0)).drew = y2.drew.alloc (.map #[] 0) := rfl
          try rw [hd9]
          clear hd9
          obtain ⟨m2, em⟩ : ∃ m2, m2 = y2.heap.size := ⟨_, rfl⟩
          rw [← em] at hm
          try rw [← em]
          have m0 : y2.heap.size ≤ m2 := by rw [em]; exact Nat.le_refl _
          have m1 := hm.lt
          replace em := Lib.hid em
          generalize y2.alloc (.map #[] 0) = y5 at *
          have hzy5 : y2.heap.size ≤ y5.heap.size := hb.size
          replace hd := hd.below hb hd.lt
          replace hp := hp.nx hb
          replace HB := HB.trans (hb.mono HB.size)
          refine hKQ.out _ _ (hs3r.trans hb) (held_mono (S' := fun w' => Below y5.heap.size y5 w') (fun w' h => (hs3r.trans hb).trans (h.mono (hs3r.trans hb).size)) _ _ _ _ ?_)
          clear hKQ KQ
          have hs7r : Below y5.heap.size y5 y5 := Below.refl _ _
          try simp only [Act.put, zA, zB, zC]
          clear hb
          refine held_callA 20 (by rfl) (by kernel_rfl) (by rfl) (fun KQ hKQ => ?_)
          go_simp
          refine (copyFX (h.nx HB).flw hn).mono ?_
          rintro e y6 ⟨f2, XF2, rfl, hf, bX, hb⟩
          have hzy6 : y5.heap.size ≤ y6.heap.size := hb.size
          have X1 := hf.good.2.2.2.2
          replace hd := hd.below hb hd.lt
          replace hp := hp.nx hb
          replace hm := hm.below hb hm.lt
          replace HB := HB.trans (hb.mono HB.size)
          refine hKQ.out _ _ (hs7r.trans hb) (held_mono (S' := fun w' => Below y6.heap.size y6 w') (fun w' h => (hs7r.trans hb).trans (h.mono (hs7r.trans hb).size)) _ _ _ _ ?_)
          clear hKQ KQ
          have hs8r : Below y6.heap.size y6 y6 := Below.refl _ _
          try simp only [Act.put, zA, zB, zC]
          (refine held_takeA 30 (by rfl) ?_ (by kernel_rfl) (fun _ _ _ h => h) hs8r ?_ ?_; rotate_left; (focus (intro wq hSw; have hrd := zR hSw; go_simp; try with_reducible rfl; done)); try simp only [Act.put, zA, zB, zC])
          clear hb
          refine held_callA 31 (by rfl) (by kernel_rfl) (by rfl) (fun KQ hKQ => ?_)
          go_simp
          have hbb := (Below.refl y6.heap.size y6).alloc (Nat.le_refl _) (.cells #[.pointer (some ⟨d2, 0, none⟩), .int .u32 s.ad, .int .i64 32, .pointer (some ⟨p2, 0, none⟩), .pointer (some ⟨f2, 0, none⟩), .map (some m2), .bool s.on, .int .i64 s.lv] 62)
          have hg := Blk.new y6 62 #[.pointer (some ⟨d2, 0, none⟩), .int .u32 s.ad, .int .i64 32, .pointer (some ⟨p2, 0, none⟩), .pointer (some ⟨f2, 0, none⟩), .map (some m2), .bool s.on, .int .i64 s.lv]
          obtain ⟨g2, eg⟩ : ∃ g2, g2 = y6.heap.size := ⟨_, rfl⟩
          rw [← eg] at hg
          try rw [← eg]
          have g0 : y6.heap.size ≤ g2 := by rw [eg]; exact Nat.le_refl _
          replace eg := Lib.hid eg
          generalize y6.alloc (.cells #[.pointer (some ⟨d2, 0, none⟩), .int .u32 s.ad, .int .i64 32, .pointer (some ⟨p2, 0, none⟩), .pointer (some ⟨f2, 0, none⟩), .map (some m2), .bool s.on, .int .i64 s.lv] 62) = yz at *
          replace hd := hd.below hbb hd.lt
          replace hp := hp.nx hbb
          replace hm := hm.below hbb hm.lt
          replace hf := hf.fwd hbb
          replace HB := HB.trans (hbb.mono HB.size)
          refine hKQ.out _ _ (hs8r.trans hbb) (held_mono (S' := fun w' => Below yz.heap.size yz w') (fun w' h => (hs8r.trans hbb).trans (h.mono (hs8r.trans hbb).size)) _ _ _ _ ?_)
          clear hKQ KQ
          have hs9r : Below yz.heap.size yz yz := Below.refl _ _
          try simp only [Act.put, zA, zB, zC]
          (refine held_takeA 32 (by rfl) ?_ (by kernel_rfl) (fun _ _ _ h => h) hs9r ?_ ?_; rotate_left; (focus (intro wq hSw; have hrd := zR hSw; go_simp; try with_reducible rfl; done)); try simp only [Act.put, zA, zB, zC])
          refine wpAnyH_done (by kernel_rfl) ?_ _
          try refine NoPanic.normal ?_
          go_wp2_with fail
          go_meet
          have hdz : w.drew.heap.size = w.heap.size := rfl
          refine ⟨g2, d2, p2, pb2, f2, m2, XF2, rfl, ⟨hg, hd, hp, hf, hm, (fun i hi => by cases hi), (fun i hi => by cases hi), by omega, fun k hk => ?_⟩, fun k hk => ?_, HB⟩
          · have := bX k hk
            have := X1 k hk
            refine ⟨?_, ?_, ?_, ?_, ?_, fun i hi => by cases hi⟩ <;> omega
          · rcases hk with q | q | q | q | q | q | ⟨i, hi, _⟩
            · omega
            · omega
            · omega
            · omega
            · omega
            · have := bX k q
              omega
            · cases hi
      · skip
        go_simp
        have hb := (Below.refl y1.heap.size y1).alloc (Nat.le_refl _) (.map #[] 0)
        have hm : Ent Tryz.prog 3 (y1.alloc (.map #[] 0)) y1.heap.size [] := Ent.made y1
        have hd9 : (y1.alloc (.map #[] 0)).drew = y1.drew.alloc (.map #[] 0) := rfl
        try rw [hd9]
        clear hd9
        obtain ⟨m2, em⟩ : ∃ m2, m2 = y1.heap.size := ⟨_, rfl⟩
        rw [← em] at hm
        try rw [← em]
        have m0 : y1.heap.size ≤ m2 := by rw [em]; exact Nat.le_refl _
        have m1 := hm.lt
        replace em := Lib.hid em
        generalize y1.alloc (.map #[] 0) = y7 at *
        have hzy7 : y1.heap.size ≤ y7.heap.size := hb.size
        replace hd := hd.below hb hd.lt
        replace HB := HB.trans (hb.mono HB.size)
        refine hKQ.out _ _ (hs2r.trans hb) (held_mono (S' := fun w' => Below y7.heap.size y7 w') (fun w' h => (hs2r.trans hb).trans (h.mono (hs2r.trans hb).size)) _ _ _ _ ?_)
        clear hKQ KQ
        have hs10r : Below y7.heap.size y7 y7 := Below.refl _ _
        try simp only [Act.put, zA, zB, zC]
        clear hb
        refine held_callA 15 (by rfl) (by kernel_rfl) (by rfl) (fun KQ hKQ => ?_)
        go_simp
        refine (pCopy y7 p pb s.pc s.M (h.nx HB).pol).mono ?_
        rintro e y8 ⟨p2, pb2, rfl, hp, bp, bpb, hb⟩
        have hzy8 : y7.heap.size ≤ y8.heap.size := hb.size
        replace bp : y7.heap.size ≤ p2 := bp
        replace bpb : y7.heap.size ≤ pb2 := bpb
        have p1 := hp.ltg
        have p3 := hp.ltb
        replace hd := hd.below hb hd.lt
        replace hm := hm.below hb hm.lt
        replace HB := HB.trans (hb.mono HB.size)
        refine hKQ.out _ _ (hs10r.trans hb) (held_mono (S' := fun w' => Below y8.heap.size y8 w') (fun w' h => (hs10r.trans hb).trans (h.mono (hs10r.trans hb).size)) _ _ _ _ ?_)
        clear hKQ KQ
        have hs11r : Below y8.heap.size y8 y8 := Below.refl _ _
        try simp only [Act.put, zA, zB, zC]
        clear hb
        refine held_callA 20 (by rfl) (by kernel_rfl) (by rfl) (fun KQ hKQ => ?_)
        go_simp
        refine (copyFX (h.nx HB).flw hn).mono ?_
        rintro e y9 ⟨f2, XF2, rfl, hf, bX, hb⟩
        have hzy9 : y8.heap.size ≤ y9.heap.size := hb.size
        have X1 := hf.good.2.2.2.2
        replace hd := hd.below hb hd.lt
        replace hm := hm.below hb hm.lt
        replace hp := hp.nx hb
        replace HB := HB.trans (hb.mono HB.size)
        refine hKQ.out _ _ (hs11r.trans hb) (held_mono (S' := fun w' => Below y9.heap.size y9 w') (fun w' h => (hs11r.trans hb).trans (h.mono (hs11r.trans hb).size)) _ _ _ _ ?_)
        clear hKQ KQ
        have hs12r : Below y9.heap.size y9 y9 := Below.refl _ _
        try simp only [Act.put, zA, zB, zC]
        (refine held_takeA 30 (by rfl) ?_ (by kernel_rfl) (fun _ _ _ h => h) hs12r ?_ ?_; rotate_left; (focus (intro wq hSw; have hrd := zR hSw; go_simp; try with_reducible rfl; done)); try simp only [Act.put, zA, zB, zC])
        clear hb
        refine held_callA 31 (by rfl) (by kernel_rfl) (by rfl) (fun KQ hKQ => ?_)
        go_simp
        have hbb := (Below.refl y9.heap.size y9).alloc (Nat.le_refl _) (.cells #[.pointer (some ⟨d2, 0, none⟩), .int .u32 s.ad, .int .i64 32, .pointer (some ⟨p2, 0, none⟩), .pointer (some ⟨f2, 0, none⟩), .map (some m2), .bool s.on, .int .i64 s.lv] 62)
        have hg := Blk.new y9 62 #[.pointer (some ⟨d2, 0, none⟩), .int .u32 s.ad, .int .i64 32, .pointer (some ⟨p2, 0, none⟩), .pointer (some ⟨f2, 0, none⟩), .map (some m2), .bool s.on, .int .i64 s.lv]
        obtain ⟨g2, eg⟩ : ∃ g2, g2 = y9.heap.size := ⟨_, rfl⟩
        rw [← eg] at hg
        try rw [← eg]
        have g0 : y9.heap.size ≤ g2 := by rw [eg]; exact Nat.le_refl _
        replace eg := Lib.hid eg
        generalize y9.alloc (.cells #[.pointer (some ⟨d2, 0, none⟩), .int .u32 s.ad, .int .i64 32, .pointer (some ⟨p2, 0, none⟩), .pointer (some ⟨f2, 0, none⟩), .map (some m2), .bool s.on, .int .i64 s.lv] 62) = yz at *
        replace hd := hd.below hbb hd.lt
        replace hm := hm.below hbb hm.lt
        replace hp := hp.nx hbb
        replace hf := hf.fwd hbb
        replace HB := HB.trans (hbb.mono HB.size)
        refine hKQ.out _ _ (hs12r.trans hbb) (held_mono (S' := fun w' => Below yz.heap.size yz w') (fun w' h => (hs12r.trans hbb).trans (h.mono (hs12r.trans hbb).size)) _ _ _ _ ?_)
        clear hKQ KQ
        have hs13r : Below yz.heap.size yz yz := Below.refl _ _
        try simp only [Act.put, zA, zB, zC]
        (refine held_takeA 32 (by rfl) ?_ (by kernel_rfl) (fun _ _ _ h => h) hs13r ?_ ?_; rotate_left; (focus (intro wq hSw; have hrd := zR hSw; go_simp; try with_reducible rfl; done)); try simp only [Act.put, zA, zB, zC])
        refine wpAnyH_done (by kernel_rfl) ?_ _
        try refine NoPanic.normal ?_
        go_wp2_with fail
        go_meet
        have hdz : w.drew.heap.size = w.heap.size := rfl
        refine ⟨g2, d2, p2, pb2, f2, m2, XF2, rfl, ⟨hg, hd, hp, hf, hm, (fun i hi => by cases hi), (fun i hi => by cases hi), by omega, fun k hk => ?_⟩, fun k hk => ?_, HB⟩
        · have := bX k hk
          have := X1 k hk
          refine ⟨?_, ?_, ?_, ?_, ?_, fun i hi => by cases hi⟩ <;> omega
        · rcases hk with q | q | q | q | q | q | ⟨i, hi, _⟩
          · omega
          · omega
          · omega
          · omega
          · omega
          · have := bX k q
            omega
          · cases hi
    · skip
      go_simp
      have hb := (Below.refl w.drew.heap.size w.drew).alloc (Nat.le_refl _) (.map #[] 0)
      have hm : Ent Tryz.prog 3 (w.drew.alloc (.map #[] 0)) w.heap.size [] := Ent.made w.drew
      have hd9 : (w.alloc (.map #[] 0)).drew = w.drew.alloc (.map #[] 0) := rfl
      try rw [hd9]
      clear hd9
      obtain ⟨m2, em⟩ : ∃ m2, m2 = w.heap.size := ⟨_, rfl⟩
      rw [← em] at hm
      try rw [← em]
      have m0 : w.heap.size ≤ m2 := by rw [em]; exact Nat.le_refl _
      have m1 := hm.lt
      replace em := Lib.hid em
      generalize w.drew.alloc (.map #[] 0) = y10 at *
      have hzy10 : w.heap.size ≤ y10.heap.size := hb.size
      replace hb : Below w.heap.size w y10 := (Below.refl _ _).drew.trans hb
      replace HB := hb
      refine hKQ.out _ _ (hs1r.trans (show Below w.drew.heap.size w.drew y10 from ⟨hb.os, hb.tape, hb.output, hb.size, hb.block⟩)) (held_mono (S' := fun w' => Below y10.heap.size y10 w') (fun w' h => (hs1r.trans (show Below w.drew.heap.size w.drew y10 from ⟨hb.os, hb.tape, hb.output, hb.size, hb.block⟩)).trans (h.mono (hs1r.trans (show Below w.drew.heap.size w.drew y10 from ⟨hb.os, hb.tape, hb.output, hb.size, hb.block⟩)).size)) _ _ _ _ ?_)
      clear hKQ KQ
      have hs14r : Below y10.heap.size y10 y10 := Below.refl _ _
      try simp only [Act.put, zA, zB, zC]
      clear hb
      refine held_callA 5 (by rfl) (by kernel_rfl) (by rfl) (fun KQ hKQ => ?_)
      go_simp
      refine (dmCopy s.dF s.dS s.dR s.dC s.dH s.pe s.hd d y10 hF (h.nx HB).dmp).mono ?_
      rintro e y11 ⟨d2, rfl, hd, bd, hb⟩
      have hzy11 : y10.heap.size ≤ y11.heap.size := hb.size
      replace bd : y10.heap.size ≤ d2 := bd
      have d1 := hd.lt
      replace hm := hm.below hb hm.lt
      replace HB := HB.trans (hb.mono HB.size)
      refine hKQ.out _ _ (hs14r.trans hb) (held_mono (S' := fun w' => Below y11.heap.size y11 w') (fun w' h => (hs14r.trans hb).trans (h.mono (hs14r.trans hb).size)) _ _ _ _ ?_)
      clear hKQ KQ
      have hs15r : Below y11.heap.size y11 y11 := Below.refl _ _
      try simp only [Act.put, zA, zB, zC]
      (refine held_takeA 6 (by rfl) ?_ (by kernel_rfl) (fun _ _ _ h => h) hs15r ?_ ?_; rotate_left; (focus (intro wq hSw; have hrd := zR hSw; go_simp; try with_reducible rfl; done)); try simp only [Act.put, zA, zB, zC])
      clear hb
      refine held_callA 15 (by rfl) (by kernel_rfl) (by rfl) (fun KQ hKQ => ?_)
      go_simp
      refine (pCopy y11 p pb s.pc s.M (h.nx HB).pol).mono ?_
      rintro e y12 ⟨p2, pb2, rfl, hp, bp, bpb, hb⟩
      have hzy12 : y11.heap.size ≤ y12.heap.size := hb.size
      replace bp : y11.heap.size ≤ p2 := bp
      replace bpb : y11.heap.size ≤ pb2 := bpb
      have p1 := hp.ltg
      have p3 := hp.ltb
      replace hm := hm.below hb hm.lt
      replace hd := hd.below hb hd.lt
      replace HB := HB.trans (hb.mono HB.size)
      refine hKQ.out _ _ (hs15r.trans hb) (held_mono (S' := fun w' => Below y12.heap.size y12 w') (fun w' h => (hs15r.trans hb).trans (h.mono (hs15r.trans hb).size)) _ _ _ _ ?_)
      clear hKQ KQ
      have hs16r : Below y12.heap.size y12 y12 := Below.refl _ _
      try simp only [Act.put, zA, zB, zC]
      clear hb
      refine held_callA 20 (by rfl) (by kernel_rfl) (by rfl) (fun KQ hKQ => ?_)
      go_simp
      refine (copyFX (h.nx HB).flw hn).mono ?_
      rintro e y13 ⟨f2, XF2, rfl, hf, bX, hb⟩
      have hzy13 : y12.heap.size ≤ y13.heap.size := hb.size
      have X1 := hf.good.2.2.2.2
      replace hm := hm.below hb hm.lt
      replace hd := hd.below hb hd.lt
      replace hp := hp.nx hb
      replace HB := HB.trans (hb.mono HB.size)
      refine hKQ.out _ _ (hs16r.trans hb) (held_mono (S' := fun w' => Below y13.heap.size y13 w') (fun w' h => (hs16r.trans hb).trans (h.mono (hs16r.trans hb).size)) _ _ _ _ ?_)
      clear hKQ KQ
      have hs17r : Below y13.heap.size y13 y13 := Below.refl _ _
      try simp only [Act.put, zA, zB, zC]
      (refine held_takeA 30 (by rfl) ?_ (by kernel_rfl) (fun _ _ _ h => h) hs17r ?_ ?_; rotate_left; (focus (intro wq hSw; have hrd := zR hSw; go_simp; try with_reducible rfl; done)); try simp only [Act.put, zA, zB, zC])
      clear hb
      refine held_callA 31 (by rfl) (by kernel_rfl) (by rfl) (fun KQ hKQ => ?_)
      go_simp
      have hbb := (Below.refl y13.heap.size y13).alloc (Nat.le_refl _) (.cells #[.pointer (some ⟨d2, 0, none⟩), .int .u32 s.ad, .int .i64 32, .pointer (some ⟨p2, 0, none⟩), .pointer (some ⟨f2, 0, none⟩), .map (some m2), .bool s.on, .int .i64 s.lv] 62)
      have hg := Blk.new y13 62 #[.pointer (some ⟨d2, 0, none⟩), .int .u32 s.ad, .int .i64 32, .pointer (some ⟨p2, 0, none⟩), .pointer (some ⟨f2, 0, none⟩), .map (some m2), .bool s.on, .int .i64 s.lv]
      obtain ⟨g2, eg⟩ : ∃ g2, g2 = y13.heap.size := ⟨_, rfl⟩
      rw [← eg] at hg
      try rw [← eg]
      have g0 : y13.heap.size ≤ g2 := by rw [eg]; exact Nat.le_refl _
      replace eg := Lib.hid eg
      generalize y13.alloc (.cells #[.pointer (some ⟨d2, 0, none⟩), .int .u32 s.ad, .int .i64 32, .pointer (some ⟨p2, 0, none⟩), .pointer (some ⟨f2, 0, none⟩), .map (some m2), .bool s.on, .int .i64 s.lv] 62) = yz at *
      replace hm := hm.below hbb hm.lt
      replace hd := hd.below hbb hd.lt
      replace hp := hp.nx hbb
      replace hf := hf.fwd hbb
      replace HB := HB.trans (hbb.mono HB.size)
      refine hKQ.out _ _ (hs17r.trans hbb) (held_mono (S' := fun w' => Below yz.heap.size yz w') (fun w' h => (hs17r.trans hbb).trans (h.mono (hs17r.trans hbb).size)) _ _ _ _ ?_)
      clear hKQ KQ
      have hs18r : Below yz.heap.size yz yz := Below.refl _ _
      try simp only [Act.put, zA, zB, zC]
      (refine held_takeA 32 (by rfl) ?_ (by kernel_rfl) (fun _ _ _ h => h) hs18r ?_ ?_; rotate_left; (focus (intro wq hSw; have hrd := zR hSw; go_simp; try with_reducible rfl; done)); try simp only [Act.put, zA, zB, zC])
      refine wpAnyH_done (by kernel_rfl) ?_ _
      try refine NoPanic.normal ?_
      go_wp2_with fail
      go_meet
      have hdz : w.drew.heap.size = w.heap.size := rfl
      refine ⟨g2, d2, p2, pb2, f2, m2, XF2, rfl, ⟨hg, hd, hp, hf, hm, (fun i hi => by cases hi), (fun i hi => by cases hi), by omega, fun k hk => ?_⟩, fun k hk => ?_, HB⟩
      · have := bX k hk
        have := X1 k hk
        refine ⟨?_, ?_, ?_, ?_, ?_, fun i hi => by cases hi⟩ <;> omega
      · rcases hk with q | q | q | q | q | q | ⟨i, hi, _⟩
        · omega
        · omega
        · omega
        · omega
        · omega
        · have := bX k q
          omega
        · cases hi
  case rest =>
    obtain ⟨g2, d2, p2, pb2, f2, m2, XF2, rfl, hV, hfo, hb⟩ := hcut
    have h1 := h.nx hb
    obtain ⟨A, hA, hP⟩ := h1.ent
    have c5 : wc.cell? ⟨g, 5, none⟩ = some (.map (some m)) := h1.blk.cellv 5 rfl
    have lg1 := h1.blk.lt
    go_wp2_with (refine wpList_range_ent (by rfl) hA cmap_und (.tmp 44) (by rfl) (by rfl) ?_; intro w1 hr1 hb1)
    simp only [Act.put, zA, zB, zC]
    have hzc := hb.size
    replace hP := Lib.hid hP
    have hX2 : ∀ k, XF2 k → k ≠ wc.heap.size := fun k q e => by have := hV.lt.2.2.2.2.2.1 k q; omega
    replace hX2 := Lib.hid hX2
    go_loopw [4, 5] (fun _ _ wr => ∃ (l : List Int) (kb2 : Int → Nat), Rng Tryz.prog 3 wr m wc.heap.size A (l.map (cntE kb)) ∧ VipQ wr g2 d2 p2 pb2 f2 m2 XF2 kb2 l s ∧ (∀ i ∈ l, w.heap.size ≤ kb2 i) ∧ Below w.heap.size w wr ∧ wc.heap.size ≤ wr.heap.size) (fun _ _ wr => iterLeft wr m wc.heap.size)
    case atStart => exact ⟨[], _, hr1, hV.nx hb1, by simp, hb.trans (hb1.mono hzc), hb1.size⟩
    case round =>
    clear hV hr1 hb1 c5 lg1 h1
    obtain ⟨l, kb2, hr9, hQ, hlo, hB, hzr⟩ := hrel
    replace hlo := Lib.hid hlo
    have hz := hB.size
    have ltr := hr9.ltr
    have hleft := rng_left hr9
    rw [List.length_map] at hleft
    rcases hr9.next 0 with ⟨hp, hrun⟩ | ⟨k, v, w2, hrun, hr2, hm, hlen, hg2, hent⟩
    · go_wp2_with fail
      go_ret
      have hperm : l.Perm (idsM s.M) := by
        have := (hp.trans hP.out).map idE
        rwa [idE_map, idE_map] at this
      have hlt := hQ.lt
      refine ⟨g2, fun k => Foot g2 d2 p2 pb2 m2 XF2 kb2 (idsM s.M) k, rfl, ⟨d2, p2, pb2, f2, m2, XF2, kb2, hQ.all hperm, fun _ q => q, fun k hk => ?_⟩, fun k hk => ?_, hB⟩
      · obtain ⟨l1, l2, l3, l4, l5, l6, l7⟩ := hlt
        rcases hk with q | q | q | q | q | q | ⟨i, hi, q⟩
        · omega
        · omega
        · omega
        · omega
        · omega
        · exact l6 k q
        · rw [q]; exact l7 i (hperm.mem_iff.2 hi)
      · rcases hk with q | q | q | q | q | q | ⟨i, hi, q⟩
        · exact hfo k (.inl q)
        · exact hfo k (.inr (.inl q))
        · exact hfo k (.inr (.inr (.inl q)))
        · exact hfo k (.inr (.inr (.inr (.inl q))))
        · exact hfo k (.inr (.inr (.inr (.inr (.inl q)))))
        · exact hfo k (.inr (.inr (.inr (.inr (.inr (.inl q))))))
        · rw [q]; exact hlo.out i (hperm.mem_iff.2 hi)
    · obtain ⟨i, hi, e⟩ := List.mem_map.1 (hP.out.mem_iff.1 hm)
      injection e with e1 e2
      subst e1
      subst e2
      have hil : i ∉ l := rng_fresh hr2
      have hB2 := below_own hB hg2 hz (by omega)
      have hC2 : Chg wr w2 (fun k => k = wc.heap.size) := Chg.of_grown hg2 rfl
      have hQ2 := hQ.rng hr9 hC2 hX2.out
      have h2 := h.nx hB2
      have hz2 := hC2.size
      have hmw : m2 < w2.heap.size := hQ2.lt.2.2.2.2.1
      have hmm : m ≠ m2 := by have := h.lt.2.2.2.2.1; have := hfo m2 (.inr (.inr (.inr (.inr (.inl rfl))))); omega
      have hm2r : m2 ≠ wc.heap.size := rng_ent hr9 hQ.ent
      have hm2w : w.heap.size ≤ m2 := hfo m2 (.inr (.inr (.inr (.inr (.inl rfl)))))
      have hgm2 : g2 ≠ m2 := ent_blk_ne hQ2.ent hQ2.blk
      clear hQ hC2 hB hr9
      replace hr2 := Lib.hid hr2
      go_upto_region 7 with (fail)
      have c5 : w2.cell? ⟨g2, 5, none⟩ = some (.map (some m2)) := hQ2.blk.cellv 5 rfl
      have lg2 := hQ2.blk.lt
      have klit := int_lit i (hr i hi).1 (hr i hi).2
      have hnin : (.int .i64 i : Value) ∉ (l.map (cntE kb2)).map Prod.fst := fun q => by
        obtain ⟨e, he, e2⟩ := List.mem_map.1 q
        obtain ⟨j, hj, rfl⟩ := List.mem_map.1 he
        injection e2 with _ e2
        exact hil (e2 ▸ hj)
      have hri : 0 < s.ri := by have := hG.ri.1; omega
      clear hrun hent
      try refine wp_region_noPanic ?_
      have hs19r : w2.grownBy w2.drew (some m2) := grown_drew (grown_refl _ _)
      refine wp_region_held_drew (S := fun w' => w2.grownBy w' (some m2)) (by kernel_rfl) hs19r (fun _ => ?_)
      (refine held_takeA 0 (by rfl) ?_ (by kernel_rfl) (fun _ _ _ h => h) hs19r ?_ ?_; rotate_left; (focus (intro wq hSw; have hrd := zG hSw; go_simp; try with_reducible rfl; done)); try simp only [Act.put, zA, zB, zC])
      (refine held_takeA 1 (by rfl) ?_ (by kernel_rfl) (fun _ _ _ h => h) hs19r ?_ ?_; rotate_left; (focus (intro wq hSw; have hrd := zG hSw; go_simp; try with_reducible rfl; done)); try simp only [Act.put, zA, zB, zC])
      (refine held_takeA 2 (by rfl) ?_ (by kernel_rfl) (fun _ _ _ h => h) hs19r ?_ ?_; rotate_left; (focus (intro wq hSw; have hrd := zG hSw; go_simp; try with_reducible rfl; done)); try simp only [Act.put, zA, zB, zC])
      (refine held_takeA 3 (by rfl) ?_ (by kernel_rfl) (fun _ _ _ h => h) hs19r ?_ ?_; rotate_left; (focus (intro wq hSw; have hrd := zG hSw; go_simp; try with_reducible rfl; done)); try simp only [Act.put, zA, zB, zC])
      (refine held_takeA 4 (by rfl) ?_ (by kernel_rfl) (fun _ _ _ h => h) hs19r ?_ ?_; rotate_left; (focus (intro wq hSw; have hrd := zG hSw; go_simp; try with_reducible rfl; done)); try simp only [Act.put, zA, zB, zC])
      (refine held_takeA 5 (by rfl) ?_ (by kernel_rfl) (fun _ _ _ h => h) hs19r ?_ ?_; rotate_left; (focus (intro wq hSw; have hrd := zG hSw; go_simp; try with_reducible rfl; done)); try simp only [Act.put, zA, zB, zC])
      refine held_callA 6 (by rfl) (by kernel_rfl) (by rfl) (fun KQ hKQ => ?_)
      go_simp
      refine (cntCopy s.ri s.fa (s.K i).2 (s.K i).1 (kb i) w2.drew hri ((h2.nx (Below.refl _ _).drew).cnt i hi)).mono ?_
      rintro e w7 ⟨kn, rfl, hk7, hkn, hb7⟩
      have hA7 := hQ2.ent.drew.below hb7 hQ2.ent.lt
      refine hKQ.out _ _ (grown_trans hs19r (grown_of_below hb7 (Nat.le_refl _) _)) (held_mono (S' := fun w' => w7.grownBy w' (some m2)) (fun w' h => grown_trans (grown_trans hs19r (grown_of_below hb7 (Nat.le_refl _) _)) h) _ _ _ _ ?_)
      clear hKQ KQ
      have hs20r : w7.grownBy w7 (some m2) := grown_refl _ _
      try simp only [Act.put, zA, zB, zC]
      refine held_callA 7 (by rfl) (by kernel_rfl) (by rfl) (fun KQ hKQ => ?_)
      refine wp_put_new hA7 int_key cmap_und (.tmp 54) (.tmp 55) (.tmp 57) (by rfl) (by rfl) (by rfl) (by rfl) klit hnin ?_
      intro w8 hm8 hg8
      refine hKQ.out _ _ (grown_trans hs20r hg8) (held_mono (S' := fun w' => w8.grownBy w' (some m2)) (fun w' h => grown_trans (grown_trans hs20r hg8) h) _ _ _ _ ?_)
      clear hKQ KQ
      have hs21r : w8.grownBy w8 (some m2) := grown_refl _ _
      try simp only [Act.put]
      refine wpAnyH_done (by kernel_rfl) ?_ _
      try refine NoPanic.normal ?_
      replace hb7 : Below w2.heap.size w2 w7 := ⟨hb7.os, hb7.tape, hb7.output, hb7.size, hb7.block⟩
      replace hkn : w2.heap.size ≤ kn := hkn
      have hC8 : Chg w2 w8 (fun k => k = m2) := (Chg.of_below (X := fun k => k = m2) hb7).trans (Chg.of_grown (X := fun k => k = m2) hg8 rfl) fun _ _ q => q
      have hk8 := hk7.grown hg8 (fun q => by injection q with q; omega)
      have hQ8 := hQ2.add hC8 hil hm8 hk8 hkn
      have hB8 := below_own (hB2.trans (hb7.mono hB2.size)) hg8 (Nat.le_trans hB2.size hb7.size) hm2w
      have hr8 : Rng Tryz.prog 3 w8 m wc.heap.size A ((l ++ [i]).map (cntE kb)) := by
        rw [List.map_append]
        refine hr2.out.keep (hC8.block m ?_ hmm) (hC8.block _ ?_ (Ne.symm hm2r))
        · have := hr2.out.ent.lt; exact this
        · exact hr2.out.ltr
      have hl8 := rng_left hr8
      rw [List.length_map, List.length_append, List.length_singleton] at hl8
      rw [List.length_map] at hlen
      go_wp2_with fail
      refine ⟨⟨l ++ [i], _, hr8, hQ8, fun j hj => ?_, hB8, Nat.le_trans hzr (Nat.le_trans hz2 hC8.size)⟩, by omega⟩
      show w.heap.size ≤ if j = i then kn else kb2 j
      rcases List.mem_append.1 hj with q | q
      · rw [if_neg fun e : j = i => hil (e ▸ q)]
        exact hlo.out j q
      · have e : j = i := by simpa using q
        rw [if_pos e]
        have := hB2.size
        omega
end Go.Proofs.YtgdeecmhhbdjgaaGreat
