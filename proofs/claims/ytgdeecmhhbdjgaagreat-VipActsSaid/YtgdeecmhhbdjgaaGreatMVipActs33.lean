import Derived.Test.YtgdeecmhhbdjgaaGreatMVipActs19
import Derived.Test.YtgdeecmhhbdjgaaGreatMVipActs32
import Derived.Deep.DeepCutAuto
import Derived.Test.YtgdeecmhhbdjgaaGreatMVipActs20
import Derived.Test.YtgdeecmhhbdjgaaGreatMVipActs12
/- vip: New in plain terms; a backend more. -/
namespace Go.Proofs.YtgdeecmhhbdjgaaGreat
set_option linter.unusedVariables false
open Go Go.RowKit Go.Maps

def mkM (L : List BndV) : List Mem := L.map fun b => ⟨b.id, b.ad, b.wt, false, false⟩
def newS (c : CfgV) (v : VipV) (M : List Mem) : VpS := ⟨v.ad, true, 0, c.dF, c.dS, c.dR, c.dC, c.dH, 0, false, v.pct, M, c.room, c.idle, 0, 0, [], c.rise, c.fall, fun _ => (false, 0)⟩
theorem setR_mem {M : List Mem} (h : MemsOk M) (id : Int) (u v : Bool) (z : Int) (hz : 0 ≤ z ∧ z ≤ 100) : MemsOk (setR M id u v z).2 := by
  unfold setR
  cases hf : findF M id with
  | none => exact h
  | some k =>
    obtain ⟨x, hk, he⟩ := findF_get hf
    refine ⟨by show (M.set k _).length ≤ 16; rw [List.length_set]; exact h.1, fun m hm => ?_⟩
    rcases List.mem_or_eq_of_mem_set hm with q | rfl
    · exact h.2 m q
    · exact ⟨by rw [← he]; exact (h.2 x (List.mem_of_getElem? hk)).1, hz⟩
theorem getM_wt0 {M : List Mem} (h : MemsOk M) (id : Int) : 0 ≤ (getM M id).wt ∧ (getM M id).wt ≤ 100 := by
  unfold getM
  cases hf : findF M id with
  | none => exact (by decide : (0 : Int) ≤ 0 ∧ (0 : Int) ≤ 100)
  | some k =>
    obtain ⟨x, hk, he⟩ := findF_get hf
    simp only [hk, Option.getD_some]
    exact (h.2 x (List.mem_of_getElem? hk)).2
theorem mark_mem {M : List Mem} (h : MemsOk M) (id : Int) (u : Bool) : MemsOk (markR M id u).2 := setR_mem h _ _ _ _ (getM_wt0 h id)
theorem drain_mem {M : List Mem} (h : MemsOk M) (id : Int) (u : Bool) : MemsOk (drainR M id u).2 := setR_mem h _ _ _ _ (getM_wt0 h id)
theorem weigh_mem {M : List Mem} (h : MemsOk M) (id z : Int) : MemsOk (weighR M id z).2 := by
  unfold weighR
  split
  · exact h
  · rename_i q
    cases hf : findF M id with
    | none =>
      have e : ∀ a b c, setR M id a b c = (7, M) := fun a b c => by unfold setR; rw [hf]
      rw [e]
      exact h
    | some k =>
      refine setR_mem h _ _ _ _ ?_
      rw [findZ_some hf] at q
      unfold wtB at q
      simp at q
      exact q
theorem noteK_run {ri fa : Int} {k : Bool × Int} {ok : Bool} (hr : ri ≤ 100) (hf : fa ≤ 100) (h0 : 0 ≤ k.2) : 0 ≤ (noteK ri fa k ok).2.2 ∧ (noteK ri fa k ok).2.2 ≤ 1000 := by
  unfold noteK
  split
  · exact ⟨Int.le_refl 0, (by decide : (0 : Int) ≤ 1000)⟩
  · split
    · exact ⟨Int.le_refl 0, (by decide : (0 : Int) ≤ 1000)⟩
    · rename_i q
      unfold rs.needs at q
      refine ⟨by show 0 ≤ k.2 + 1; omega, ?_⟩
      show k.2 + 1 ≤ 1000
      split at q <;> omega
theorem putK_run {K : Int → Bool × Int} {i : Int} {q : Bool × Int} {l : List Int} (h : ∀ j ∈ l, 0 ≤ (K j).2 ∧ (K j).2 ≤ 1000) (hq : 0 ≤ q.2 ∧ q.2 ≤ 1000) : ∀ j ∈ l, 0 ≤ (putK K i q j).2 ∧ (putK K i q j).2 ≤ 1000 := by
  intro j hj
  unfold putK
  split
  · exact hq
  · exact h j hj
theorem resS_good {s : VpS} {i : Int} {ok : Bool} (h : GoodV s) : GoodV (resS s i ok).2 := by
  unfold resS
  split
  · rename_i hi
    have hn := noteK_run (ok := ok) h.ri.2 h.fa.2 (h.run i hi).1
    split
    · refine ⟨h.dg, h.pe0, h.pe1, mark_mem h.mem _ _, h.ri, h.fa, ?_⟩
      show ∀ j ∈ idsM (markR s.M i _).2, _
      rw [mark_ids]
      exact putK_run h.run hn
    · exact ⟨h.dg, h.pe0, h.pe1, h.mem, h.ri, h.fa, putK_run h.run hn⟩
  · exact h
theorem GoodV.flap {s : VpS} (h : GoodV s) : GoodV (flapS s) := by
  have := of_decide_eq_true h.dg
  refine ⟨h.dg, ?_, ?_, h.mem, h.ri, h.fa, h.run⟩
  · show 0 ≤ dm.lowest (s.pe + s.dF) s.dC
    unfold dm.lowest
    have := h.pe0
    split <;> omega
  · show dm.lowest (s.pe + s.dF) s.dC ≤ 1000000
    unfold dm.lowest
    split <;> omega
theorem GoodV.lvl {s : VpS} (h : GoodV s) (z : Int) : GoodV { s with lv := z } := ⟨h.dg, h.pe0, h.pe1, h.mem, h.ri, h.fa, h.run⟩
theorem GoodV.look {s : VpS} (h : GoodV s) (b : Bool) : GoodV (lookS s b) := by
  unfold lookS
  split
  · exact h.flap.lvl _
  · exact h.lvl _
theorem part_all {c : CfgV} (h : partC c = 0) : selfB c = true ∧ peersB c = true ∧ vipsB c = true ∧ poolsB c = true ∧ sitesB c = true ∧ tabB c = true ∧ dampB c = true ∧ ttlB c = true := by
  unfold partC at h
  cases h1 : selfB c <;> cases h2 : peersB c <;> cases h3 : vipsB c <;> cases h4 : poolsB c <;> cases h5 : sitesB c <;> cases h6 : tabB c <;> cases h7 : dampB c <;> cases h8 : ttlB c <;> simp [h1, h2, h3, h4, h5, h6, h7, h8] at h ⊢
theorem adds_step {L : List BndV} (h : (addsM [] L).isSome = true) {k : Nat} {b : BndV} (hb : L[k]? = some b) (hk : addsM [] (L.take k) = some (mkM (L.take k))) :
    addsM [] (L.take (k + 1)) = some (mkM (L.take (k + 1))) ∧ addP (mkM (L.take k)) b.id b.ad b.wt = (0, mkM (L.take (k + 1))) ∧ addOk b.id b.ad b.wt = true ∧ b.id ∉ idsM (mkM (L.take k)) ∧ mkM (L.take (k + 1)) = mkM (L.take k) ++ [⟨b.id, b.ad, b.wt, false, false⟩] := by
  obtain ⟨h1, h2⟩ := addsM_take hk hb
  have h0 : (addP (mkM (L.take k)) b.id b.ad b.wt).1 = 0 := Classical.byContradiction fun q => by rw [h2 q] at h; cases h
  rw [if_pos h0] at h1
  obtain ⟨e, hl, hok, hf⟩ := addP_len h0
  have e5 : mkM (L.take (k + 1)) = mkM (L.take k) ++ [⟨b.id, b.ad, b.wt, false, false⟩] := by
    unfold mkM
    rw [List.take_add_one, hb]
    simp
  rw [e, ← e5] at h1
  refine ⟨h1, ?_, hok, fun hm => ?_, e5⟩
  · rw [← h0, e5, ← e]
  · obtain ⟨x, hx, ex⟩ := List.mem_map.1 hm
    exact findF_no hf x hx ex
theorem adds_all {L : List BndV} (h : (addsM [] L).isSome = true) : addsM [] L = some (mkM L) ∧ MemsOk (mkM L) ∧ (idsM (mkM L)).Nodup := by
  have key : ∀ k, k ≤ L.length → addsM [] (L.take k) = some (mkM (L.take k)) ∧ (∀ x ∈ mkM (L.take k), (0 ≤ x.id ∧ x.id ≤ 255) ∧ (0 ≤ x.wt ∧ x.wt ≤ 100)) ∧ (idsM (mkM (L.take k))).Nodup := by
    intro k
    induction k with
    | zero => intro _; exact ⟨rfl, by simp [mkM], by simp [mkM, idsM]⟩
    | succ k ih =>
      intro hk
      obtain ⟨i1, i2, i3⟩ := ih (by omega)
      obtain ⟨s1, _, hok, hn, e5⟩ := adds_step h (List.getElem?_eq_getElem (show k < L.length by omega)) i1
      refine ⟨s1, fun x hx => ?_, ?_⟩
      · rw [e5] at hx
        rcases List.mem_append.1 hx with q | q
        · exact i2 x q
        · rw [List.mem_singleton.1 q]
          unfold addOk wtB at hok
          simp only [Bool.and_eq_true, decide_eq_true_eq] at hok
          exact ⟨hok.1.1, hok.2⟩
      · rw [e5]
        unfold idsM at hn ⊢
        rw [List.map_append]
        refine List.nodup_append.2 ⟨i3, by simp, ?_⟩
        intro a ha b hb e
        subst e
        simp at hb
        subst hb
        exact hn ha
  obtain ⟨k1, k2, k3⟩ := key L.length (Nat.le_refl _)
  rw [List.take_length] at k1 k2 k3
  exact ⟨k1, ⟨(addsM_len L [] _ k1 (by simp)).1, k2⟩, k3⟩
theorem newS_good {c : CfgV} {v : VipV} {k : Nat} (hok : partC c = 0) (hv : c.V[k]? = some v) : GoodV (newS c v (mkM v.L)) ∧ (1 ≤ v.pct ∧ v.pct ≤ 100) ∧ (1 ≤ c.room ∧ c.room ≤ 1024) ∧ (1 ≤ c.idle ∧ c.idle ≤ 1000000) ∧ (addsM [] v.L).isSome = true := by
  obtain ⟨_, _, _, h4, _, h6, h7, _⟩ := part_all hok
  have hp : poolB v = true := List.all_eq_true.1 h4 v (List.mem_of_getElem? hv)
  unfold poolB at hp
  unfold tabB riseB flowsB at h6
  simp only [Bool.and_eq_true, rngB_iff] at hp h6
  obtain ⟨a1, a2, a3⟩ := adds_all hp.2
  exact ⟨⟨h7, Int.le_refl 0, (by decide : (0 : Int) ≤ 1000000), a2, h6.1.1, h6.1.2, fun i _ => ⟨Int.le_refl 0, (by decide : (0 : Int) ≤ 1000)⟩⟩, hp.1.1, h6.2.2.1, h6.2.2.2, hp.2⟩
section
variable {w w' : World} {g d p pb f m : Nat} {XF Y X : Nat → Prop} {kb : Int → Nat} {s : VpS}
theorem VipR.new (hq : Blk w g 62 (vpC (vpV s d p f m))) (hd : Blk w d 223 (dm.dampCs s.dF s.dS s.dR s.dC s.dH s.pe s.hd)) (hp : PoolIn w p pb s.pc s.M) (hf : TabF w XF f s.ro s.idl s.now s.n s.E) (hm : Ent Tryz.prog 3 w m []) (hpb : pb ≠ m)
    (hsep : ∀ k, XF k → k ≠ g ∧ k ≠ d ∧ k ≠ p ∧ k ≠ pb ∧ k ≠ m) (hM : s.M = []) : VipR w g d p pb f m XF kb s := by
  have e : ∀ i, i ∉ idsM s.M := fun i hi => by rw [hM] at hi; cases hi
  exact ⟨hq, hd, hp, hf, ⟨[], hm, by rw [hM]; exact List.Perm.refl _⟩, fun i hi => absurd hi (e i), fun i hi => absurd hi (e i), hpb, fun k hk => let ⟨a, b, c, d, e'⟩ := hsep k hk; ⟨a, b, c, d, e', fun i hi => absurd hi (e i)⟩⟩
theorem VipR.add {kn : Nat} (h : VipR w g d p pb f m XF kb s) (hc : Chg w w' (fun k => k = pb ∨ k = m)) (x : Mem) (hx : x.id ∉ idsM s.M) (hp : PoolIn w' p pb s.pc (s.M ++ [x])) (hm : ∃ A, Ent Tryz.prog 3 w' m A ∧ A.Perm ((idsM s.M).map (cntE kb) ++ [(.int .i64 x.id, .pointer (some ⟨kn, 0, none⟩))]))
    (hk : Blk w' kn 212 (rs.riseCs s.ri s.fa (s.K x.id).1 (s.K x.id).2)) (hkn : w.heap.size ≤ kn) : VipR w' g d p pb f m XF (fun j => if j = x.id then kn else kb j) { s with M := s.M ++ [x] } := by
  obtain ⟨A, hA, hP⟩ := hm
  obtain ⟨n1, n2, n3, n4, n5, n6, n7, n8, n9, n10⟩ := h.ne
  obtain ⟨l1, l2, l3, l4, l5, l6, l7⟩ := h.lt
  have hids : idsM (s.M ++ [x]) = idsM s.M ++ [x.id] := by simp [idsM]
  have hold : ∀ i ∈ idsM s.M, (if i = x.id then kn else kb i) = kb i := fun i hi => if_neg fun (e : i = x.id) => hx (e ▸ hi)
  refine ⟨hc.blk h.blk (fun q => q.elim n3 n4), hc.blk h.dmp (fun q => q.elim n6 n7), hp, h.flw.chg hc fun k hk q => q.elim (h.sep k hk).2.2.2.1 (h.sep k hk).2.2.2.2.1, ⟨A, hA, ?_⟩, ?_, ?_, h.pbm, ?_⟩ <;> (show _; try simp only [hids])
  · rw [List.map_append]
    refine hP.trans ?_
    have e1 : (idsM s.M).map (cntE kb) = (idsM s.M).map (cntE fun j => if j = x.id then kn else kb j) := List.map_congr_left fun i hi => by
      show (_, Value.pointer (some ⟨kb i, 0, none⟩)) = (_, Value.pointer (some ⟨if i = x.id then kn else kb i, 0, none⟩))
      rw [hold i hi]
    rw [e1]
    simp [cntE]
  · intro i hi
    rcases List.mem_append.1 hi with q | q
    · simp only [hold i q]
      exact hc.blk (h.cnt i q) fun y => y.elim (n10 i q).2.2.2.1 (n10 i q).2.2.2.2
    · rw [List.mem_singleton.1 q]
      simp only [if_true]
      exact hk
  · intro i hi j hj e
    rcases List.mem_append.1 hi with q | q <;> rcases List.mem_append.1 hj with r | r
    · simp only [hold i q, hold j r] at e
      exact h.inj i q j r e
    · rw [List.mem_singleton.1 r] at e ⊢
      simp only [hold i q, if_true] at e
      have := l7 i q
      omega
    · rw [List.mem_singleton.1 q] at e ⊢
      simp only [hold j r, if_true] at e
      have := l7 j r
      omega
    · rw [List.mem_singleton.1 q, List.mem_singleton.1 r]
  · intro k hk
    obtain ⟨a1, a2, a3, a4, a5, a6⟩ := h.sep k hk
    refine ⟨a1, a2, a3, a4, a5, fun i hi => ?_⟩
    rcases List.mem_append.1 hi with q | q
    · simp only [hold i q]
      exact a6 i q
    · rw [List.mem_singleton.1 q]
      simp only [if_true]
      have := l6 k hk
      omega
end
end Go.Proofs.YtgdeecmhhbdjgaaGreat

/- vip: the document's vip in plain terms; how it lies; Servable, want, Look, Tick, Enable. -/
namespace Go.Proofs.YtgdeecmhhbdjgaaGreat
set_option linter.unusedVariables false
open Go Go.RowKit Go.Maps

structure RvS where
  ad : Int
  on : Bool
  lv : Int
  dF : Int
  dS : Int
  dR : Int
  dC : Int
  dH : Int
  pe : Int
  hd : Bool
  pc : Int
  L : List Mem
  ro : Int
  idl : Int
  now : Int
  N : Nat
  E : List EnV
  C : List CtV
def rvC (s : RvS) (p f : Nat) (A : Option Addr) (c : Nat) : Array Value := rvA ⟨some ⟨p, 0, none⟩, A, s.C.length, c, some ⟨f, 0, none⟩, s.on, s.lv, s.ad⟩ s.dF s.dS s.dR s.dC s.dH s.pe s.hd
structure RvR (w : World) (Y D : Nat → Prop) (g p f : Nat) (A : Option Addr) (c : Nat) (s : RvS) : Prop where
  blk : Blk w g 97 (rvC s p f A c)
  pol : RefIn w (fun b => ¬ Y b) p s.pc s.L
  flw : RefF w (fun b => ¬ Y b) f s.ro s.idl s.now s.N s.E
  row : Rows ctK w 0 0 176 (.slice A s.C.length c) s.C
  own : D g ∧ D p ∧ D f ∧ ∀ k, (Value.slice A s.C.length c).ownBlock = some k → D k
  dY : ∀ k, D k → Y k
  ne : g ≠ p ∧ g ≠ f ∧ p ≠ f ∧ ∀ k, (Value.slice A s.C.length c).ownBlock = some k → k ≠ g ∧ k ≠ p ∧ k ≠ f
  lim : ∀ k, Y k → k < w.heap.size
def RvT (w : World) (Y D : Nat → Prop) (g : Nat) (s : RvS) : Prop := ∃ p f A c, RvR w Y D g p f A c s
section
variable {w w' : World} {Y Y' Z D : Nat → Prop} {g p f c : Nat} {A : Option Addr} {s : RvS}
theorem refin_chg {X Z : Nat → Prop} {pc : Int} {L : List Mem} (h : RefIn w X p pc L) (hc : Chg w w' Z) (hp : ¬ Z p) (hX : ∀ b, X b → ¬ Z b) : RefIn w' X p pc L := by
  obtain ⟨A, n, c, k1, k2, q1, q2⟩ := h
  exact ⟨A, n, c, k1, k2, hc.blk q1 hp, (hc.seen q2 fun b q => ⟨q.2, hX b q.1⟩).more fun b q => ⟨q.1, Nat.lt_of_lt_of_le q.2 hc.size⟩⟩
theorem rowC_chg {v : Value} {C : List CtV} {T : TypeId} (h : Rows ctK w 0 0 T v C) (hc : Chg w w' Z) (hv : ∀ k, v.ownBlock = some k → ¬ Z k) : Rows ctK w' 0 0 T v C := ⟨hc.own h.1 hv, fun _ _ => trivial⟩
theorem RvR.keep (h : RvR w Y D g p f A c s) (hc : Chg w w' Z) (hZ : ∀ k, Z k → Y k ∧ ¬ D k) : RvR w' Y D g p f A c s := by
  have hX : ∀ b, ¬ Y b → ¬ Z b := fun b q z => q (hZ b z).1
  have hD : ∀ b, D b → ¬ Z b := fun b q z => (hZ b z).2 q
  exact ⟨hc.blk h.blk (hD _ h.own.1), refin_chg h.pol hc (hD _ h.own.2.1) hX, h.flw.chg hc (hD _ h.own.2.2.1) hX, rowC_chg h.row hc fun k q => hD _ (h.own.2.2.2 k q), h.own, h.dY, h.ne, fun k q => Nat.lt_of_lt_of_le (h.lim k q) hc.size⟩
theorem RvR.nx (h : RvR w Y D g p f A c s) (hb : Below w.heap.size w w') : RvR w' Y D g p f A c s := h.keep (Chg.of_below (X := fun _ => False) hb) fun _ q => q.elim
theorem RvR.wide (h : RvR w Y D g p f A c s) (h1 : ∀ k, Y k → Y' k) (h2 : ∀ k, Y' k → Y k ∨ w.heap.size ≤ k) (hb : Below w.heap.size w w') (h3 : ∀ k, Y' k → k < w'.heap.size) : RvR w' Y' D g p f A c s := by
  have h9 := h.nx hb
  have key : ∀ b, (¬ Y b ∧ b < w.heap.size) → ¬ Y' b := fun b q z => (h2 b z).elim q.1 fun r => by omega
  refine ⟨h9.blk, ?_, ?_, h9.row, h.own, fun k q => h1 k (h.dY k q), h.ne, h3⟩
  · obtain ⟨A, n, c, k1, k2, q1, q2⟩ := h.pol
    exact ⟨A, n, c, k1, k2, q1.below hb q1.lt, (q2.below hb fun b q => q.2).more fun b q => ⟨key b q, Nat.lt_of_lt_of_le q.2 hb.size⟩⟩
  · obtain ⟨A, n, c, ca, we, k1, k2, k3, k4, q1, q2⟩ := h.flw
    exact ⟨A, n, c, ca, we, k1, k2, k3, k4, q1.below hb q1.lt, (q2.below hb fun b q => q.2).more fun b q => ⟨key b q, Nat.lt_of_lt_of_le q.2 hb.size⟩⟩
theorem RvR.setG (h : RvR w Y D g p f A c s) (hc : Chg w w' (fun k => k = g)) (on : Bool) (lv pe : Int) (hd : Bool) (hb : Blk w' g 97 (rvC { s with on := on, lv := lv, pe := pe, hd := hd } p f A c)) : RvR w' Y D g p f A c { s with on := on, lv := lv, pe := pe, hd := hd } := by
  have hg : Y g := h.dY g h.own.1
  have hX : ∀ b, ¬ Y b → b ≠ g := fun b q e => q (e ▸ hg)
  exact ⟨hb, refin_chg h.pol hc (Ne.symm h.ne.1) hX, h.flw.chg hc (Ne.symm h.ne.2.1) hX, rowC_chg h.row hc fun k q => (h.ne.2.2.2 k q).1, h.own, h.dY, h.ne, fun k q => Nat.lt_of_lt_of_le (h.lim k q) hc.size⟩
theorem RvR.setP (h : RvR w Y D g p f A c s) (hc : Chg w w' (fun k => k = p)) (L : List Mem) (hb : RefIn w' (fun b => ¬ Y b) p s.pc L) : RvR w' Y D g p f A c { s with L := L } := by
  have hg : Y p := h.dY p h.own.2.1
  have hX : ∀ b, ¬ Y b → b ≠ p := fun b q e => q (e ▸ hg)
  exact ⟨hc.blk h.blk h.ne.1, hb, h.flw.chg hc (Ne.symm h.ne.2.2.1) hX, rowC_chg h.row hc fun k q => (h.ne.2.2.2 k q).2.1, h.own, h.dY, h.ne, fun k q => Nat.lt_of_lt_of_le (h.lim k q) hc.size⟩
theorem RvR.setF (h : RvR w Y D g p f A c s) (hc : Chg w w' (fun k => k = f)) (now : Int) (N : Nat) (E : List EnV) (hb : RefF w' (fun b => ¬ Y b) f s.ro s.idl now N E) : RvR w' Y D g p f A c { s with now := now, N := N, E := E } := by
  have hg : Y f := h.dY f h.own.2.2.1
  have hX : ∀ b, ¬ Y b → b ≠ f := fun b q e => q (e ▸ hg)
  exact ⟨hc.blk h.blk h.ne.2.1, refin_chg h.pol hc h.ne.2.2.1 hX, hb, rowC_chg h.row hc fun k q => (h.ne.2.2.2 k q).2.2, h.own, h.dY, h.ne, fun k q => Nat.lt_of_lt_of_le (h.lim k q) hc.size⟩
theorem RvR.setC {gc : Nat} (h : RvR w Y D g p f (some ⟨gc, 0, none⟩) c s) (hc : Chg w w' (fun k => k = gc)) (C : List CtV) (hl : C.length = s.C.length) (hb : Rows ctK w' 0 0 176 (.slice (some ⟨gc, 0, none⟩) C.length c) C) : RvR w' Y D g p f (some ⟨gc, 0, none⟩) c { s with C := C } := by
  have e : (Value.slice (some ⟨gc, 0, none⟩) s.C.length c).ownBlock = some gc := rfl
  have hg : Y gc := h.dY gc (h.own.2.2.2 gc e)
  obtain ⟨n1, n2, n3⟩ := h.ne.2.2.2 gc e
  have hX : ∀ b, ¬ Y b → b ≠ gc := fun b q e => q (e ▸ hg)
  refine ⟨?_, refin_chg h.pol hc (Ne.symm n2) hX, h.flw.chg hc (Ne.symm n3) hX, hb, ?_, h.dY, ?_, fun k q => Nat.lt_of_lt_of_le (h.lim k q) hc.size⟩
  · have := hc.blk h.blk (Ne.symm n1)
    unfold rvC at this ⊢
    show Blk w' g _ (rvA ⟨_, _, C.length, _, _, _, _, _⟩ _ _ _ _ _ _ _)
    rw [hl]
    exact this
  · exact ⟨h.own.1, h.own.2.1, h.own.2.2.1, fun k q => h.own.2.2.2 k q⟩
  · exact ⟨h.ne.1, h.ne.2.1, h.ne.2.2.1, fun k q => h.ne.2.2.2 k q⟩
end
structure GoodR (s : RvS) : Prop where
  dg : dm.goodR s.dF s.dS s.dR s.dC s.dH = true
  pe0 : 0 ≤ s.pe
  pe1 : s.pe ≤ 1000000
  mem : MemsOk s.L
  len : s.C.length = s.L.length
  run : ∀ x ∈ s.C, 0 ≤ x.n ∧ x.n ≤ 1000
theorem GoodR.F {s : RvS} (h : GoodR s) : 1 ≤ s.dF ∧ s.dF ≤ 100000 := by
  have := of_decide_eq_true h.dg
  exact ⟨this.1, this.2.1⟩
def quoR (s : RvS) : Bool := quoB (sumW soUp s.L) (sumW soAll s.L) s.pc
def srvR (s : RvS) (b : Bool) : Bool := s.on && (quoR s || b)
def wantR (s : RvS) (b : Bool) : Int := if srvR s b = false then 0 else if s.hd = true then 0 else if quoR s = true then 1 else 2
def flapR (s : RvS) : RvS := { s with pe := dm.lowest (s.pe + s.dF) s.dC, hd := s.hd || decide (s.dS ≤ dm.lowest (s.pe + s.dF) s.dC) }
def tickR (s : RvS) : RvS := { s with pe := dm.decay s.pe s.dH, hd := s.hd && decide (s.dR < dm.decay s.pe s.dH) }
def lookR (s : RvS) (b : Bool) : RvS := if s.lv ≠ 0 ∧ wantR s b = 0 then { flapR s with lv := wantR s b } else { s with lv := wantR s b }
def tickRR (s : RvS) (b : Bool) : RvS := lookR (tickR s) b
theorem GoodR.tick {s : RvS} (h : GoodR s) : GoodR (tickR s) := ⟨h.dg, dm.decay_lo _ _, Int.le_trans (dm.decay_le _ _ h.pe0) h.pe1, h.mem, h.len, h.run⟩
set_option maxRecDepth 100000 in
set_option maxHeartbeats 8000000 in
theorem rvServable {w : World} {Y D : Nat → Prop} {g p f c : Nat} {A : Option Addr} {s : RvS} (h : RvR w Y D g p f A c s) (hG : GoodR s) (b : Bool) : Calls Tryz.prog 128 #[.pointer (some ⟨g, 0, none⟩), .bool b] w fun e w' => e = .returned (.bool (srvR s b)) ∧ Below w.heap.size w w' := by
  have c0 : w.cell? ⟨g, 0, none⟩ = some (.pointer (some ⟨p, 0, none⟩)) := h.blk.cellv 0 rfl
  have c10 : w.cell? ⟨g, 10, none⟩ = some (.bool s.on) := h.blk.cellv 10 rfl
  have lg := h.blk.lt
  have hq := refQuorate25 w _ p s.pc s.L h.pol hG.mem
  have ev : srvR s b = (s.on && (quoR s || b)) := rfl
  unfold quoR at ev
  generalize quoB (sumW soUp s.L) (sumW soAll s.L) s.pc = q at *
  generalize s.on = on at *
  replace ev := Lib.hid ev
  go_enter Tryz.func128, Tryz.ntmps128
  cases on
  · go_wp2_with fail
    go_ret
    exact ⟨ret_bool ev.out.symm, Below.refl _ _⟩
  · cases q
    · go_wp2_with (go_at_call 199; refine hq.mono ?_; rintro en w2 ⟨rfl, hb⟩)
      go_ret
      exact ⟨ret_bool ev.out.symm, hb⟩
    · go_wp2_with (go_at_call 199; refine hq.mono ?_; rintro en w2 ⟨rfl, hb⟩)
      go_ret
      exact ⟨ret_bool ev.out.symm, hb⟩
set_option maxRecDepth 100000 in
set_option maxHeartbeats 8000000 in
theorem rvWant {w : World} {Y D : Nat → Prop} {g p f c : Nat} {A : Option Addr} {s : RvS} (h : RvR w Y D g p f A c s) (hG : GoodR s) (b : Bool) : Calls Tryz.prog 136 #[.pointer (some ⟨g, 0, none⟩), .bool b] w fun e w' => e = .returned (.int .i64 (wantR s b)) ∧ Below w.heap.size w w' := by
  have hs := rvServable h hG b
  have ew : wantR s b = if srvR s b = false then 0 else if s.hd = true then 0 else if quoR s = true then 1 else 2 := rfl
  generalize wantR s b = W at *
  generalize srvR s b = sv at *
  obtain ⟨hh, ehh⟩ : ∃ hh, s.hd = hh := ⟨_, rfl⟩
  rw [ehh] at ew
  replace ehh := Lib.hid ehh
  replace ew := Lib.hid ew
  go_enter Tryz.func136, Tryz.ntmps136
  cases sv
  · have ew1 := Lib.hid (ew.out.trans (if_pos rfl))
    clear ew
    go_wp2_with (go_at_call 128; refine hs.mono ?_; rintro en w2 ⟨rfl, hb⟩)
    go_ret
    rw [ew1.out]
    exact ⟨rfl, hb⟩
  have ew1 := Lib.hid (ew.out.trans (if_neg (by simp)))
  clear ew
  cases hh
  · have ew2 := Lib.hid (ew1.out.trans (if_neg (by simp)))
    clear ew1
    go_upto_region 3 with (go_at_call 128; refine hs.mono ?_; rintro en w2 ⟨rfl, hb⟩; have c9 : w2.cell? ⟨g, 9, none⟩ = some (.bool false) := (by rw [← ehh.out]; exact (h.nx hb).blk.cellv 9 rfl); have lg := (h.nx hb).blk.lt)
    have h2 := h.nx hb
    have c0 : w2.cell? ⟨g, 0, none⟩ = some (.pointer (some ⟨p, 0, none⟩)) := h2.blk.cellv 0 rfl
    have hq := refQuorate25 w2 _ p s.pc s.L h2.pol hG.mem
    have eq : quoB (sumW soUp s.L) (sumW soAll s.L) s.pc = quoR s := rfl
    rw [eq] at hq
    clear eq
    generalize quoR s = q at *
    cases q
    · have ew3 := Lib.hid (ew2.out.trans (if_neg (by simp)))
      clear ew2
      go_wp2_with (go_at_call 199; refine hq.mono ?_; rintro en w3 ⟨rfl, hb3⟩)
      go_ret
      rw [ew3.out]
      exact ⟨rfl, hb.trans (hb3.mono hb.size)⟩
    · have ew3 := Lib.hid (ew2.out.trans (if_pos rfl))
      clear ew2
      go_wp2_with (go_at_call 199; refine hq.mono ?_; rintro en w3 ⟨rfl, hb3⟩)
      go_ret
      rw [ew3.out]
      exact ⟨rfl, hb.trans (hb3.mono hb.size)⟩
  · have ew2 := Lib.hid (ew1.out.trans (if_pos rfl))
    clear ew1
    go_wp2_with (go_at_call 128; refine hs.mono ?_; rintro en w2 ⟨rfl, hb⟩; have c9 : w2.cell? ⟨g, 9, none⟩ = some (.bool true) := (by rw [← ehh.out]; exact (h.nx hb).blk.cellv 9 rfl); have lg := (h.nx hb).blk.lt)
    go_ret
    rw [ew2.out]
    exact ⟨rfl, hb⟩
set_option maxRecDepth 100000 in
set_option maxHeartbeats 8000000 in
theorem rvEnable {w : World} {Y D : Nat → Prop} {g p f c : Nat} {A : Option Addr} {s : RvS} (h : RvR w Y D g p f A c s) (b : Bool) : Calls Tryz.prog 44 #[.pointer (some ⟨g, 0, none⟩), .bool b] w fun e w' => e = .returned (.bool (s.on != b)) ∧ RvR w' Y D g p f A c ({ s with on := b }) ∧ Chg w w' (fun k => k = g) := by
  have c10 : w.cell? ⟨g, 10, none⟩ = some (.bool s.on) := h.blk.cellv 10 rfl
  have lg := h.blk.lt
  have f10 := h.blk.frozen 10
  obtain ⟨h1, g1⟩ := blk_store h.blk 10 (.bool b)
  have hC : Chg w _ (fun k => k = g) := Chg.of_grown (X := fun k => k = g) g1 rfl
  have h2 := Lib.hid (h.setG hC b s.lv s.pe s.hd h1)
  replace hC := Lib.hid hC
  clear h1 g1
  go_enter Tryz.func44, Tryz.ntmps44
  go_wp2_with fail
  go_ret
  exact ⟨rfl, h2.out, hC.out⟩
set_option maxRecDepth 100000 in
set_option maxHeartbeats 8000000 in
theorem rvLook {w : World} {Y D : Nat → Prop} {g p f c : Nat} {A : Option Addr} {s : RvS} (h : RvR w Y D g p f A c s) (hG : GoodR s) (b : Bool) : Calls Tryz.prog 45 #[.pointer (some ⟨g, 0, none⟩), .bool b] w fun e w' => e = .returned (.int .i64 (wantR s b)) ∧ RvR w' Y D g p f A c (lookR s b) ∧ Chg w w' (fun k => k = g) := by
  have hW := rvWant h hG b
  obtain ⟨tz, hto⟩ : ∃ tz, wantR s b = tz := ⟨_, rfl⟩
  rw [hto] at hW ⊢
  go_enter Tryz.func45, Tryz.ntmps45
  go_upto_region 2 with (go_at_call 136; refine hW.mono ?_; rintro en w2 ⟨rfl, hb⟩)
  clear hW
  have h2 := h.nx hb
  have hC2 : Chg w w2 (fun k => k = g) := Chg.of_below hb
  clear h hb
  have c11 : w2.cell? ⟨g, 11, none⟩ = some (.int .i64 s.lv) := h2.blk.cellv 11 rfl
  have lg := h2.blk.lt
  by_cases z1 : s.lv = 0
  · have eL := Lib.hid (show lookR s b = { s with lv := tz } by unfold lookR; rw [hto, if_neg (fun q => q.1 z1)])
    have d1 : (s.lv != 0) = false := by simpa using z1
    replace z1 := Lib.hid z1
    replace hto := Lib.hid hto
    go_upto_region 4 with (fail)
    clear c11
    have f11 := h2.blk.frozen 11
    have c11 : w2.cell? ⟨g, 11, none⟩ = some (.int .i64 s.lv) := h2.blk.cellv 11 rfl
    have lg := h2.blk.lt
    obtain ⟨h4, g4⟩ := blk_store h2.blk 11 (.int .i64 tz)
    have hC4 : Chg w2 _ (fun k => k = g) := Chg.of_grown (X := fun k => k = g) g4 rfl
    have h5 := Lib.hid (h2.setG hC4 s.on tz s.pe s.hd h4)
    replace hC4 := Lib.hid hC4
    clear h4 g4
    go_wp2_with fail
    go_ret
    rw [eL.out]
    exact ⟨rfl, h5.out, hC2.trans hC4.out fun _ _ q => q⟩
  · have d1 : (s.lv != 0) = true := by simpa using z1
    by_cases z2 : tz = 0
    · have eL := Lib.hid (show lookR s b = { flapR s with lv := tz } by unfold lookR; rw [hto, if_pos ⟨z1, z2⟩])
      replace hto := Lib.hid hto
      subst z2
      replace z1 := Lib.hid z1
      go_upto_region 4 with (go_at_call 137; refine (rvFlap _ _ _ _ _ _ _ _ g w2 hG.F.1 hG.F.2 hG.pe0 hG.pe1 h2.blk).mono ?_; rintro en w3 ⟨rfl, hd3, hg3⟩)
      have hC3 : Chg w2 w3 (fun k => k = g) := Chg.of_grown (X := fun k => k = g) hg3 rfl
      have h3 := h2.setG hC3 s.on s.lv (dm.lowest (s.pe + s.dF) s.dC) (s.hd || decide (s.dS ≤ dm.lowest (s.pe + s.dF) s.dC)) hd3
      clear c11 d1 hd3 hg3 lg
      have f11 := h3.blk.frozen 11
      have c11 : w3.cell? ⟨g, 11, none⟩ = some (.int .i64 s.lv) := h3.blk.cellv 11 rfl
      have lg := h3.blk.lt
      obtain ⟨h4, g4⟩ := blk_store h3.blk 11 (.int .i64 0)
      have hC4 : Chg w3 _ (fun k => k = g) := Chg.of_grown (X := fun k => k = g) g4 rfl
      have h5 := Lib.hid (h3.setG hC4 s.on 0 (dm.lowest (s.pe + s.dF) s.dC) (s.hd || decide (s.dS ≤ dm.lowest (s.pe + s.dF) s.dC)) h4)
      replace hC4 := Lib.hid hC4
      clear h4 g4
      go_wp2_with fail
      go_ret
      rw [eL.out]
      exact ⟨rfl, h5.out, (hC2.trans hC3 fun _ _ q => q).trans hC4.out fun _ _ q => q⟩
    · have eL := Lib.hid (show lookR s b = { s with lv := tz } by unfold lookR; rw [hto, if_neg (fun q => z2 q.2)])
      have d2 : (tz == 0) = false := by simpa using z2
      replace z1 := Lib.hid z1
      replace z2 := Lib.hid z2
      replace hto := Lib.hid hto
      go_upto_region 4 with (fail)
      clear c11
      have f11 := h2.blk.frozen 11
      have c11 : w2.cell? ⟨g, 11, none⟩ = some (.int .i64 s.lv) := h2.blk.cellv 11 rfl
      have lg := h2.blk.lt
      obtain ⟨h4, g4⟩ := blk_store h2.blk 11 (.int .i64 tz)
      have hC4 : Chg w2 _ (fun k => k = g) := Chg.of_grown (X := fun k => k = g) g4 rfl
      have h5 := Lib.hid (h2.setG hC4 s.on tz s.pe s.hd h4)
      replace hC4 := Lib.hid hC4
      clear h4 g4
      go_wp2_with fail
      go_ret
      rw [eL.out]
      exact ⟨rfl, h5.out, hC2.trans hC4.out fun _ _ q => q⟩
set_option maxRecDepth 100000 in
set_option maxHeartbeats 8000000 in
theorem rvTickV {w : World} {Y D : Nat → Prop} {g p f c : Nat} {A : Option Addr} {s : RvS} (h : RvR w Y D g p f A c s) (hG : GoodR s) (b : Bool) : Calls Tryz.prog 124 #[.pointer (some ⟨g, 0, none⟩), .bool b] w fun e w' => e = .returned (.int .i64 (wantR (tickR s) b)) ∧ RvR w' Y D g p f A c (tickRR s b) ∧ Chg w w' (fun k => k = g) := by
  have lg := h.blk.lt
  go_enter Tryz.func124, Tryz.ntmps124
  go_upto_region 2 with (go_at_call 196; refine (rvTick _ _ _ _ _ _ _ _ g w hG.F.1 hG.pe0 hG.pe1 h.blk).mono ?_; rintro en w2 ⟨rfl, hd2, hg2⟩)
  have hC2 : Chg w w2 (fun k => k = g) := Chg.of_grown (X := fun k => k = g) hg2 rfl
  have h2 : RvR w2 Y D g p f A c (tickR s) := h.setG hC2 s.on s.lv (dm.decay s.pe s.dH) (s.hd && decide (s.dR < dm.decay s.pe s.dH)) hd2
  clear lg hd2 hg2 h
  go_wp2_with (go_at_call 45; refine (rvLook h2 hG.tick b).mono ?_; rintro en w3 ⟨rfl, h3, hC3⟩)
  go_ret
  exact ⟨rfl, h3, hC2.trans hC3 fun _ _ q => q⟩
end Go.Proofs.YtgdeecmhhbdjgaaGreat

/- vip: the document's Result. -/
namespace Go.Proofs.YtgdeecmhhbdjgaaGreat
set_option linter.unusedVariables false
open Go Go.RowKit Go.Maps

def ctD : CtV := ⟨0, 0, false, 0⟩
def ctAt (C : List CtV) (k : Nat) : CtV := C[k]?.getD ctD
def notC (x : CtV) (ok : Bool) : Bool × Bool × Int := noteK x.r x.f (x.u, x.n) ok
def resR (s : RvS) (i : Int) (ok : Bool) : Bool × RvS := match findF s.L i with
  | none => (false, s)
  | some k =>
    if (notC (ctAt s.C k) ok).1 = true then
      (true, { s with C := s.C.set k ⟨(ctAt s.C k).r, (ctAt s.C k).f, (notC (ctAt s.C k) ok).2.1, (notC (ctAt s.C k) ok).2.2⟩, L := (markR s.L i (notC (ctAt s.C k) ok).2.1).2, E := if (notC (ctAt s.C k) ok).2.1 = true then s.E else s.E.filter fun x => !(soB i x) })
    else (false, { s with C := s.C.set k ⟨(ctAt s.C k).r, (ctAt s.C k).f, (notC (ctAt s.C k) ok).2.1, (notC (ctAt s.C k) ok).2.2⟩ })
theorem rvNoteK {w : World} {g cap j : Nat} {L : List CtV} {x : CtV} (ok : Bool) (h0 : 0 ≤ x.n) (h1 : x.n ≤ 1000) (hb : CtAt w g cap j L x.r x.f x.u x.n) :
    Calls Tryz.prog 193 #[.pointer (some ⟨g, j * 4, none⟩), .bool ok] w fun e w' => e = .returned (.bool (notC x ok).1) ∧ CtAt w' g cap j L x.r x.f (notC x ok).2.1 (notC x ok).2.2 ∧ w.grownBy w' (some g) := by
  unfold notC noteK
  by_cases h : ok = x.u
  · rw [if_pos h, h]
    exact rvNote_same x.r x.f x.n x.u g cap j L w hb
  · rw [if_neg h]
    have hk : ok = !x.u := by cases ok <;> cases hu : x.u <;> simp_all
    by_cases c : rs.needs x.r x.f x.u ≤ x.n + 1
    · rw [if_pos c]
      exact rvNote_yes x.r x.f x.n x.u ok g cap j L w hk h0 h1 hb c
    · rw [if_neg c]
      exact rvNote_no x.r x.f x.n x.u ok g cap j L w hk h0 h1 hb (by omega)
theorem ct_of {w : World} {gc cap k : Nat} {C : List CtV} {x : CtV} (h : Rows ctK w 0 0 176 (.slice (some ⟨gc, 0, none⟩) C.length cap) C) (hx : C[k]? = some x) : CtAt w gc cap k C x.r x.f x.u x.n := by
  have hk := (List.getElem?_eq_some_iff.1 hx).1
  refine ⟨hk, ?_⟩
  have e : C.set k ⟨x.r, x.f, x.u, x.n⟩ = C := by
    have : C[k] = x := (List.getElem?_eq_some_iff.1 hx).2
    show C.set k x = C
    rw [← this]
    exact List.set_getElem_self hk
  rw [e]
  exact h.1
theorem ct_rows {w : World} {gc cap k : Nat} {C : List CtV} {r f n : Int} {u : Bool} (h : CtAt w gc cap k C r f u n) : Rows ctK w 0 0 176 (.slice (some ⟨gc, 0, none⟩) (C.set k ⟨r, f, u, n⟩).length cap) (C.set k ⟨r, f, u, n⟩) := by
  refine ⟨?_, fun _ _ => trivial⟩
  rw [List.length_set]
  exact h.2
set_option maxRecDepth 100000 in
set_option maxHeartbeats 8000000 in
theorem rvResult {w : World} {Y D : Nat → Prop} {g p f c : Nat} {A : Option Addr} {s : RvS} (h : RvR w Y D g p f A c s) (hG : GoodR s) (i : Int) (ok : Bool) (hE : s.E.length ≤ 1000000) : Calls Tryz.prog 123 #[.pointer (some ⟨g, 0, none⟩), .int .i64 i, .bool ok] w fun e w' => e = .returned (.bool (resR s i ok).1) ∧ RvT w' Y D g (resR s i ok).2 ∧ Chg w w' D := by
  have hL16 : s.L.length ≤ 16 := hG.mem.1
  have c0 : w.cell? ⟨g, 0, none⟩ = some (.pointer (some ⟨p, 0, none⟩)) := h.blk.cellv 0 rfl
  have lg := h.blk.lt
  have hnew : ∀ b, w.heap.size ≤ b → ¬ Y b := fun b q y => by have := h.lim b y; omega
  go_enter Tryz.func123, Tryz.ntmps123
  go_upto_region 2 with (go_at_call 191; refine (refFind25 w _ p s.pc s.L i h.pol (by omega)).mono ?_; rintro e w2 ⟨rfl, hb⟩)
  clear c0 lg
  have h2 := h.nx hb
  have hC2 : Chg w w2 D := Chg.of_below hb
  have hnew2 : ∀ b, w2.heap.size ≤ b → ¬ Y b := fun b q => hnew b (Nat.le_trans hb.size q)
  clear h hb hnew
  cases hf : findF s.L i with
  | none =>
    have eR := Lib.hid (show resR s i ok = (false, s) by unfold resR; rw [hf])
    have hz : findZ s.L i = -1 := by unfold findZ; rw [hf]
    rw [hz]
    clear hz hf
    go_wp2_with fail
    go_ret
    rw [eR.out]
    exact ⟨rfl, ⟨p, f, A, c, h2⟩, hC2⟩
  | some k =>
    have hz : findZ s.L i = (k : Int) := by unfold findZ; rw [hf]
    rw [hz]
    clear hz
    obtain ⟨mm, hmm, -⟩ := findF_get hf
    have hkL := (List.getElem?_eq_some_iff.1 hmm).1
    have hkC : k < s.C.length := by rw [hG.len]; exact hkL
    obtain ⟨gc, cap, ev, -, hgl, -⟩ := h2.row.1.form (by omega)
    injection ev with eA eN eC
    subst eA
    subst eC
    obtain ⟨x, hx⟩ : ∃ x, s.C[k]? = some x := ⟨_, List.getElem?_eq_getElem hkC⟩
    have hxC : ctAt s.C k = x := by unfold ctAt; rw [hx]; rfl
    have hrun := hG.run x (List.mem_of_getElem? hx)
    have eR : resR s i ok = (if (notC x ok).1 = true then (true, { s with C := s.C.set k ⟨x.r, x.f, (notC x ok).2.1, (notC x ok).2.2⟩, L := (markR s.L i (notC x ok).2.1).2, E := if (notC x ok).2.1 = true then s.E else s.E.filter fun y => !(soB i y) }) else (false, { s with C := s.C.set k ⟨x.r, x.f, (notC x ok).2.1, (notC x ok).2.2⟩ })) := by unfold resR; rw [hf, ← hxC]
    have hno := rvNoteK ok hrun.1 hrun.2 (ct_of h2.row hx)
    have hct := ct_of h2.row hx
    generalize notC x ok = q at *
    obtain ⟨q0, q1, q2⟩ := q
    clear hxC hx hf hmm eN
    obtain ⟨n1, n2, n3⟩ := h2.ne.2.2.2 gc rfl
    have hD := h2.own.2.2.2 gc rfl
    have hCl : s.C.length ≤ 16 := by rw [hG.len]; exact hL16
    have hki : (k : Int) < s.C.length := by omega
    have hk0 : (0 : Int) ≤ k := by omega
    have d0 : decide ((k : Int) < 0) = false := by simp
    have c1 : w2.cell? ⟨g, 1, none⟩ = some (.slice (some ⟨gc, 0, none⟩) s.C.length c) := h2.blk.cellv 1 rfl
    have lg := h2.blk.lt
    cases q0
    · rw [if_neg (by simp)] at eR
      replace eR := Lib.hid eR
      go_wp2_with (go_at_call 193; refine hno.mono ?_; rintro en w3 ⟨rfl, hk3, hg3⟩)
      have hC3 : Chg w2 w3 (fun b => b = gc) := Chg.of_grown (X := fun b => b = gc) hg3 rfl
      go_ret
      rw [eR.out]
      exact ⟨rfl, ⟨p, f, _, _, h2.setC hC3 _ (List.length_set) (ct_rows hk3)⟩, hC2.trans hC3 fun b _ e => e ▸ hD⟩
    rw [if_pos rfl] at eR
    replace eR := Lib.hid eR
    go_upto_region 4 with (go_at_call 193; refine hno.mono ?_; rintro en w3 ⟨rfl, hk3, hg3⟩)
    have hC3 : Chg w2 w3 (fun b => b = gc) := Chg.of_grown (X := fun b => b = gc) hg3 rfl
    have h3 := h2.setC hC3 _ (List.length_set) (ct_rows hk3)
    have hC3' := hC2.trans hC3 fun b _ e => e ▸ hD
    have hnew3 : ∀ b, w3.heap.size ≤ b → ¬ Y b := fun b q => hnew2 b (Nat.le_trans hg3.size q)
    clear hno hct hg3 c1 lg d0 hC2 hC3 hnew2
    have hlen : (s.C.set k ⟨x.r, x.f, q1, q2⟩).length = s.C.length := List.length_set
    have lg := h3.blk.lt
    have lgc : gc < w3.heap.size := h3.lim gc (h3.dY gc hD)
    have c0 : w3.cell? ⟨g, 0, none⟩ = some (.pointer (some ⟨p, 0, none⟩)) := h3.blk.cellv 0 rfl
    have c1 : w3.cell? ⟨g, 1, none⟩ = some (.slice (some ⟨gc, 0, none⟩) s.C.length c) := by rw [← hlen]; exact h3.blk.cellv 1 rfl
    have cu : w3.cell? ⟨gc, k * 4 + 2, none⟩ = some (.bool q1) := hk3.c2
    replace hlen := Lib.hid hlen
    have ngp := h3.ne.1
    clear h2
    try refine wp_region_noPanic ?_
    have hs1r : w3.grownBy w3.drew (some p) := grown_drew (grown_refl _ _)
    refine wp_region_held_drew (S := fun w' => w3.grownBy w' (some p)) (by kernel_rfl) hs1r (fun _ => ?_)
    (refine held_takeA 0 (by rfl) ?_ (by kernel_rfl) (fun _ _ _ h => h) hs1r ?_ ?_; rotate_left; (focus (intro wq hSw; have hrd := zG hSw; go_simp; try with_reducible rfl; done)); try simp only [Act.put, zA, zB, zC])
    (refine held_takeA 1 (by rfl) ?_ (by kernel_rfl) (fun _ _ _ h => h) hs1r ?_ ?_; rotate_left; (focus (intro wq hSw; have hrd := zG hSw; go_simp; try with_reducible rfl; done)); try simp only [Act.put, zA, zB, zC])
    (refine held_takeA 2 (by rfl) ?_ (by kernel_rfl) (fun _ _ _ h => h) hs1r ?_ ?_; rotate_left; (focus (intro wq hSw; have hrd := zG hSw; go_simp; try with_reducible rfl; done)); try simp only [Act.put, zA, zB, zC])
    (refine held_takeA 3 (by rfl) ?_ (by kernel_rfl) (fun _ _ _ h => h) hs1r ?_ ?_; rotate_left; (focus (intro wq hSw; have hrd := zG hSw; go_simp; try with_reducible rfl; done)); try simp only [Act.put, zA, zB, zC])
    (refine held_takeA 4 (by rfl) ?_ (by kernel_rfl) (fun _ _ _ h => h) hs1r ?_ ?_; rotate_left; (focus (intro wq hSw; have hrd := zG hSw; go_simp; try with_reducible rfl; done)); try simp only [Act.put, zA, zB, zC])
    (refine held_takeA 5 (by rfl) ?_ (by kernel_rfl) (fun _ _ _ h => h) hs1r ?_ ?_; rotate_left; (focus (intro wq hSw; have hrd := zG hSw; go_simp; try with_reducible rfl; done)); try simp only [Act.put, zA, zB, zC])
    (refine held_takeA 6 (by rfl) ?_ (by kernel_rfl) (fun _ _ _ h => h) hs1r ?_ ?_; rotate_left; (focus (intro wq hSw; have hrd := zG hSw; go_simp; try with_reducible rfl; done)); try simp only [Act.put, zA, zB, zC])
    (refine held_takeA 7 (by rfl) ?_ (by kernel_rfl) (fun _ _ _ h => h) hs1r ?_ ?_; rotate_left; (focus (intro wq hSw; have hrd := zG hSw; go_simp; try with_reducible rfl; done)); try simp only [Act.put, zA, zB, zC])
    (refine held_takeA 8 (by rfl) ?_ (by kernel_rfl) (fun _ _ _ h => h) hs1r ?_ ?_; rotate_left; (focus (intro wq hSw; have hrd := zG hSw; go_simp; try with_reducible rfl; done)); try simp only [Act.put, zA, zB, zC])
    (refine held_takeA 9 (by rfl) ?_ (by kernel_rfl) (fun _ _ _ h => h) hs1r ?_ ?_; rotate_left; (focus (intro wq hSw; have hrd := zG hSw; go_simp; try with_reducible rfl; done)); try simp only [Act.put, zA, zB, zC])
    (refine held_takeA 10 (by rfl) ?_ (by kernel_rfl) (fun _ _ _ h => h) hs1r ?_ ?_; rotate_left; (focus (intro wq hSw; have hrd := zG hSw; go_simp; try with_reducible rfl; done)); try simp only [Act.put, zA, zB, zC])
    (refine held_takeA 11 (by rfl) ?_ (by kernel_rfl) (fun _ _ _ h => h) hs1r ?_ ?_; rotate_left; (focus (intro wq hSw; have hrd := zG hSw; go_simp; try with_reducible rfl; done)); try simp only [Act.put, zA, zB, zC])
    (refine held_takeA 12 (by rfl) ?_ (by kernel_rfl) (fun _ _ _ h => h) hs1r ?_ ?_; rotate_left; (focus (intro wq hSw; have hrd := zG hSw; go_simp; try with_reducible rfl; done)); try simp only [Act.put, zA, zB, zC])
    refine held_callA 13 (by rfl) (by kernel_rfl) (by rfl) (fun KQ hKQ => ?_)
    go_simp
    refine (refMark25 w3.drew _ p s.pc s.L i q1 h3.pol (by omega) (fun b q => hnew3 b q)).mono ?_
    rintro en w4 ⟨rfl, hP4, hg4⟩
    refine hKQ.out _ _ (grown_trans hs1r hg4) (held_mono (S' := fun w' => w4.grownBy w' (some p)) (fun w' h => grown_trans (grown_trans hs1r hg4) h) _ _ _ _ ?_)
    clear hKQ KQ
    have hs2r : w4.grownBy w4 (some p) := grown_refl _ _
    refine wpAnyH_done (by kernel_rfl) ?_ _
    try refine NoPanic.normal ?_
    replace hg4 : w3.grownBy w4 (some p) := grown_trans (grown_drew (grown_refl _ _)) hg4
    have hC4 : Chg w3 w4 (fun b => b = p) := Chg.of_grown (X := fun b => b = p) hg4 rfl
    have h4 := h3.setP hC4 _ hP4
    have hC4' := hC3'.trans hC4 fun b _ e => e ▸ h3.own.2.1
    have hnew4 : ∀ b, w4.heap.size ≤ b → ¬ Y b := fun b q => hnew3 b (Nat.le_trans hg4.size q)
    have c1' : w4.cell? ⟨g, 1, none⟩ = some (.slice (some ⟨gc, 0, none⟩) s.C.length c) := by rw [← hlen.out]; exact h4.blk.cellv 1 rfl
    have cu' : w4.cell? ⟨gc, k * 4 + 2, none⟩ = some (.bool q1) := (hC4.cell (p := ⟨gc, k * 4 + 2, none⟩) lgc n2).trans cu
    clear c0 c1 cu hC4 hC3' hg4 hP4 hnew3 lg lgc
    have lg := h4.blk.lt
    have lgc : gc < w4.heap.size := h4.lim gc (h4.dY gc hD)
    cases q1
    · go_upto_region 6 with (fail)
      have c2 : w4.cell? ⟨g, 2, none⟩ = some (.pointer (some ⟨f, 0, none⟩)) := h4.blk.cellv 2 rfl
      go_wp2_with (go_at_call 195; refine (rfPurge w4 _ f s.ro s.idl s.now s.N s.E h4.flw i hE (fun b q => hnew4 b q)).mono ?_; rintro en w5 ⟨y, rfl, hF5, hC5⟩)
      go_ret
      rw [eR.out]
      exact ⟨rfl, ⟨p, f, _, _, h4.setF hC5 _ _ _ hF5⟩, hC4'.trans hC5 fun b _ e => e ▸ h4.own.2.2.1⟩
    · go_wp2_with fail
      go_ret
      rw [eR.out]
      exact ⟨rfl, ⟨p, f, _, _, h4⟩, hC4'⟩
end Go.Proofs.YtgdeecmhhbdjgaaGreat
