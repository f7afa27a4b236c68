import Derived.Test.YtgdeecmhhbdjgaaGreatMVipNone19
import Derived.Test.YtgdeecmhhbdjgaaGreatMVipNone27
import Derived.Deep.DeepCutAuto
/- vip: New in plain terms; a backend more. -/
namespace Go.Proofs.YtgdeecmhhbdjgaaGreat
set_option linter.unusedVariables false
open Go Go.RowKit Go.Maps

def mkM (L : List BndV) : List Mem := L.map fun b => ⟨b.id, b.ad, b.wt, false, false⟩
def newS (c : CfgV) (v : VipV) (M : List Mem) : VpS := ⟨v.ad, true, 0, c.dF, c.dS, c.dR, c.dC, c.dH, 0, false, v.pct, M, c.room, c.idle, 0, 0, [], c.rise, c.fall, fun _ => (false, 0)⟩
theorem setR_mem {M : List Mem} (h : MemsOk M) (id : Int) (u v : Bool) (z : Int) (hz : 0 ≤ z ∧ z ≤ 100) : MemsOk (setR M id u v z).2 := by
  unfold setR
  cases hf : findF M id with
  | none => exact h
  | some k =>
    obtain ⟨x, hk, he⟩ := findF_get hf
    refine ⟨by show (M.set k _).length ≤ 16; rw [List.length_set]; exact h.1, fun m hm => ?_⟩
    rcases List.mem_or_eq_of_mem_set hm with q | rfl
    · exact h.2 m q
    · exact ⟨by rw [← he]; exact (h.2 x (List.mem_of_getElem? hk)).1, hz⟩
theorem getM_wt0 {M : List Mem} (h : MemsOk M) (id : Int) : 0 ≤ (getM M id).wt ∧ (getM M id).wt ≤ 100 := by
  unfold getM
  cases hf : findF M id with
  | none => exact (by decide : (0 : Int) ≤ 0 ∧ (0 : Int) ≤ 100)
  | some k =>
    obtain ⟨x, hk, he⟩ := findF_get hf
    simp only [hk, Option.getD_some]
    exact (h.2 x (List.mem_of_getElem? hk)).2
theorem mark_mem {M : List Mem} (h : MemsOk M) (id : Int) (u : Bool) : MemsOk (markR M id u).2 := setR_mem h _ _ _ _ (getM_wt0 h id)
theorem drain_mem {M : List Mem} (h : MemsOk M) (id : Int) (u : Bool) : MemsOk (drainR M id u).2 := setR_mem h _ _ _ _ (getM_wt0 h id)
theorem weigh_mem {M : List Mem} (h : MemsOk M) (id z : Int) : MemsOk (weighR M id z).2 := by
  unfold weighR
  split
  · exact h
  · rename_i q
    cases hf : findF M id with
    | none =>
      have e : ∀ a b c, setR M id a b c = (7, M) := fun a b c => by unfold setR; rw [hf]
      rw [e]
      exact h
    | some k =>
      refine setR_mem h _ _ _ _ ?_
      rw [findZ_some hf] at q
      unfold wtB at q
      simp at q
      exact q
theorem noteK_run {ri fa : Int} {k : Bool × Int} {ok : Bool} (hr : ri ≤ 100) (hf : fa ≤ 100) (h0 : 0 ≤ k.2) : 0 ≤ (noteK ri fa k ok).2.2 ∧ (noteK ri fa k ok).2.2 ≤ 1000 := by
  unfold noteK
  split
  · exact ⟨Int.le_refl 0, (by decide : (0 : Int) ≤ 1000)⟩
  · split
    · exact ⟨Int.le_refl 0, (by decide : (0 : Int) ≤ 1000)⟩
    · rename_i q
      unfold rs.needs at q
      refine ⟨by show 0 ≤ k.2 + 1; omega, ?_⟩
      show k.2 + 1 ≤ 1000
      split at q <;> omega
theorem putK_run {K : Int → Bool × Int} {i : Int} {q : Bool × Int} {l : List Int} (h : ∀ j ∈ l, 0 ≤ (K j).2 ∧ (K j).2 ≤ 1000) (hq : 0 ≤ q.2 ∧ q.2 ≤ 1000) : ∀ j ∈ l, 0 ≤ (putK K i q j).2 ∧ (putK K i q j).2 ≤ 1000 := by
  intro j hj
  unfold putK
  split
  · exact hq
  · exact h j hj
theorem resS_good {s : VpS} {i : Int} {ok : Bool} (h : GoodV s) : GoodV (resS s i ok).2 := by
  unfold resS
  split
  · rename_i hi
    have hn := noteK_run (ok := ok) h.ri.2 h.fa.2 (h.run i hi).1
    split
    · refine ⟨h.dg, h.pe0, h.pe1, mark_mem h.mem _ _, h.ri, h.fa, ?_⟩
      show ∀ j ∈ idsM (markR s.M i _).2, _
      rw [mark_ids]
      exact putK_run h.run hn
    · exact ⟨h.dg, h.pe0, h.pe1, h.mem, h.ri, h.fa, putK_run h.run hn⟩
  · exact h
theorem GoodV.flap {s : VpS} (h : GoodV s) : GoodV (flapS s) := by
  have := of_decide_eq_true h.dg
  refine ⟨h.dg, ?_, ?_, h.mem, h.ri, h.fa, h.run⟩
  · show 0 ≤ dm.lowest (s.pe + s.dF) s.dC
    unfold dm.lowest
    have := h.pe0
    split <;> omega
  · show dm.lowest (s.pe + s.dF) s.dC ≤ 1000000
    unfold dm.lowest
    split <;> omega
theorem GoodV.lvl {s : VpS} (h : GoodV s) (z : Int) : GoodV { s with lv := z } := ⟨h.dg, h.pe0, h.pe1, h.mem, h.ri, h.fa, h.run⟩
theorem GoodV.look {s : VpS} (h : GoodV s) (b : Bool) : GoodV (lookS s b) := by
  unfold lookS
  split
  · exact h.flap.lvl _
  · exact h.lvl _
theorem part_all {c : CfgV} (h : partC c = 0) : selfB c = true ∧ peersB c = true ∧ vipsB c = true ∧ poolsB c = true ∧ sitesB c = true ∧ tabB c = true ∧ dampB c = true ∧ ttlB c = true := by
  unfold partC at h
  cases h1 : selfB c <;> cases h2 : peersB c <;> cases h3 : vipsB c <;> cases h4 : poolsB c <;> cases h5 : sitesB c <;> cases h6 : tabB c <;> cases h7 : dampB c <;> cases h8 : ttlB c <;> simp [h1, h2, h3, h4, h5, h6, h7, h8] at h ⊢
theorem addsM_eq : ∀ (L : List BndV) (M M' : List Mem), addsM M L = some M' → M' = M ++ mkM L
  | [], M, M', h => by
    simp only [addsM, Option.some.injEq] at h
    subst h
    simp [mkM]
  | b :: r, M, M', h => by
    rw [addsM] at h
    split at h
    · rename_i h0
      obtain ⟨e, _⟩ := addP_len h0
      rw [e] at h
      rw [addsM_eq r _ M' h]
      simp [mkM]
    · cases h
/-- what the k-th backend is, as it is added. -/
theorem adds_step {L : List BndV} (h : (addsM [] L).isSome = true) {k : Nat} {b : BndV} (hb : L[k]? = some b) (hk : addsM [] (L.take k) = some (mkM (L.take k))) :
    addsM [] (L.take (k + 1)) = some (mkM (L.take (k + 1))) ∧ addP (mkM (L.take k)) b.id b.ad b.wt = (0, mkM (L.take (k + 1))) ∧ addOk b.id b.ad b.wt = true ∧ b.id ∉ idsM (mkM (L.take k)) ∧ mkM (L.take (k + 1)) = mkM (L.take k) ++ [⟨b.id, b.ad, b.wt, false, false⟩] := by
  obtain ⟨h1, h2⟩ := addsM_take hk hb
  have h0 : (addP (mkM (L.take k)) b.id b.ad b.wt).1 = 0 := Classical.byContradiction fun q => by rw [h2 q] at h; cases h
  rw [if_pos h0] at h1
  obtain ⟨e, hl, hok, hf⟩ := addP_len h0
  have e5 : mkM (L.take (k + 1)) = mkM (L.take k) ++ [⟨b.id, b.ad, b.wt, false, false⟩] := by
    unfold mkM
    rw [List.take_add_one, hb]
    simp
  rw [e, ← e5] at h1
  refine ⟨h1, ?_, hok, fun hm => ?_, e5⟩
  · rw [← h0, e5, ← e]
  · obtain ⟨x, hx, ex⟩ := List.mem_map.1 hm
    exact findF_no hf x hx ex
theorem adds_all {L : List BndV} (h : (addsM [] L).isSome = true) : addsM [] L = some (mkM L) ∧ MemsOk (mkM L) ∧ (idsM (mkM L)).Nodup := by
  have key : ∀ k, k ≤ L.length → addsM [] (L.take k) = some (mkM (L.take k)) ∧ (∀ x ∈ mkM (L.take k), (0 ≤ x.id ∧ x.id ≤ 255) ∧ (0 ≤ x.wt ∧ x.wt ≤ 100)) ∧ (idsM (mkM (L.take k))).Nodup := by
    intro k
    induction k with
    | zero => intro _; exact ⟨rfl, by simp [mkM], by simp [mkM, idsM]⟩
    | succ k ih =>
      intro hk
      obtain ⟨i1, i2, i3⟩ := ih (by omega)
      obtain ⟨s1, _, hok, hn, e5⟩ := adds_step h (List.getElem?_eq_getElem (show k < L.length by omega)) i1
      refine ⟨s1, fun x hx => ?_, ?_⟩
      · rw [e5] at hx
        rcases List.mem_append.1 hx with q | q
        · exact i2 x q
        · rw [List.mem_singleton.1 q]
          unfold addOk wtB at hok
          simp only [Bool.and_eq_true, decide_eq_true_eq] at hok
          exact ⟨hok.1.1, hok.2⟩
      · rw [e5]
        unfold idsM at hn ⊢
        rw [List.map_append]
        refine List.nodup_append.2 ⟨i3, by simp, ?_⟩
        intro a ha b hb e
        subst e
        simp at hb
        subst hb
        exact hn ha
  obtain ⟨k1, k2, k3⟩ := key L.length (Nat.le_refl _)
  rw [List.take_length] at k1 k2 k3
  exact ⟨k1, ⟨(addsM_len L [] _ k1 (by simp)).1, k2⟩, k3⟩
theorem newS_good {c : CfgV} {v : VipV} {k : Nat} (hok : partC c = 0) (hv : c.V[k]? = some v) : GoodV (newS c v (mkM v.L)) ∧ (1 ≤ v.pct ∧ v.pct ≤ 100) ∧ (1 ≤ c.room ∧ c.room ≤ 1024) ∧ (1 ≤ c.idle ∧ c.idle ≤ 1000000) ∧ (addsM [] v.L).isSome = true := by
  obtain ⟨_, _, _, h4, _, h6, h7, _⟩ := part_all hok
  have hp : poolB v = true := List.all_eq_true.1 h4 v (List.mem_of_getElem? hv)
  unfold poolB at hp
  unfold tabB riseB flowsB at h6
  simp only [Bool.and_eq_true, rngB_iff] at hp h6
  obtain ⟨a1, a2, a3⟩ := adds_all hp.2
  exact ⟨⟨h7, Int.le_refl 0, (by decide : (0 : Int) ≤ 1000000), a2, h6.1.1, h6.1.2, fun i _ => ⟨Int.le_refl 0, (by decide : (0 : Int) ≤ 1000)⟩⟩, hp.1.1, h6.2.2.1, h6.2.2.2, hp.2⟩
section
variable {w w' : World} {g d p pb f m : Nat} {XF Y X : Nat → Prop} {kb : Int → Nat} {s : VpS}
theorem VipR.new (hq : Blk w g 62 (vpC (vpV s d p f m))) (hd : Blk w d 223 (dm.dampCs s.dF s.dS s.dR s.dC s.dH s.pe s.hd)) (hp : PoolIn w p pb s.pc s.M) (hf : TabF w XF f s.ro s.idl s.now s.n s.E) (hm : Ent Tryz.prog 3 w m []) (hpb : pb ≠ m)
    (hsep : ∀ k, XF k → k ≠ g ∧ k ≠ d ∧ k ≠ p ∧ k ≠ pb ∧ k ≠ m) (hM : s.M = []) : VipR w g d p pb f m XF kb s := by
  have e : ∀ i, i ∉ idsM s.M := fun i hi => by rw [hM] at hi; cases hi
  exact ⟨hq, hd, hp, hf, ⟨[], hm, by rw [hM]; exact List.Perm.refl _⟩, fun i hi => absurd hi (e i), fun i hi => absurd hi (e i), hpb, fun k hk => let ⟨a, b, c, d, e'⟩ := hsep k hk; ⟨a, b, c, d, e', fun i hi => absurd hi (e i)⟩⟩
theorem VipR.add {kn : Nat} (h : VipR w g d p pb f m XF kb s) (hc : Chg w w' (fun k => k = pb ∨ k = m)) (x : Mem) (hx : x.id ∉ idsM s.M) (hp : PoolIn w' p pb s.pc (s.M ++ [x])) (hm : ∃ A, Ent Tryz.prog 3 w' m A ∧ A.Perm ((idsM s.M).map (cntE kb) ++ [(.int .i64 x.id, .pointer (some ⟨kn, 0, none⟩))]))
    (hk : Blk w' kn 212 (rs.riseCs s.ri s.fa (s.K x.id).1 (s.K x.id).2)) (hkn : w.heap.size ≤ kn) : VipR w' g d p pb f m XF (fun j => if j = x.id then kn else kb j) { s with M := s.M ++ [x] } := by
  obtain ⟨A, hA, hP⟩ := hm
  obtain ⟨n1, n2, n3, n4, n5, n6, n7, n8, n9, n10⟩ := h.ne
  obtain ⟨l1, l2, l3, l4, l5, l6, l7⟩ := h.lt
  have hids : idsM (s.M ++ [x]) = idsM s.M ++ [x.id] := by simp [idsM]
  have hold : ∀ i ∈ idsM s.M, (if i = x.id then kn else kb i) = kb i := fun i hi => if_neg fun (e : i = x.id) => hx (e ▸ hi)
  refine ⟨hc.blk h.blk (fun q => q.elim n3 n4), hc.blk h.dmp (fun q => q.elim n6 n7), hp, h.flw.chg hc fun k hk q => q.elim (h.sep k hk).2.2.2.1 (h.sep k hk).2.2.2.2.1, ⟨A, hA, ?_⟩, ?_, ?_, h.pbm, ?_⟩ <;> (show _; try simp only [hids])
  · rw [List.map_append]
    refine hP.trans ?_
    have e1 : (idsM s.M).map (cntE kb) = (idsM s.M).map (cntE fun j => if j = x.id then kn else kb j) := List.map_congr_left fun i hi => by
      show (_, Value.pointer (some ⟨kb i, 0, none⟩)) = (_, Value.pointer (some ⟨if i = x.id then kn else kb i, 0, none⟩))
      rw [hold i hi]
    rw [e1]
    simp [cntE]
  · intro i hi
    rcases List.mem_append.1 hi with q | q
    · simp only [hold i q]
      exact hc.blk (h.cnt i q) fun y => y.elim (n10 i q).2.2.2.1 (n10 i q).2.2.2.2
    · rw [List.mem_singleton.1 q]
      simp only [if_true]
      exact hk
  · intro i hi j hj e
    rcases List.mem_append.1 hi with q | q <;> rcases List.mem_append.1 hj with r | r
    · simp only [hold i q, hold j r] at e
      exact h.inj i q j r e
    · rw [List.mem_singleton.1 r] at e ⊢
      simp only [hold i q, if_true] at e
      have := l7 i q
      omega
    · rw [List.mem_singleton.1 q] at e ⊢
      simp only [hold j r, if_true] at e
      have := l7 j r
      omega
    · rw [List.mem_singleton.1 q, List.mem_singleton.1 r]
  · intro k hk
    obtain ⟨a1, a2, a3, a4, a5, a6⟩ := h.sep k hk
    refine ⟨a1, a2, a3, a4, a5, fun i hi => ?_⟩
    rcases List.mem_append.1 hi with q | q
    · simp only [hold i q]
      exact a6 i q
    · rw [List.mem_singleton.1 q]
      simp only [if_true]
      have := l6 k hk
      omega
end
end Go.Proofs.YtgdeecmhhbdjgaaGreat
