import Derived.Test.YtgdeecmhhbdjgaaGreatMVipActs40
import Derived.Test.YtgdeecmhhbdjgaaGreatMVipActs41
/- vip: VipActs: the law is true of every input. -/
namespace Go.Proofs.YtgdeecmhhbdjgaaGreat
set_option linter.unusedVariables false
open Go Go.RowKit Go.Maps

theorem Like.good {s : VpS} {r : RvS} (h : Like s r) (hG : GoodV s) : GoodR r := by
  refine ⟨?_, ?_, ?_, rel_ok h.rel, by rw [h.C, List.length_map], fun x hx => ?_⟩
  · rw [← h.dF, ← h.dS, ← h.dR, ← h.dC, ← h.dH]; exact hG.dg
  · rw [← h.pe]; exact hG.pe0
  · rw [← h.pe]; exact hG.pe1
  · rw [h.C] at hx
    obtain ⟨m, hm, rfl⟩ := List.mem_map.1 hx
    exact hG.run m.id (List.mem_map.2 ⟨m, h.rel.1.mem_iff.1 hm, rfl⟩)
theorem like_new {c : CfgV} {v : VipV} {L : List Mem} (hR : Rel (mkM v.L) L) (hn : v.L.length = v.n) (N : Nat) : Like (newS c v (mkM v.L)) (newR c v N L v.n) := by
  refine ⟨rfl, rfl, rfl, rfl, rfl, rfl, rfl, rfl, rfl, rfl, rfl, hR, rfl, rfl, rfl, rfl, ?_⟩
  have hrep : ∀ (L : List Mem) (x : CtV), L.map (fun _ => x) = List.replicate L.length x := fun L x => by
    induction L with
    | nil => rfl
    | cons a L ih => rw [List.map_cons, ih, List.length_cons, List.replicate_succ]
  have hl : L.length = v.n := by rw [hR.1.length_eq, ← hn]; exact List.length_map _
  have e := hrep L ⟨c.rise, c.fall, false, 0⟩
  rw [hl] at e
  exact e.symm
theorem RvR.grow {w w' : World} {Y Y' Z D : Nat → Prop} {g p f c : Nat} {A : Option Addr} {s : RvS} (h : RvR w Y D g p f A c s) (hc : Chg w w' Z) (hZ : ∀ k, Z k → Y k ∧ ¬ D k) (h1 : ∀ k, Y k → Y' k) (h2 : ∀ k, Y' k → Y k ∨ w.heap.size ≤ k) (h3 : ∀ k, Y' k → k < w'.heap.size) : RvR w' Y' D g p f A c s := by
  have h9 := h.keep hc hZ
  have key : ∀ b, (¬ Y b ∧ b < w.heap.size) → ¬ Y' b := fun b q z => (h2 b z).elim q.1 fun r => by omega
  refine ⟨h9.blk, ?_, ?_, h9.row, h.own, fun k q => h1 k (h.dY k q), h.ne, h3⟩
  · obtain ⟨A, n, c, k1, k2, q1, q2⟩ := h.pol
    exact ⟨A, n, c, k1, k2, hc.blk q1 (fun z => (hZ _ z).2 h.own.2.1), (hc.seen q2 fun b q => ⟨q.2, fun z => q.1 (hZ b z).1⟩).more fun b q => ⟨key b q, Nat.lt_of_lt_of_le q.2 hc.size⟩⟩
  · obtain ⟨A, n, c, ca, we, k1, k2, k3, k4, q1, q2⟩ := h.flw
    exact ⟨A, n, c, ca, we, k1, k2, k3, k4, hc.blk q1 (fun z => (hZ _ z).2 h.own.2.2.1), (hc.seen q2 fun b q => ⟨q.2, fun z => q.1 (hZ b z).1⟩).more fun b q => ⟨key b q, Nat.lt_of_lt_of_le q.2 hc.size⟩⟩
theorem lookS_n (s : VpS) (b : Bool) : (lookS s b).n = s.n := by unfold lookS; split <;> rfl
theorem resS_n (s : VpS) (i : Int) (ok : Bool) : (resS s i ok).2.n = s.n := by
  unfold resS
  split
  · split <;> rfl
  · rfl
theorem lookR_N (s : RvS) (b : Bool) : (lookR s b).N = s.N := by unfold lookR; split <;> rfl
theorem resR_N (s : RvS) (i : Int) (ok : Bool) : (resR s i ok).2.N = s.N := by
  unfold resR
  split
  · rfl
  · split <;> rfl
theorem actS_n (s : VpS) (a : ActW) : (actS s a).n = s.n := by
  unfold actS
  split
  · exact resS_n _ _ _
  · split
    · exact resS_n _ _ _
    · split
      · exact lookS_n _ _
      · split
        · exact lookS_n _ _
        · split
          · rfl
          · split
            · rfl
            · split <;> rfl
theorem actRv_N (s : RvS) (a : ActW) : (actRv s a).N = s.N := by
  unfold actRv
  split
  · exact resR_N _ _ _
  · split
    · exact resR_N _ _ _
    · split
      · exact lookR_N _ _
      · split
        · exact lookR_N _ _
        · split
          · rfl
          · split
            · rfl
            · split <;> rfl
theorem flows_nd {w : World} {X : Nat → Prop} {g : Nat} {ro idl now : Int} {n : Nat} {E : List EnV} (h : TabF w X g ro idl now n E) : (E.map EnV.fl).Nodup := by
  obtain ⟨m, e, ca, we, l, dt, bk, nx, h1, h2, _⟩ := h
  rw [← h2, List.map_map]
  exact h1.flows
def floN (z : Int) : Flo := ⟨0, 0, 0, z, 0⟩
theorem floN_ok {z : Int} (h : (Lit.int .i64 z).wf = true) : FloOk (floN z) := ⟨(show (Lit.int .i64 0).wf = true by decide), (show (Lit.int .u32 0).wf = true by decide), (show (Lit.int .u32 0).wf = true by decide), h, (show (Lit.int .i64 0).wf = true by decide)⟩
def putS (s : VpS) (f : Flo) (b : Int) : VpS := { s with n := s.n + 1, E := (putN s.ro s.E f b 0).2.2, now := 0 }
def putRv (r : RvS) (f : Flo) (b : Int) : RvS := { r with N := r.N + 1, E := putE r.ro r.E f b 0, now := 0 }
theorem like_put {s : VpS} {r : RvS} (h : Like s r) (hn : (s.E.map EnV.fl).Nodup) (hro : 1 ≤ s.ro) (f : Flo) (b : Int) : Like (putS s f b) (putRv r f b) := by
  have hp := put_eq (f := f) (b := b) (t := 0) hn hro
  obtain ⟨h1, h2, h3, h4, h5, h6, h7, h8, h9, h10, h11, h12, h13, h14, h15, h16, h17⟩ := h
  refine ⟨h1, h2, h3, h4, h5, h6, h7, h8, h9, h10, h11, h12, h13, rfl, rfl, ?_, h17⟩
  show (putN s.ro s.E f b 0).2.2 = putE r.ro r.E f b 0
  rw [hp, h13, h16]
theorem putS_good {s : VpS} (h : GoodV s) (f : Flo) (b : Int) : GoodV (putS s f b) := ⟨h.dg, h.pe0, h.pe1, h.mem, h.ri, h.fa, h.run⟩
set_option maxRecDepth 100000 in
set_option maxHeartbeats 16000000 in
theorem acts33_core (w : World) (c : CfgV) (i : Int) (A : Option Addr) (n cp : Nat) (ls : List ActW) (h : CfgIn w c) (hi0 : -9223372036854775808 ≤ i) (hi1 : i ≤ 9223372036854775807) (hS : Seen actWK w (fun b => b < w.heap.size) A n ls) :
    Calls Tryz.prog 5 #[.agg (cfgC c), .int .i64 i, .slice A n cp] w fun e w' => e = .returned (.bool true) ∧ Below w.heap.size w w' := by
  have hB := (Below.refl w.heap.size w).alloc (Nat.le_refl _) (.cells (cfgC c) 29)
  have hq := Blk.new w 29 (cfgC c)
  have hC := h.nx hB
  have hiC : (Tryz.prog.info? 29).map (·.size) = some (cfgC c).size := by kernel_rfl
  go_enter Tryz.func5, Tryz.ntmps5
  go_upto_region 1 with (fail)
  generalize w.alloc (.cells (cfgC c) 29) = w1 at *
  have hsm := small33_any w1 c hC
  cases esm : smallB c
  · rw [esm] at hsm
    go_wp2_with (first
      | (refine wpList_load_blk rfl hq 29 (.tmp 3) rfl rfl Tryz.underlying29 rfl hiC ?_)
      | (go_at_call 35; refine hsm.mono ?_; rintro e w2 ⟨rfl, hb⟩)
      | (go_at_call 34; refine (lives33_any w2).mono ?_; rintro e w9 ⟨rfl, hb9⟩))
    go_ret
    exact ⟨rfl, (hB.trans (hb.mono hB.size)).trans (hb9.mono (Nat.le_trans hB.size hb.size))⟩
  rw [esm] at hsm
  have hs := small_sm esm
  clear esm
  by_cases x1 : 150 < n
  · have d1 : decide ((150 : Int) < n) = true := by simp; omega
    go_wp2_with (first
      | (refine wpList_load_blk rfl hq 29 (.tmp 3) rfl rfl Tryz.underlying29 rfl hiC ?_)
      | (go_at_call 35; refine hsm.mono ?_; rintro e w2 ⟨rfl, hb⟩)
      | (go_at_call 34; refine (lives33_any w2).mono ?_; rintro e w9 ⟨rfl, hb9⟩))
    go_ret
    exact ⟨rfl, (hB.trans (hb.mono hB.size)).trans (hb9.mono (Nat.le_trans hB.size hb.size))⟩
  have d1 : decide ((150 : Int) < n) = false := by simp; omega
  have hn : n ≤ 150 := by omega
  clear x1
  go_upto_region 3 with (first
    | (refine wpList_load_blk rfl hq 29 (.tmp 3) rfl rfl Tryz.underlying29 rfl hiC ?_)
    | (go_at_call 35; refine hsm.mono ?_; rintro e w2 ⟨rfl, hb⟩))
  clear d1 hsm
  replace hB := hB.trans (hb.mono hB.size)
  replace hC := hC.nx hb
  replace hq := hq.below hb hq.lt
  clear hb
  by_cases hno : partC c ≠ 0 ∨ i < 0 ∨ (c.vn : Int) ≤ i
  · skip
    try refine wp_region_noPanic ?_
    have hs1r : Below w2.heap.size w2 w2.drew := (Below.refl _ _).drew
    refine wp_region_held_drew (S := fun w' => Below w2.heap.size w2 w') (by kernel_rfl) hs1r (fun _ => ?_)
    (refine held_takeA 0 (by rfl) ?_ (by kernel_rfl) (fun _ _ _ h => h) hs1r ?_ ?_; rotate_left; (focus (intro wq hSw; refine exec_load_blk (x := .tmp 3) ?_ ?_ (Blk.below hq hSw hq.lt) _ Tryz.underlying29 rfl (by kernel_rfl) <;> rfl)); simp only [Act.put, zA, zB, zC])
    (refine held_takeA 1 (by rfl) ?_ (by kernel_rfl) (fun _ _ _ h => h) hs1r ?_ ?_; rotate_left; (focus (intro wq hSw; have hrd := zR hSw; go_simp; try with_reducible rfl; done)); try simp only [Act.put, zA, zB, zC])
    (refine held_takeA 3 (by rfl) ?_ (by kernel_rfl) (fun _ _ _ h => h) hs1r ?_ ?_; rotate_left; (focus (intro wq hSw; refine exec_load_blk (x := .tmp 3) ?_ ?_ (Blk.below hq hSw hq.lt) _ Tryz.underlying29 rfl (by kernel_rfl) <;> rfl)); simp only [Act.put, zA, zB, zC])
    (refine held_takeA 5 (by rfl) ?_ (by kernel_rfl) (fun _ _ _ h => h) hs1r ?_ ?_; rotate_left; (focus (intro wq hSw; have hrd := zR hSw; go_simp; try with_reducible rfl; done)); try simp only [Act.put, zA, zB, zC])
    refine held_callA 2 (by rfl) (by kernel_rfl) (by rfl) (fun KQ hKQ => ?_)
    go_simp
    refine (vpNew_no w2.drew c (hC.nx (Below.refl _ _).drew) hs i hno).mono ?_
    rintro e w3 ⟨rfl, hb3⟩
    refine hKQ.out _ _ (hs1r.trans hb3) (held_mono (S' := fun w' => Below w3.heap.size w3 w') (fun w' h => (hs1r.trans hb3).trans (h.mono (hs1r.trans hb3).size)) _ _ _ _ ?_)
    clear hKQ KQ
    have hs2r : Below w3.heap.size w3 w3 := Below.refl _ _
    try simp only [Act.put, zA, zB, zC]
    replace hb3 : Below w2.heap.size w2 w3 := (Below.refl _ _).drew.trans hb3
    refine held_callA 4 (by rfl) (by kernel_rfl) (by rfl) (fun KQ hKQ => ?_)
    go_simp
    refine (plain33_any w3 c (hC.nx hb3) hs).mono ?_
    rintro e w6 ⟨c', rfl, hAg, hC6, hb6⟩
    obtain ⟨gP, gV, gS, gN⟩ := again9 hAg
    refine hKQ.out _ _ (hs2r.trans hb6) (held_mono (S' := fun w' => Below w6.heap.size w6 w') (fun w' h => (hs2r.trans hb6).trans (h.mono (hs2r.trans hb6).size)) _ _ _ _ ?_)
    clear hKQ KQ
    have hs3r : Below w6.heap.size w6 w6 := Below.refl _ _
    try simp only [Act.put, zA, zB, zC]
    refine held_callA 6 (by rfl) (by kernel_rfl) (by rfl) (fun KQ hKQ => ?_)
    go_simp
    refine (rvNew_no w6 c' hC6 (gS hs) i (by rw [gP]; exact hno.imp id fun q => q.imp id fun q => by have e1 := hC6.vips.1; have e2 := h.vips.1; rw [gV] at e1; omega)).mono ?_
    rintro e w7 ⟨rfl, hb7⟩
    refine hKQ.out _ _ (hs3r.trans hb7) (held_mono (S' := fun w' => Below w7.heap.size w7 w') (fun w' h => (hs3r.trans hb7).trans (h.mono (hs3r.trans hb7).size)) _ _ _ _ ?_)
    clear hKQ KQ
    have hs4r : Below w7.heap.size w7 w7 := Below.refl _ _
    try simp only [Act.put, zA, zB, zC]
    (refine held_takeA 7 (by rfl) ?_ (by kernel_rfl) (fun _ _ _ h => h) hs4r ?_ ?_; rotate_left; (focus (intro wq hSw; have hrd := zR hSw; go_simp; try with_reducible rfl; done)); try simp only [Act.put, zA, zB, zC])
    (refine held_takeA 8 (by rfl) ?_ (by kernel_rfl) (fun _ _ _ h => h) hs4r ?_ ?_; rotate_left; (focus (intro wq hSw; have hrd := zR hSw; go_simp; try with_reducible rfl; done)); try simp only [Act.put, zA, zB, zC])
    refine wpAnyH_done (by kernel_rfl) ?_ _
    try refine NoPanic.normal ?_
    have hB3 := hB.trans (hb3.mono hB.size)
    have hB6 := hB3.trans (hb6.mono hB3.size)
    have hB7 := hB6.trans (hb7.mono hB6.size)
    go_wp2_with (go_at_call 34; refine (lives33_any w7).mono ?_; rintro e w9 ⟨rfl, hb9⟩)
    go_ret
    exact ⟨rfl, hB7.trans (hb9.mono hB7.size)⟩
  have hok : partC c = 0 := Classical.byContradiction fun q => hno (.inl q)
  have hi : 0 ≤ i ∧ i < (c.vn : Int) := ⟨by by_cases q : i < 0; exact absurd (.inr (.inl q)) hno; omega, by by_cases q : (c.vn : Int) ≤ i; exact absurd (.inr (.inr q)) hno; omega⟩
  clear hno
  obtain ⟨k, rfl⟩ : ∃ k : Nat, i = (k : Int) := ⟨i.toNat, by omega⟩
  obtain ⟨v, hv⟩ : ∃ v, c.V[k]? = some v := ⟨_, List.getElem?_eq_getElem (by have := h.vips.1; omega)⟩
  have hvl : v.L.length = v.n := ((h.vips.2.1 v (List.mem_of_getElem? hv)).2.2.2.2).1
  have hG0 := (new_inv hok hv).good
  try refine wp_region_noPanic ?_
  have hs5r : Below w2.heap.size w2 w2.drew := (Below.refl _ _).drew
  refine wp_region_held_drew (S := fun w' => Below w2.heap.size w2 w') (by kernel_rfl) hs5r (fun _ => ?_)
  (refine held_takeA 0 (by rfl) ?_ (by kernel_rfl) (fun _ _ _ h => h) hs5r ?_ ?_; rotate_left; (focus (intro wq hSw; refine exec_load_blk (x := .tmp 3) ?_ ?_ (Blk.below hq hSw hq.lt) _ Tryz.underlying29 rfl (by kernel_rfl) <;> rfl)); simp only [Act.put, zA, zB, zC])
  (refine held_takeA 1 (by rfl) ?_ (by kernel_rfl) (fun _ _ _ h => h) hs5r ?_ ?_; rotate_left; (focus (intro wq hSw; have hrd := zR hSw; go_simp; try with_reducible rfl; done)); try simp only [Act.put, zA, zB, zC])
  (refine held_takeA 3 (by rfl) ?_ (by kernel_rfl) (fun _ _ _ h => h) hs5r ?_ ?_; rotate_left; (focus (intro wq hSw; refine exec_load_blk (x := .tmp 3) ?_ ?_ (Blk.below hq hSw hq.lt) _ Tryz.underlying29 rfl (by kernel_rfl) <;> rfl)); simp only [Act.put, zA, zB, zC])
  (refine held_takeA 5 (by rfl) ?_ (by kernel_rfl) (fun _ _ _ h => h) hs5r ?_ ?_; rotate_left; (focus (intro wq hSw; have hrd := zR hSw; go_simp; try with_reducible rfl; done)); try simp only [Act.put, zA, zB, zC])
  refine held_callA 2 (by rfl) (by kernel_rfl) (by rfl) (fun KQ hKQ => ?_)
  go_simp
  refine (vpNew_yes w2.drew c (hC.nx (Below.refl _ _).drew) hs hok k v hv).mono ?_
  rintro e w3 ⟨g, X, rfl, hT, hX2, hb3⟩
  refine hKQ.out _ _ (hs5r.trans hb3) (held_mono (S' := fun w' => Below w3.heap.size w3 w') (fun w' h => (hs5r.trans hb3).trans (h.mono (hs5r.trans hb3).size)) _ _ _ _ ?_)
  clear hKQ KQ
  have hs6r : Below w3.heap.size w3 w3 := Below.refl _ _
  try simp only [Act.put, zA, zB, zC]
  replace hb3 : Below w2.heap.size w2 w3 := (Below.refl _ _).drew.trans hb3
  refine held_callA 4 (by rfl) (by kernel_rfl) (by rfl) (fun KQ hKQ => ?_)
  go_simp
  refine (plain33_any w3 c (hC.nx hb3) hs).mono ?_
  rintro e w6 ⟨c', rfl, hAg, hC6, hb6⟩
  obtain ⟨gP, gV, gS, gN⟩ := again9 hAg
  refine hKQ.out _ _ (hs6r.trans hb6) (held_mono (S' := fun w' => Below w6.heap.size w6 w') (fun w' h => (hs6r.trans hb6).trans (h.mono (hs6r.trans hb6).size)) _ _ _ _ ?_)
  clear hKQ KQ
  have hs7r : Below w6.heap.size w6 w6 := Below.refl _ _
  try simp only [Act.put, zA, zB, zC]
  have hT6 := hT.nx hb6
  refine held_callA 6 (by rfl) (by kernel_rfl) (by rfl) (fun KQ hKQ => ?_)
  go_simp
  refine (rvNew_yes w6 c' hC6 (gS hs) (gP.trans hok) k v (by rw [gV]; exact hv) 0 X hT6.lt).mono ?_
  rintro e w7 ⟨gr, D, L, rfl, hM, hRel, hD, hb7⟩
  rw [gN] at hM
  refine hKQ.out _ _ (hs7r.trans hb7) (held_mono (S' := fun w' => Below w7.heap.size w7 w') (fun w' h => (hs7r.trans hb7).trans (h.mono (hs7r.trans hb7).size)) _ _ _ _ ?_)
  clear hKQ KQ
  have hs8r : Below w7.heap.size w7 w7 := Below.refl _ _
  try simp only [Act.put, zA, zB, zC]
  (refine held_takeA 7 (by rfl) ?_ (by kernel_rfl) (fun _ _ _ h => h) hs8r ?_ ?_; rotate_left; (focus (intro wq hSw; have hrd := zR hSw; go_simp; try with_reducible rfl; done)); try simp only [Act.put, zA, zB, zC])
  (refine held_takeA 8 (by rfl) ?_ (by kernel_rfl) (fun _ _ _ h => h) hs8r ?_ ?_; rotate_left; (focus (intro wq hSw; have hrd := zR hSw; go_simp; try with_reducible rfl; done)); try simp only [Act.put, zA, zB, zC])
  refine wpAnyH_done (by kernel_rfl) ?_ _
  try refine NoPanic.normal ?_
  have hT7 := hT6.nx hb7
  have hB3 := hB.trans (hb3.mono hB.size)
  have hB6 := hB3.trans (hb6.mono hB3.size)
  have hB7 := hB6.trans (hb7.mono hB6.size)
  have hL0 := like_new (c := c) hRel hvl 0
  have hD9 : ∀ k, D k → ¬ X k := fun k q y => by have := hD k q; have := hT6.lt k y; omega
  have hX9 : ∀ k, X k → w.heap.size ≤ k := fun k q => by have := hX2 k q; have := hB.size; have : w2.drew.heap.size = w2.heap.size := rfl; omega
  have hDw : ∀ k, D k → w.heap.size ≤ k := fun k q => by have := hD k q; have := hB6.size; omega
  clear hT hT6 hB hB3 hB6 hq hC hC6 hX2 hD hb3 hb6 hb7 hAg gP gV gS gN
  go_upto_region 9 with (fail)
  have h0n : (newS c v (mkM v.L)).n = 0 ∧ (newR c v 0 L v.n).N = 0 := ⟨rfl, rfl⟩
  generalize newS c v (mkM v.L) = s0 at *
  generalize newR c v 0 L v.n = r0 at *
  clear hRel hvl hv hok hs hi
  go_loopw [39] (fun i wr => ∃ (j : Nat) (s : VpS) (r : RvS) (X D : Nat → Prop), j ≤ n ∧ i = .int .i64 (j : Int) ∧ VipT wr X g s ∧ RvT wr (fun k => D k ∨ X k) D gr r ∧ Like s r ∧ GoodV s ∧ s.n = j ∧ r.N = j ∧ (∀ k, D k → ¬ X k) ∧ (∀ k, X k → w.heap.size ≤ k) ∧ (∀ k, D k → w.heap.size ≤ k) ∧ Below w.heap.size w wr) (fun i _ => n - (intOf i).toNat)
  case atStart => exact ⟨0, s0, r0, X, D, Nat.zero_le _, rfl, hT7, hM, hL0, hG0, h0n.1, h0n.2, hD9, hX9, hDw, hB7⟩
  case round =>
  clear hT7 hM hL0 hG0 h0n hD9 hX9 hDw hB7
  obtain ⟨j, s, r, X, D, hj, rfl, hT, hM, hL, hG, hsn, hrn, hD9, hX9, hDw, hB⟩ := hrel
  by_cases hlt : j < n
  · have hji : (j : Int) < n := by omega
    have hj0 : (0 : Int) ≤ j := by omega
    obtain ⟨bb, off, a, eA, hbb, ha, haok, q0, q1, q2, q3, q4⟩ := actW_cells (seen_nx hS hB) hlt
    subst eA
    have hbx := (Below.refl wr.heap.size wr).alloc (Nat.le_refl _) (.cells #[.int .i64 a.k, .int .i64 a.id, .int .i64 a.n, .bool a.on, .bool a.sm] 52)
    have h11 := Blk.new wr 52 #[.int .i64 a.k, .int .i64 a.id, .int .i64 a.n, .bool a.on, .bool a.sm]
    obtain ⟨pr, fr, A', c', hMr⟩ := hM
    have hXl := hT.lt
    have hDl := hMr.lim
    have n11 : ¬ X wr.heap.size := fun q => by have := hXl _ q; omega
    have m11 : ¬ D wr.heap.size := fun q => by have := hDl _ (.inl q); omega
    go_upto_region 11 with (fail)
    clear q0 q1 q2 q3 q4
    replace hT := hT.nx hbx
    replace hMr := hMr.nx hbx
    replace hB := hB.trans (hbx.mono hB.size)
    generalize wr.alloc (.cells #[.int .i64 a.k, .int .i64 a.id, .int .i64 a.n, .bool a.on, .bool a.sm] 52) = w5 at *
    generalize wr.heap.size = a10 at *
    clear hXl hDl hbb ha hbx
    obtain ⟨d, p, pb, f, m, XF, kb, hR, hXf, hXl⟩ := hT
    have x1 : w5.cell? ⟨a10, 1, none⟩ = some (.int .i64 a.id) := h11.cellv 1 rfl
    have x2 : w5.cell? ⟨a10, 2, none⟩ = some (.int .i64 a.n) := h11.cellv 2 rfl
    have lta := h11.lt
    have hXFX : ∀ k, XF k → X k := fun k q => hXf k (.inr (.inr (.inr (.inr (.inr (.inl q))))))
    try refine wp_region_noPanic ?_
    have hs9r : (fun w' => Chg w5 w' X) w5.drew := Chg.of_below (Below.refl _ _).drew
    refine wp_region_held_drew (S := fun w' => Chg w5 w' X) (by kernel_rfl) hs9r (fun _ => ?_)
    (refine held_takeA 0 (by rfl) ?_ (by kernel_rfl) (fun _ _ _ h => h) hs9r ?_ ?_; rotate_left; (focus (intro wq hSw; have hrd := hSw; have y1 : wq.cell? ⟨a10, 1, none⟩ = some (.int .i64 a.id) := (Chg.cell hSw (p := ⟨a10, 1, none⟩) lta n11).trans x1; have y2 : wq.cell? ⟨a10, 2, none⟩ = some (.int .i64 a.n) := (Chg.cell hSw (p := ⟨a10, 2, none⟩) lta n11).trans x2; go_simp; try with_reducible rfl; done)); try simp only [Act.put, zA, zB, zC])
    (refine held_takeA 2 (by rfl) ?_ (by kernel_rfl) (fun _ _ _ h => h) hs9r ?_ ?_; rotate_left; (focus (intro wq hSw; have hrd := hSw; have y1 : wq.cell? ⟨a10, 1, none⟩ = some (.int .i64 a.id) := (Chg.cell hSw (p := ⟨a10, 1, none⟩) lta n11).trans x1; have y2 : wq.cell? ⟨a10, 2, none⟩ = some (.int .i64 a.n) := (Chg.cell hSw (p := ⟨a10, 2, none⟩) lta n11).trans x2; go_simp; try with_reducible rfl; done)); try simp only [Act.put, zA, zB, zC])
    (refine held_takeA 3 (by rfl) ?_ (by kernel_rfl) (fun _ _ _ h => h) hs9r ?_ ?_; rotate_left; (focus (intro wq hSw; have hrd := hSw; have y1 : wq.cell? ⟨a10, 1, none⟩ = some (.int .i64 a.id) := (Chg.cell hSw (p := ⟨a10, 1, none⟩) lta n11).trans x1; have y2 : wq.cell? ⟨a10, 2, none⟩ = some (.int .i64 a.n) := (Chg.cell hSw (p := ⟨a10, 2, none⟩) lta n11).trans x2; go_simp; try with_reducible rfl; done)); try simp only [Act.put, zA, zB, zC])
    (refine held_takeA 4 (by rfl) ?_ (by kernel_rfl) (fun _ _ _ h => h) hs9r ?_ ?_; rotate_left; (focus (intro wq hSw; have hrd := hSw; have y1 : wq.cell? ⟨a10, 1, none⟩ = some (.int .i64 a.id) := (Chg.cell hSw (p := ⟨a10, 1, none⟩) lta n11).trans x1; have y2 : wq.cell? ⟨a10, 2, none⟩ = some (.int .i64 a.n) := (Chg.cell hSw (p := ⟨a10, 2, none⟩) lta n11).trans x2; go_simp; try with_reducible rfl; done)); try simp only [Act.put, zA, zB, zC])
    (refine held_takeA 5 (by rfl) ?_ (by kernel_rfl) (fun _ _ _ h => h) hs9r ?_ ?_; rotate_left; (focus (intro wq hSw; have hrd := hSw; have y1 : wq.cell? ⟨a10, 1, none⟩ = some (.int .i64 a.id) := (Chg.cell hSw (p := ⟨a10, 1, none⟩) lta n11).trans x1; have y2 : wq.cell? ⟨a10, 2, none⟩ = some (.int .i64 a.n) := (Chg.cell hSw (p := ⟨a10, 2, none⟩) lta n11).trans x2; go_simp; try with_reducible rfl; done)); try simp only [Act.put, zA, zB, zC])
    (refine held_takeA 6 (by rfl) ?_ (by kernel_rfl) (fun _ _ _ h => h) hs9r ?_ ?_; rotate_left; (focus (intro wq hSw; have hrd := hSw; have y1 : wq.cell? ⟨a10, 1, none⟩ = some (.int .i64 a.id) := (Chg.cell hSw (p := ⟨a10, 1, none⟩) lta n11).trans x1; have y2 : wq.cell? ⟨a10, 2, none⟩ = some (.int .i64 a.n) := (Chg.cell hSw (p := ⟨a10, 2, none⟩) lta n11).trans x2; go_simp; try with_reducible rfl; done)); try simp only [Act.put, zA, zB, zC])
    refine held_callA 1 (by rfl) (by kernel_rfl) (by rfl) (fun KQ hKQ => ?_)
    go_simp
    refine (vpFlows (hR.nx (Below.refl _ _).drew)).mono ?_
    rintro en w6 ⟨rfl, e6⟩
    have hb6 : Below w5.heap.size w5 w6 := by rw [← e6]; exact (Below.refl _ _).drew
    have hR6 := hR.nx hb6
    clear e6
    have hs10r := (Chg.of_below (X := X) hb6)
    refine hKQ.out _ _ hs10r ?_
    clear hKQ KQ
    try simp only [Act.put, zA, zB, zC]
    refine held_callA 7 (by rfl) (by kernel_rfl) (by rfl) (fun KQ hKQ => ?_)
    go_simp
    refine (putFX hR6.flw (floN a.n) (floN_ok haok.n0) a.id 0 (by omega) (by omega)).mono ?_
    rintro en w8 ⟨rfl, hF8, hC8⟩
    rw [hL.now] at hF8
    rw [show max (0 : Int) 0 = 0 from rfl] at hF8
    have hR8 : VipR w8 g d p pb f m _ kb (putS s (floN a.n) a.id) := hR6.setF hC8 _ _ _ hF8 (fun k q => q.imp id fun q => q.1)
    have hC58 : Chg w5 w8 X := (Chg.of_below (X := X) hb6).trans hC8 fun k _ q => hXFX k q
    have hs11r := hC58
    refine hKQ.out _ _ hs11r ?_
    clear hKQ KQ
    try simp only [Act.put, zA, zB, zC]
    refine wpAnyH_done (by kernel_rfl) ?_ _
    try refine NoPanic.normal ?_
    have hz56 := hb6.size
    have hz68 := hC8.size
    have hlR := hR.lt
    have hgood := hR.flw.good
    have hnd := flows_nd hR.flw
    obtain ⟨X8, hX8⟩ : ∃ X8 : Nat → Prop, X8 = fun k => X k ∨ (w6.heap.size ≤ k ∧ k < w8.heap.size) := ⟨_, rfl⟩
    have hX8i : ∀ k, X k → X8 k := fun k q => by rw [hX8]; exact .inl q
    have hX8o : ∀ k, X8 k → X k ∨ (w6.heap.size ≤ k ∧ k < w8.heap.size) := fun k q => by rw [hX8] at q; exact q
    have hX8l : ∀ k, X8 k → k < w8.heap.size := fun k q => (hX8o k q).elim (fun y => by have := hXl k y; omega) (fun y => y.2)
    have hT8 : VipT w8 X8 g (putS s (floN a.n) a.id) := by
      refine ⟨d, p, pb, f, m, _, kb, hR8, fun k hk => ?_, hX8l⟩
      rw [hX8]
      rcases hk with q | q | q | q | q | (q | q) | q
      · exact .inl (hXf k (.inl q))
      · exact .inl (hXf k (.inr (.inl q)))
      · exact .inl (hXf k (.inr (.inr (.inl q))))
      · exact .inl (hXf k (.inr (.inr (.inr (.inl q)))))
      · exact .inl (hXf k (.inr (.inr (.inr (.inr (.inl q))))))
      · exact .inl (hXFX k q)
      · exact .inr q
      · exact .inl (hXf k (.inr (.inr (.inr (.inr (.inr (.inr q)))))))
    have hDl : ∀ k, D k → k < w5.heap.size := fun k q => hMr.lim k (.inl q)
    have hM8 : RvR w8 (fun k => D k ∨ X8 k) D gr pr fr A' c' r := hMr.grow hC58 (fun k q => ⟨.inr q, fun y => hD9 k y q⟩) (fun k q => q.imp id (hX8i k)) (fun k q => q.elim (fun y => .inl (.inl y)) fun y => (hX8o k y).imp .inr fun z => by omega) (fun k q => q.elim (fun y => by have := hDl k y; omega) (hX8l k))
    have hD8 : ∀ k, D k → ¬ X8 k := fun k q y => (hX8o k y).elim (hD9 k q) fun z => by have := hDl k q; omega
    have hX8w : ∀ k, X8 k → w.heap.size ≤ k := fun k q => (hX8o k q).elim (hX9 k) fun z => by have := hB.size; omega
    have h11' := hC58.blk h11 n11
    have n8 : ¬ X8 a10 := fun q => (hX8o _ q).elim n11 fun z => by omega
    have hB8 := below_chg9 hB hC58 hX9 (Nat.le_refl _)
    have hLp := like_put hL hnd hgood.1.1 (floN a.n) a.id
    have hGp := putS_good hG (floN a.n) a.id
    have hHp := hLp.good hGp
    have hrE : r.E.length ≤ 100000 := by rw [← hL.E]; have := hgood.2.2.2.1; have := hgood.1.2; omega
    have hro : 1 ≤ r.ro := by rw [← hL.ro]; exact hgood.1.1
    have hrn2 := hL.now2
    have hEp : (putRv r (floN a.n) a.id).E.length ≤ 1000000 := by rw [← hLp.E]; have := hR8.flw.good.2.2.2.1; have := hR8.flw.good.1.2; omega
    clear hMr hR hR6 hR8 hF8 hC8 hC58 hb6 x1 x2 hXf hXl hlR h11 hX8 hX8o hX8i hgood hnd hB lta
    have x1 : w8.cell? ⟨a10, 1, none⟩ = some (.int .i64 a.id) := h11'.cellv 1 rfl
    have x2 : w8.cell? ⟨a10, 2, none⟩ = some (.int .i64 a.n) := h11'.cellv 2 rfl
    have lta := h11'.lt
    have lgr := hM8.blk.lt
    have g2 : w8.cell? ⟨gr, 2, none⟩ = some (.pointer (some ⟨fr, 0, none⟩)) := hM8.blk.cellv 2 rfl
    have nfa : a10 ≠ fr := fun e => m11 (e ▸ hM8.own.2.2.1)
    have nfg : gr ≠ fr := hM8.ne.2.1
    have hYn : ∀ b, w8.drew.heap.size ≤ b → ¬ (D b ∨ X8 b) := fun b q y => by have := hM8.lim b y; have : w8.drew.heap.size = w8.heap.size := rfl; omega
    go_upto_region 12 with (fail)
    try refine wp_region_noPanic ?_
    have hs12r : (fun w' => Chg w8 w' (fun k => k = fr)) w8.drew := Chg.of_below (Below.refl _ _).drew
    refine wp_region_held_drew (S := fun w' => Chg w8 w' (fun k => k = fr)) (by kernel_rfl) hs12r (fun _ => ?_)
    (refine held_takeA 0 (by rfl) ?_ (by kernel_rfl) (fun _ _ _ h => h) hs12r ?_ ?_; rotate_left; (focus (intro wq hSw; have hrd := hSw; have y1 : wq.cell? ⟨a10, 1, none⟩ = some (.int .i64 a.id) := (Chg.cell hSw (p := ⟨a10, 1, none⟩) lta nfa).trans x1; have y2 : wq.cell? ⟨a10, 2, none⟩ = some (.int .i64 a.n) := (Chg.cell hSw (p := ⟨a10, 2, none⟩) lta nfa).trans x2; have y3 : wq.cell? ⟨gr, 2, none⟩ = some (.pointer (some ⟨fr, 0, none⟩)) := (Chg.cell hSw (p := ⟨gr, 2, none⟩) lgr nfg).trans g2; go_simp; try with_reducible rfl; done)); try simp only [Act.put, zA, zB, zC])
    (refine held_takeA 1 (by rfl) ?_ (by kernel_rfl) (fun _ _ _ h => h) hs12r ?_ ?_; rotate_left; (focus (intro wq hSw; have hrd := hSw; have y1 : wq.cell? ⟨a10, 1, none⟩ = some (.int .i64 a.id) := (Chg.cell hSw (p := ⟨a10, 1, none⟩) lta nfa).trans x1; have y2 : wq.cell? ⟨a10, 2, none⟩ = some (.int .i64 a.n) := (Chg.cell hSw (p := ⟨a10, 2, none⟩) lta nfa).trans x2; have y3 : wq.cell? ⟨gr, 2, none⟩ = some (.pointer (some ⟨fr, 0, none⟩)) := (Chg.cell hSw (p := ⟨gr, 2, none⟩) lgr nfg).trans g2; go_simp; try with_reducible rfl; done)); try simp only [Act.put, zA, zB, zC])
    (refine held_takeA 2 (by rfl) ?_ (by kernel_rfl) (fun _ _ _ h => h) hs12r ?_ ?_; rotate_left; (focus (intro wq hSw; have hrd := hSw; have y1 : wq.cell? ⟨a10, 1, none⟩ = some (.int .i64 a.id) := (Chg.cell hSw (p := ⟨a10, 1, none⟩) lta nfa).trans x1; have y2 : wq.cell? ⟨a10, 2, none⟩ = some (.int .i64 a.n) := (Chg.cell hSw (p := ⟨a10, 2, none⟩) lta nfa).trans x2; have y3 : wq.cell? ⟨gr, 2, none⟩ = some (.pointer (some ⟨fr, 0, none⟩)) := (Chg.cell hSw (p := ⟨gr, 2, none⟩) lgr nfg).trans g2; go_simp; try with_reducible rfl; done)); try simp only [Act.put, zA, zB, zC])
    (refine held_takeA 3 (by rfl) ?_ (by kernel_rfl) (fun _ _ _ h => h) hs12r ?_ ?_; rotate_left; (focus (intro wq hSw; have hrd := hSw; have y1 : wq.cell? ⟨a10, 1, none⟩ = some (.int .i64 a.id) := (Chg.cell hSw (p := ⟨a10, 1, none⟩) lta nfa).trans x1; have y2 : wq.cell? ⟨a10, 2, none⟩ = some (.int .i64 a.n) := (Chg.cell hSw (p := ⟨a10, 2, none⟩) lta nfa).trans x2; have y3 : wq.cell? ⟨gr, 2, none⟩ = some (.pointer (some ⟨fr, 0, none⟩)) := (Chg.cell hSw (p := ⟨gr, 2, none⟩) lgr nfg).trans g2; go_simp; try with_reducible rfl; done)); try simp only [Act.put, zA, zB, zC])
    (refine held_takeA 4 (by rfl) ?_ (by kernel_rfl) (fun _ _ _ h => h) hs12r ?_ ?_; rotate_left; (focus (intro wq hSw; have hrd := hSw; have y1 : wq.cell? ⟨a10, 1, none⟩ = some (.int .i64 a.id) := (Chg.cell hSw (p := ⟨a10, 1, none⟩) lta nfa).trans x1; have y2 : wq.cell? ⟨a10, 2, none⟩ = some (.int .i64 a.n) := (Chg.cell hSw (p := ⟨a10, 2, none⟩) lta nfa).trans x2; have y3 : wq.cell? ⟨gr, 2, none⟩ = some (.pointer (some ⟨fr, 0, none⟩)) := (Chg.cell hSw (p := ⟨gr, 2, none⟩) lgr nfg).trans g2; go_simp; try with_reducible rfl; done)); try simp only [Act.put, zA, zB, zC])
    (refine held_takeA 5 (by rfl) ?_ (by kernel_rfl) (fun _ _ _ h => h) hs12r ?_ ?_; rotate_left; (focus (intro wq hSw; have hrd := hSw; have y1 : wq.cell? ⟨a10, 1, none⟩ = some (.int .i64 a.id) := (Chg.cell hSw (p := ⟨a10, 1, none⟩) lta nfa).trans x1; have y2 : wq.cell? ⟨a10, 2, none⟩ = some (.int .i64 a.n) := (Chg.cell hSw (p := ⟨a10, 2, none⟩) lta nfa).trans x2; have y3 : wq.cell? ⟨gr, 2, none⟩ = some (.pointer (some ⟨fr, 0, none⟩)) := (Chg.cell hSw (p := ⟨gr, 2, none⟩) lgr nfg).trans g2; go_simp; try with_reducible rfl; done)); try simp only [Act.put, zA, zB, zC])
    (refine held_takeA 6 (by rfl) ?_ (by kernel_rfl) (fun _ _ _ h => h) hs12r ?_ ?_; rotate_left; (focus (intro wq hSw; have hrd := hSw; have y1 : wq.cell? ⟨a10, 1, none⟩ = some (.int .i64 a.id) := (Chg.cell hSw (p := ⟨a10, 1, none⟩) lta nfa).trans x1; have y2 : wq.cell? ⟨a10, 2, none⟩ = some (.int .i64 a.n) := (Chg.cell hSw (p := ⟨a10, 2, none⟩) lta nfa).trans x2; have y3 : wq.cell? ⟨gr, 2, none⟩ = some (.pointer (some ⟨fr, 0, none⟩)) := (Chg.cell hSw (p := ⟨gr, 2, none⟩) lgr nfg).trans g2; go_simp; try with_reducible rfl; done)); try simp only [Act.put, zA, zB, zC])
    (refine held_takeA 7 (by rfl) ?_ (by kernel_rfl) (fun _ _ _ h => h) hs12r ?_ ?_; rotate_left; (focus (intro wq hSw; have hrd := hSw; have y1 : wq.cell? ⟨a10, 1, none⟩ = some (.int .i64 a.id) := (Chg.cell hSw (p := ⟨a10, 1, none⟩) lta nfa).trans x1; have y2 : wq.cell? ⟨a10, 2, none⟩ = some (.int .i64 a.n) := (Chg.cell hSw (p := ⟨a10, 2, none⟩) lta nfa).trans x2; have y3 : wq.cell? ⟨gr, 2, none⟩ = some (.pointer (some ⟨fr, 0, none⟩)) := (Chg.cell hSw (p := ⟨gr, 2, none⟩) lgr nfg).trans g2; go_simp; try with_reducible rfl; done)); try simp only [Act.put, zA, zB, zC])
    (refine held_takeA 8 (by rfl) ?_ (by kernel_rfl) (fun _ _ _ h => h) hs12r ?_ ?_; rotate_left; (focus (intro wq hSw; have hrd := hSw; have y1 : wq.cell? ⟨a10, 1, none⟩ = some (.int .i64 a.id) := (Chg.cell hSw (p := ⟨a10, 1, none⟩) lta nfa).trans x1; have y2 : wq.cell? ⟨a10, 2, none⟩ = some (.int .i64 a.n) := (Chg.cell hSw (p := ⟨a10, 2, none⟩) lta nfa).trans x2; have y3 : wq.cell? ⟨gr, 2, none⟩ = some (.pointer (some ⟨fr, 0, none⟩)) := (Chg.cell hSw (p := ⟨gr, 2, none⟩) lgr nfg).trans g2; go_simp; try with_reducible rfl; done)); try simp only [Act.put, zA, zB, zC])
    refine held_callA 9 (by rfl) (by kernel_rfl) (by rfl) (fun KQ hKQ => ?_)
    go_simp
    refine (rfPut w8.drew _ fr r.ro r.idl r.now r.N r.E (hM8.flw.nx (Below.refl _ _).drew) (floN a.n) a.id 0 (by rw [hrn2]; exact Int.le_refl _) hrE (by omega) hro hYn (fun q => q (hM8.dY _ hM8.own.2.2.1))).mono ?_
    rintro e w12 ⟨⟨yv, mv, rfl⟩, hF12, hC12⟩
    rw [hrn2] at hF12
    have hM12 : RvR w12 (fun k => D k ∨ X8 k) D gr pr fr A' c' (putRv r (floN a.n) a.id) := (hM8.nx (Below.refl _ _).drew).setF hC12 0 _ _ hF12
    have hC812 : Chg w8 w12 (fun k => k = fr) := (Chg.of_below (X := fun k => k = fr) (Below.refl _ _).drew).trans hC12 fun _ _ q => q
    have hs13r := hC812
    refine hKQ.out _ _ hs13r ?_
    clear hKQ KQ
    try simp only [Act.put, zA, zB, zC]
    refine wpAnyH_done (by kernel_rfl) ?_ _
    try refine NoPanic.normal ?_
    have hT12 := hT8.keep hC812 fun k q e => hD8 fr hM8.own.2.2.1 (e ▸ q)
    have h12 := hC812.blk h11' nfa
    have hB12 := below_chg9 hB8 hC812 (fun k e => by have := hDw fr hM8.own.2.2.1; omega) (Nat.le_refl _)
    have hla := like_act hLp a
    have hG12 := actS_good hGp a
    have hact := act33_any w12 X8 (fun k => D k ∨ X8 k) D g gr (putS s (floN a.n) a.id) (putRv r (floN a.n) a.id) a hT12 ⟨pr, fr, A', c', hM12⟩ hGp hHp (fun k q => ⟨.inr q, fun y => hD8 k y q⟩) hEp haok.i0 haok.i1
    rw [hla.1] at hact
    have hL12 := hla.2
    have hn12 : (actS (putS s (floN a.n) a.id) a).n = j + 1 ∧ (actRv (putRv r (floN a.n) a.id) a).N = j + 1 := ⟨by rw [actS_n]; show s.n + 1 = j + 1; omega, by rw [actRv_N]; show r.N + 1 = j + 1; omega⟩
    have hlE12 := hL12.good hG12
    generalize actS (putS s (floN a.n) a.id) a = s12 at *
    generalize actRv (putRv r (floN a.n) a.id) a = r12 at *
    clear hT8 hM8 h11' hF12 hC12 hC812 hB8 hM12 hLp hGp hHp hT12 x1 x2 lta lgr g2
    have z0 : w12.cell? ⟨a10, 0, none⟩ = some (.int .i64 a.k) := h12.cellv 0 rfl
    have z1 : w12.cell? ⟨a10, 1, none⟩ = some (.int .i64 a.id) := h12.cellv 1 rfl
    have z2 : w12.cell? ⟨a10, 2, none⟩ = some (.int .i64 a.n) := h12.cellv 2 rfl
    have z3 : w12.cell? ⟨a10, 3, none⟩ = some (.bool a.on) := h12.cellv 3 rfl
    have z4 : w12.cell? ⟨a10, 4, none⟩ = some (.bool a.sm) := h12.cellv 4 rfl
    have lt12 := h12.lt
    have n13 : ¬ (X8 a10 ∨ D a10) := fun q => q.elim n8 m11
    go_upto_region 14 with (first
      | (go_at_call 41; refine hact.mono ?_; rintro e w13 ⟨rfl, hT13, hM13, hC13⟩; have h13 := hC13.blk h12 n13; have y4 : w13.cell? ⟨a10, 4, none⟩ = some (.bool a.sm) := h13.cellv 4 rfl; have lt13 := h13.lt; obtain ⟨pr2, fr2, A2, c2, hM14⟩ := hM13; obtain ⟨d2, p2, pb2, f2, m2, XF2, kb2, hR14, hf14, hl14⟩ := hT13)
      | (go_at_call 42; refine (alike33 hR14 hM14 hL12 hG12 hlE12 (by rw [← hL12.E]; have := hR14.flw.good.2.2.2.1; have := hR14.flw.good.1.2; omega) a.sm).mono ?_; rintro e w15 ⟨rfl, hb15⟩))
    have hB13 := below_chg9 hB12 hC13 (fun k q => q.elim (hX8w k) (hDw k)) (Nat.le_refl _)
    exact ⟨⟨j + 1, s12, r12, X8, D, by omega, by go_num, (show VipT w13 X8 g s12 from ⟨d2, p2, pb2, f2, m2, XF2, kb2, hR14, hf14, hl14⟩).nx hb15, ⟨pr2, fr2, A2, c2, hM14.nx hb15⟩, hL12, hG12, hn12.1, hn12.2, hD8, hX8w, hDw, hB13.trans (hb15.mono hB13.size)⟩, by simp [intOf]; omega⟩
  · obtain rfl : j = n := by omega
    obtain ⟨d, p, pb, f, m, XF, kb, hR, hXf, hXl⟩ := hT
    obtain ⟨pr, fr, A', c', hMr⟩ := hM
    have hH := hL.good hG
    have hE : r.E.length ≤ 100000 := by rw [← hL.E]; have := hR.flw.good.2.2.2.1; have := hR.flw.good.1.2; omega
    have hir : ∀ i ∈ idsM s.M, -9223372036854775808 ≤ i ∧ i ≤ 9223372036854775807 := fun i hi => by
      obtain ⟨m, hm, rfl⟩ := List.mem_map.1 hi
      have := (hG.mem.2 m hm).1
      omega
    go_upto_region 17 with (first
      | (go_at_call 33; refine (vpCopy hR hG (by omega) hir).mono ?_; rintro en w3 ⟨g2, X2, rfl, hT2, hX2, hb3⟩)
      | (go_at_call 43; refine (rvCopy (hMr.nx hb3) hH hE X2 hT2.lt).mono ?_; rintro en w4 ⟨gr2, D2, rfl, hM2, hD2, hb4⟩))
    have hb34 := hb3.trans (hb4.mono hb3.size)
    obtain ⟨d2, p2, pb2, f2, m2, XF2, kb2, hR2, hf2, hl2⟩ := hT2.nx hb4
    obtain ⟨p4, f4, A4, c4, hM4⟩ := hM2
    have hX2l := hT2.lt
    have hDX : ∀ k, D2 k → ¬ X2 k := fun k q y => by have := hD2 k q; have := hX2l k y; omega
    have hgX2 : X2 g2 := hf2 _ (.inl rfl)
    have hdX2 : X2 d2 := hf2 _ (.inr (.inl rfl))
    have hgD2 : D2 gr2 := hM4.own.1
    have hgr : wr.heap.size ≤ gr2 := by have := hD2 gr2 hgD2; have := hb3.size; omega
    have hLe : Like { s with on := false } { r with on := false } := by
      obtain ⟨h1, h2, h3, h4, h5, h6, h7, h8, h9, h10, h11, h12, h13, h14, h15, h16, h17⟩ := hL
      exact ⟨h1, rfl, h3, h4, h5, h6, h7, h8, h9, h10, h11, h12, h13, h14, h15, h16, h17⟩
    have hGe : GoodV { s with on := false } := ⟨hG.dg, hG.pe0, hG.pe1, hG.mem, hG.ri, hG.fa, hG.run⟩
    have hHe := hLe.good hGe
    have hLl := hLe.look true
    have hGl := hGe.look true
    have hHl := hLl.good hGl
    clear hT2 hb4
    go_upto_region 18 with (go_at_call 25; refine (vpEnable hR2 false).mono ?_; rintro en w5 ⟨rfl, hR5, hC5⟩)
    have hM5 := hM4.keep hC5 fun k e => ⟨.inl (e ▸ hgX2), fun y => hDX k y (e ▸ hgX2)⟩
    have hb5 := below_chg9 hb34 hC5 (fun k e => hX2 k (e ▸ hgX2)) (Nat.le_refl _)
    go_upto_region 19 with (go_at_call 44; refine (rvEnable hM5 false).mono ?_; rintro en w6 ⟨rfl, hM6, hC6⟩)
    have hR6 := hR5.keep hC6 fun k q e => hDX k (e ▸ hgD2) (hf2 k q)
    have hb6 := below_chg9 hb5 hC6 (fun k e => e ▸ hgr) (Nat.le_refl _)
    go_upto_region 20 with (go_at_call 20; refine (vpLook hR6 hGe true).mono ?_; rintro en w7 ⟨rfl, hR7, hC7⟩)
    have hX7 : ∀ k, k = g2 ∨ k = d2 → X2 k := fun k q => q.elim (fun e => e ▸ hgX2) fun e => e ▸ hdX2
    have hM7 := hM6.keep hC7 fun k e => ⟨.inl (hX7 k e), fun y => hDX k y (hX7 k e)⟩
    have hb7 := below_chg9 hb6 hC7 (fun k e => hX2 k (hX7 k e)) (Nat.le_refl _)
    go_upto_region 21 with (go_at_call 45; refine (rvLook hM7 hHe true).mono ?_; rintro en w8 ⟨rfl, hM8, hC8⟩)
    have hid : idsM (lookS { s with on := false } true).M = idsM s.M := congrArg idsM (lookS_M _ _)
    have hR8 := hR7.keep hC8 fun k q e => hDX k (e ▸ hgD2) (hf2 k (by rw [hid] at q; exact q))
    have hb8 := below_chg9 hb7 hC8 (fun k e => e ▸ hgr) (Nat.le_refl _)
    have hRv := hR.nx hb8
    have hMv := hMr.nx hb8
    have hEl : (lookR { r with on := false } true).E.length ≤ 100000 := by
      rw [← hLl.E]
      have := hR8.flw.good.2.2.2.1
      have := hR8.flw.good.1.2
      omega
    clear hR2 hR5 hR6 hR7 hM4 hM5 hM6 hM7 hC5 hC6 hC7 hC8 hb5 hb6 hb7 hb34 hb3
    generalize lookS { s with on := false } true = sx at *
    generalize lookR { r with on := false } true = rx at *
    go_wp2_with (first
      | (go_at_call 42; refine (alike33 (hR8.nx hb10) (hM8.nx hb10) hLl hGl hHl hEl true).mono ?_; rintro e w11 ⟨rfl, hb11⟩)
      | (go_at_call 42; refine (alike33 hRv hMv hL hG hH hE true).mono ?_; rintro e w10 ⟨rfl, hb10⟩)
      | (go_at_call 34; refine (lives33_any w11).mono ?_; rintro e w9 ⟨rfl, hb9⟩))
    go_ret
    have hB8 := hB.trans (hb8.mono hB.size)
    have hB10 := hB8.trans (hb10.mono hB8.size)
    have hB11 := hB10.trans (hb11.mono hB10.size)
    exact ⟨rfl, hB11.trans (hb9.mono hB11.size)⟩
end Go.Proofs.YtgdeecmhhbdjgaaGreat

/- vip: VipActs, the law. -/
namespace Go.Proofs.YtgdeecmhhbdjgaaGreat
set_option linter.unusedVariables false
open Go Go.RowKit Go.Maps

theorem acts33_law (as_ id own : Int) (pA : Option Addr) (pn pc : Nat) (P : List PeerV) (vA : Option Addr) (vn vc : Nat) (V : List VipV) (sA : Option Addr) (sn sc : Nat) (S : List SiteV) (rise fall every pat room idle queue dF dS dR dC dH ttl i : Int) (lA : Option Addr) (ln lc : Nat) (ls : List ActW) (w : World) (w1 : (Lit.int .i64 as_).wf = true) (w2 : (Lit.int .u32 id).wf = true) (w3 : (Lit.int .u32 own).wf = true) (hp1 : pn ≤ pc) (hp2 : pc ≤ maxLen) (hp3 : Seen peerK w (fun b => b < w.heap.size) pA pn P) (hv1 : vn ≤ vc) (hv2 : vc ≤ maxLen) (hv3 : Seen vipK w (fun b => b < w.heap.size) vA vn V) (hs1 : sn ≤ sc) (hs2 : sc ≤ maxLen) (hs3 : Seen siteK w (fun b => b < w.heap.size) sA sn S) (w_rise : (Lit.int .i64 rise).wf = true) (w_fall : (Lit.int .i64 fall).wf = true) (w_every : (Lit.int .i64 every).wf = true) (w_pat : (Lit.int .i64 pat).wf = true) (w_room : (Lit.int .i64 room).wf = true) (w_idle : (Lit.int .i64 idle).wf = true) (w_queue : (Lit.int .i64 queue).wf = true) (w_dF : (Lit.int .i64 dF).wf = true) (w_dS : (Lit.int .i64 dS).wf = true) (w_dR : (Lit.int .i64 dR).wf = true) (w_dC : (Lit.int .i64 dC).wf = true) (w_dH : (Lit.int .i64 dH).wf = true) (w_ttl : (Lit.int .i64 ttl).wf = true) (wi : (Lit.int .i64 i).wf = true) (hl1 : ln ≤ lc) (hl2 : lc ≤ maxLen) (hl3 : Seen actWK w (fun b => b < w.heap.size) lA ln ls) :
    Calls Tryz.prog 5 #[.agg #[.int .i64 as_, .int .u32 id, .int .u32 own, .slice pA pn pc, .slice vA vn vc, .slice sA sn sc, .int .i64 rise, .int .i64 fall, .int .i64 every, .int .i64 pat, .int .i64 room, .int .i64 idle, .int .i64 queue, .int .i64 dF, .int .i64 dS, .int .i64 dR, .int .i64 dC, .int .i64 dH, .int .i64 ttl], .int .i64 i, .slice lA ln lc] w fun e w' => e = .returned (.bool true) ∧ Below w.heap.size w w' := by
  obtain ⟨c, hc⟩ : ∃ c : CfgV, c = ⟨as_, id, own, pA, pn, pc, P, vA, vn, vc, V, sA, sn, sc, S, rise, fall, every, pat, room, idle, queue, dF, dS, dR, dC, dH, ttl⟩ := ⟨_, rfl⟩
  have e1 : (#[.int .i64 as_, .int .u32 id, .int .u32 own, .slice pA pn pc, .slice vA vn vc, .slice sA sn sc, .int .i64 rise, .int .i64 fall, .int .i64 every, .int .i64 pat, .int .i64 room, .int .i64 idle, .int .i64 queue, .int .i64 dF, .int .i64 dS, .int .i64 dR, .int .i64 dC, .int .i64 dH, .int .i64 ttl] : Array Value) = cfgC c := by rw [hc]; rfl
  rw [e1]
  have h : CfgIn w c := by
    rw [hc]
    exact ⟨isU_wf w2, isU_wf w3, ⟨isI_wf w1, isI_wf w_rise, isI_wf w_fall, isI_wf w_every, isI_wf w_pat, isI_wf w_room, isI_wf w_idle, isI_wf w_queue⟩, ⟨isI_wf w_dF, isI_wf w_dS, isI_wf w_dR, isI_wf w_dC, isI_wf w_dH, isI_wf w_ttl⟩, ⟨⟨hp1, hp2⟩, ⟨hv1, hv2⟩, ⟨hs1, hs2⟩⟩, hp3, hv3, hs3⟩
  have hi := isI_wf wi
  exact acts33_core w c i lA ln lc ls h hi.1 hi.2 hl3
end Go.Proofs.YtgdeecmhhbdjgaaGreat
