import Derived.Test.YtgdeecmhhbdjgaaGreatMVipActs33
import Derived.Test.YtgdeecmhhbdjgaaGreatMVipActs34
import Derived.Test.YtgdeecmhhbdjgaaGreatMVipActs2
/- vip: the document's New. -/
namespace Go.Proofs.YtgdeecmhhbdjgaaGreat
set_option linter.unusedVariables false
open Go Go.RowKit Go.Maps

def newR (c : CfgV) (v : VipV) (N : Nat) (L : List Mem) (n : Nat) : RvS := ⟨v.ad, true, 0, c.dF, c.dS, c.dR, c.dC, c.dH, 0, false, v.pct, L, c.room, c.idle, 0, N, [], List.replicate n ⟨c.rise, c.fall, false, 0⟩⟩
def OwnD (g p f : Nat) (v : Value) (k : Nat) : Prop := k = g ∨ k = p ∨ k = f ∨ v.ownBlock = some k
theorem RvR.app {w w' : World} {Z : Nat → Prop} {g p f c c' : Nat} {A A' : Option Addr} {s : RvS} {C : List CtV}
    (h : RvR w (fun k => OwnD g p f (.slice A s.C.length c) k ∨ Z k) (OwnD g p f (.slice A s.C.length c)) g p f A c s) (hc : Chg w w' (fun k => k = g ∨ (Value.slice A s.C.length c).ownBlock = some k))
    (hb : Blk w' g 97 (rvC { s with C := C } p f A' c')) (hr : Rows ctK w' 0 0 176 (.slice A' C.length c') C)
    (hv : (Value.slice A' C.length c').ownBlock = (Value.slice A s.C.length c).ownBlock ∨ ∃ k0, (Value.slice A' C.length c').ownBlock = some k0 ∧ w.heap.size ≤ k0 ∧ k0 < w'.heap.size) (hZ : ∀ k, Z k → k < w.heap.size) :
    RvR w' (fun k => OwnD g p f (.slice A' C.length c') k ∨ Z k) (OwnD g p f (.slice A' C.length c')) g p f A' c' { s with C := C } := by
  have hlt : ∀ k, OwnD g p f (.slice A s.C.length c) k → k < w.heap.size := fun k q => h.lim k (.inl q)
  have hg := hlt g (.inl rfl)
  have hp := hlt p (.inr (.inl rfl))
  have hf := hlt f (.inr (.inr (.inl rfl)))
  have hown : ∀ k, (Value.slice A' C.length c').ownBlock = some k → ((Value.slice A s.C.length c).ownBlock = some k ∨ (w.heap.size ≤ k ∧ k < w'.heap.size)) := fun k q => by
    rcases hv with e | ⟨k0, e, e1, e2⟩
    · exact .inl (e.symm.trans q)
    · rw [e] at q; injection q with q; exact .inr (by omega)
  have hp2 : ¬ (p = g ∨ (Value.slice A s.C.length c).ownBlock = some p) := fun q => q.elim (fun e => h.ne.1 e.symm) fun e => (h.ne.2.2.2 p e).2.1 rfl
  have hf2 : ¬ (f = g ∨ (Value.slice A s.C.length c).ownBlock = some f) := fun q => q.elim (fun e => h.ne.2.1 e.symm) fun e => (h.ne.2.2.2 f e).2.2 rfl
  have hX : ∀ b, ¬ (OwnD g p f (.slice A s.C.length c) b ∨ Z b) → ¬ (b = g ∨ (Value.slice A s.C.length c).ownBlock = some b) := fun b q r => q (.inl (r.elim .inl fun e => .inr (.inr (.inr e))))
  have hN : ∀ b, ¬ (OwnD g p f (.slice A s.C.length c) b ∨ Z b) ∧ b < w.heap.size → ¬ (OwnD g p f (.slice A' C.length c') b ∨ Z b) := fun b q r => by
    rcases r with (r | r | r | r) | r
    · exact q.1 (.inl (.inl r))
    · exact q.1 (.inl (.inr (.inl r)))
    · exact q.1 (.inl (.inr (.inr (.inl r))))
    · rcases hown b r with e | e
      · exact q.1 (.inl (.inr (.inr (.inr e))))
      · omega
    · exact q.1 (.inr r)
  refine ⟨hb, ?_, ?_, hr, ⟨.inl rfl, .inr (.inl rfl), .inr (.inr (.inl rfl)), fun k q => .inr (.inr (.inr q))⟩, fun k q => .inl q, ⟨h.ne.1, h.ne.2.1, h.ne.2.2.1, fun k q => ?_⟩, fun k q => ?_⟩
  · obtain ⟨A1, n1, c1, k1, k2, q1, q2⟩ := h.pol
    exact ⟨A1, n1, c1, k1, k2, hc.blk q1 hp2, (hc.seen q2 fun b q => ⟨q.2, hX b q.1⟩).more fun b q => ⟨hN b q, Nat.lt_of_lt_of_le q.2 hc.size⟩⟩
  · obtain ⟨A1, n1, c1, ca, we, k1, k2, k3, k4, q1, q2⟩ := h.flw
    exact ⟨A1, n1, c1, ca, we, k1, k2, k3, k4, hc.blk q1 hf2, (hc.seen q2 fun b q => ⟨q.2, hX b q.1⟩).more fun b q => ⟨hN b q, Nat.lt_of_lt_of_le q.2 hc.size⟩⟩
  · rcases hown k q with e | e
    · exact h.ne.2.2.2 k e
    · omega
  · have := hc.size
    rcases q with (r | r | r | r) | r
    · omega
    · omega
    · omega
    · rcases hown k r with e | e
      · have := hlt k (.inr (.inr (.inr e))); omega
      · omega
    · have := hZ k r; omega
theorem seen_nil_any {α : Type} {R : RK α} {w : World} {S S' : Nat → Prop} {A : Option Addr} {n : Nat} (h : Seen R w S A n []) : Seen R w S' A n [] := by
  have := h.1
  simp at this
  subst this
  exact ⟨rfl, by simp, fun h => absurd h (Nat.lt_irrefl _)⟩
theorem grown_none {w w' : World} {row : Option Nat} {r : Nat} (h : w.grownBy w' row) (hr : row = some r ∨ row = none) : w.grownBy w' (some r) := by
  rcases hr with e | e
  · exact e ▸ h
  · exact ⟨h.os, h.tape, h.output, h.size, fun k hk _ => h.block k hk (by rw [e]; simp)⟩
theorem chg_row {w w' : World} {row : Option Nat} (h : w.grownBy w' row) : Chg w w' (fun k => row = some k) := ⟨h.os, h.tape, h.output, h.size, fun k hk hx => h.block k hk fun e => hx e.symm⟩
theorem below_chg9 {B : Nat} {w w1 w2 : World} {X : Nat → Prop} (hB : Below B w w1) (hC : Chg w1 w2 X) (hX : ∀ k, X k → B ≤ k) (hz : B ≤ w.heap.size) : Below B w w2 :=
  hB.trans ⟨hC.os, hC.tape, hC.output, hC.size, fun k hk => hC.block k (by have := hB.size; omega) fun q => by have := hX k q; omega⟩
theorem refn_adds {M L : List Mem} (h : Rel M L) {id ad wt : Int} {M' : List Mem} (hp : addP M id ad wt = (0, M')) : (addR L id ad wt).1 = 0 ∧ Rel M' (addR L id ad wt).2 := by
  have := rel_add h id ad wt
  rw [hp] at this
  exact ⟨this.1.symm, this.2⟩
theorem rvAddS (w : World) (X : Nat → Prop) (g : Nat) (pc : Int) (L : List Mem) (id ad wt : Int) (h : RefIn w X g pc L) (hn : L.length ≤ 16) (hX : ∀ b, w.heap.size ≤ b → X b) :
    Calls Tryz.prog 113 #[.pointer (some ⟨g, 0, none⟩), .agg #[.int .i64 id, .int .u32 ad, .int .i64 wt]] w fun e w' => e = .returned (.int .i64 (addR L id ad wt).1) ∧ RefIn w' X g pc (addR L id ad wt).2 ∧ w.grownBy w' (some g) := by
  by_cases hok : addOk id ad wt = false
  · exact refAddBad w X g pc L id ad wt h hok
  · exact refAddOk w X g pc L id ad wt h (by simpa using hok) hn hX
theorem ctE_ok : ElemOk Tryz.prog 92 176 ctK.size 32 (.agg #[.int .i64 0, .int .i64 0, .bool false, .int .i64 0]) := ⟨Tryz.underlying92, by kernel_rfl, rfl, ctK.pos⟩
set_option maxRecDepth 100000 in
set_option maxHeartbeats 16000000 in
theorem rvNew_no (w : World) (c : CfgV) (h : CfgIn w c) (hs : CfgSm c) (i : Int) (hno : partC c ≠ 0 ∨ i < 0 ∨ (c.vn : Int) ≤ i) : Calls Tryz.prog 37 #[.agg (cfgC c), .int .i64 i] w fun e w' => e = .returned (.pointer none) ∧ Below w.heap.size w w' := by
  have hB := (Below.refl w.heap.size w).alloc (Nat.le_refl _) (.cells (cfgC c) 41)
  have hq := Blk.new w 41 (cfgC c)
  have hC := h.nx hB
  have hiC : (Tryz.prog.info? 41).map (·.size) = some (cfgC c).size := by kernel_rfl
  go_enter Tryz.func37, Tryz.ntmps37
  go_upto_region 1 with (fail)
  generalize w.alloc (.cells (cfgC c) 41) = w1 at *
  go_upto_region 2 with (first
    | (refine wpList_load_blk rfl hq 41 (.tmp 2) rfl rfl Tryz.underlying41 rfl hiC ?_)
    | (go_at_call 72; refine (refCheck_any w1 c hC hs).mono ?_; rintro e w2 ⟨rfl, hb⟩))
  replace hB := hB.trans (hb.mono hB.size)
  replace hq := hq.below hb hq.lt
  clear hb hC
  by_cases h0 : partC c = 0
  · have e0 : errC c = 0 := by unfold errC; rw [if_pos h0]
    rw [e0]
    clear e0
    replace hno : i < 0 ∨ (c.vn : Int) ≤ i := hno.resolve_left (fun q => q h0)
    replace h0 := Lib.hid h0
    have q4 : w2.cell? ⟨w.heap.size, 4, none⟩ = some (.slice c.vA c.vn c.vc) := hq.cellv 4 rfl
    have ql := hq.lt
    by_cases h1 : i < 0
    · have d1 : decide (i < 0) = true := by simpa using h1
      clear hno
      go_wp2_with fail
      go_ret
      exact ⟨rfl, hB⟩
    · have d1 : decide (i < 0) = false := by simpa using h1
      have h2 : (c.vn : Int) ≤ i := hno.resolve_left h1
      have d2 : decide ((c.vn : Int) ≤ i) = true := by simpa using h2
      have d3 : decide (i < (c.vn : Int)) = false := by simpa using h2
      clear hno
      go_wp2_with fail
      go_ret
      exact ⟨rfl, hB⟩
  · have e0 : errC c = 12 := by unfold errC; rw [if_neg h0]
    rw [e0]
    clear e0
    replace hno : True := trivial
    replace h0 := Lib.hid h0
    go_wp2_with fail
    go_ret
    exact ⟨rfl, hB⟩
set_option maxRecDepth 100000 in
set_option maxHeartbeats 16000000 in
theorem rvNew_yes (w : World) (c : CfgV) (h : CfgIn w c) (hs : CfgSm c) (hok : partC c = 0) (k : Nat) (v : VipV) (hv : c.V[k]? = some v) (N : Nat) (Z : Nat → Prop) (hZ : ∀ k, Z k → k < w.heap.size) :
    Calls Tryz.prog 37 #[.agg (cfgC c), .int .i64 (k : Int)] w fun e w' => ∃ g D L, e = .returned (.pointer (some ⟨g, 0, none⟩)) ∧ RvT w' (fun k => D k ∨ Z k) D g (newR c v N L v.n) ∧ Rel (mkM v.L) L ∧ (∀ k, D k → w.heap.size ≤ k) ∧ Below w.heap.size w w' := by
  obtain ⟨hgood, hpct, hroom, hidle, hadds⟩ := newS_good hok hv
  have hn300 := hs.b v (List.mem_of_getElem? hv)
  have hL0 := (h.vips.2.1 v (List.mem_of_getElem? hv)).2.2.2.2
  have hkl : k < c.vn := by rw [← h.vips.1]; exact (List.getElem?_eq_some_iff.1 hv).1
  have hB := (Below.refl w.heap.size w).alloc (Nat.le_refl _) (.cells (cfgC c) 41)
  have hq := Blk.new w 41 (cfgC c)
  have hC := h.nx hB
  have hiC : (Tryz.prog.info? 41).map (·.size) = some (cfgC c).size := by kernel_rfl
  have e0 : errC c = 0 := by unfold errC; rw [if_pos hok]
  have hch := fun w (h : CfgIn w c) => refCheck_any w c h hs
  rw [e0] at hch
  clear e0
  replace hok := Lib.hid hok
  go_enter Tryz.func37, Tryz.ntmps37
  go_upto_region 1 with (fail)
  generalize w.alloc (.cells (cfgC c) 41) = w1 at *
  go_upto_region 2 with (first
    | (refine wpList_load_blk rfl hq 41 (.tmp 2) rfl rfl Tryz.underlying41 rfl hiC ?_)
    | (go_at_call 72; refine (hch w1 hC).mono ?_; rintro e w2 ⟨rfl, hb⟩))
  clear hch
  replace hB := hB.trans (hb.mono hB.size)
  replace hC := hC.nx hb
  replace hq := hq.below hb hq.lt
  clear hb
  have hkv : (k : Int) < c.vn := by omega
  have hk0 : (0 : Int) ≤ k := by omega
  have d1 : decide ((k : Int) < 0) = false := by simp
  have d2 : decide ((c.vn : Int) ≤ k) = false := by simp; omega
  have d3 : decide ((k : Int) < c.vn) = true := by simp; omega
  obtain ⟨A, hA⟩ : ∃ A, A = c.vA := ⟨_, rfl⟩
  have hSv := hC.vips
  rw [← hA] at hSv
  have q4 : w2.cell? ⟨w.heap.size, 4, none⟩ = some (.slice A c.vn c.vc) := by rw [hA]; exact hq.cellv 4 rfl
  have ql := hq.lt
  replace hA := Lib.hid hA
  obtain ⟨b, off, v', e1, hb, hv', hvok, r0, r1, r2⟩ := vip_cells hSv hkl
  obtain rfl : v' = v := by rw [hv] at hv'; injection hv' with e; exact e.symm
  subst e1
  clear hv' hv
  go_upto_region 3 with (fail)
  have hbx := (Below.refl w2.heap.size w2).alloc (Nat.le_refl _) (.cells #[.int .u32 v'.ad, .int .i64 v'.pct, .slice v'.A v'.n v'.c] 134)
  have h7 := Blk.new w2 134 #[.int .u32 v'.ad, .int .i64 v'.pct, .slice v'.A v'.n v'.c]
  go_upto_region 5 with (fail)
  clear d1 d2 d3 q4 ql r0 r1 r2
  clear hvok
  generalize w2.alloc (.cells #[.int .u32 v'.ad, .int .i64 v'.pct, .slice v'.A v'.n v'.c] 134) = w3 at *
  have ha7 := hB.size
  replace hB := hB.trans (hbx.mono hB.size)
  replace hq := hq.below hbx hq.lt
  clear hbx hb hSv hC
  generalize w2.heap.size = a7 at *
  obtain ⟨v, ev⟩ : ∃ v, v = v' := ⟨_, rfl⟩
  subst ev
  have hdg := hgood.dg
  replace hdg : dm.goodR c.dF c.dS c.dR c.dC c.dH = true := hdg
  replace hgood := Lib.hid hgood
  have hlo : w.heap.size ≤ w3.heap.size := hB.size
  have q10 : w3.cell? ⟨w.heap.size, 10, none⟩ = some (.int .i64 c.room) := hq.cellv 10 rfl
  have q11 : w3.cell? ⟨w.heap.size, 11, none⟩ = some (.int .i64 c.idle) := hq.cellv 11 rfl
  have q13 : w3.cell? ⟨w.heap.size, 13, none⟩ = some (.int .i64 c.dF) := hq.cellv 13 rfl
  have q14 : w3.cell? ⟨w.heap.size, 14, none⟩ = some (.int .i64 c.dS) := hq.cellv 14 rfl
  have q15 : w3.cell? ⟨w.heap.size, 15, none⟩ = some (.int .i64 c.dR) := hq.cellv 15 rfl
  have q16 : w3.cell? ⟨w.heap.size, 16, none⟩ = some (.int .i64 c.dC) := hq.cellv 16 rfl
  have q17 : w3.cell? ⟨w.heap.size, 17, none⟩ = some (.int .i64 c.dH) := hq.cellv 17 rfl
  have ql := hq.lt
  have x0 : w3.cell? ⟨a7, 0, none⟩ = some (.int .u32 v.ad) := h7.cellv 0 rfl
  have x1 : w3.cell? ⟨a7, 1, none⟩ = some (.int .i64 v.pct) := h7.cellv 1 rfl
  have x2 : w3.cell? ⟨a7, 2, none⟩ = some (.slice v.A v.n v.c) := h7.cellv 2 rfl
  have xl := h7.lt
  try refine wp_region_noPanic ?_
  have hs1r : Below w3.heap.size w3 w3.drew := (Below.refl _ _).drew
  refine wp_region_held_drew (S := fun w' => Below w3.heap.size w3 w') (by kernel_rfl) hs1r (fun _ => ?_)
  (refine held_takeA 0 (by rfl) ?_ (by kernel_rfl) (fun _ _ _ h => h) hs1r ?_ ?_; rotate_left; (focus (intro wq hSw; have hrd := zR hSw; go_simp; try with_reducible rfl; done)); try simp only [Act.put, zA, zB, zC])
  (refine held_takeA 1 (by rfl) ?_ (by kernel_rfl) (fun _ _ _ h => h) hs1r ?_ ?_; rotate_left; (focus (intro wq hSw; have hrd := zR hSw; go_simp; try with_reducible rfl; done)); try simp only [Act.put, zA, zB, zC])
  (refine held_takeA 3 (by rfl) ?_ (by kernel_rfl) (fun _ _ _ h => h) hs1r ?_ ?_; rotate_left; (focus (intro wq hSw; have hrd := zR hSw; go_simp; try with_reducible rfl; done)); try simp only [Act.put, zA, zB, zC])
  (refine held_takeA 4 (by rfl) ?_ (by kernel_rfl) (fun _ _ _ h => h) hs1r ?_ ?_; rotate_left; (focus (intro wq hSw; have hrd := zR hSw; go_simp; try with_reducible rfl; done)); try simp only [Act.put, zA, zB, zC])
  (refine held_takeA 5 (by rfl) ?_ (by kernel_rfl) (fun _ _ _ h => h) hs1r ?_ ?_; rotate_left; (focus (intro wq hSw; have hrd := zR hSw; go_simp; try with_reducible rfl; done)); try simp only [Act.put, zA, zB, zC])
  (refine held_takeA 6 (by rfl) ?_ (by kernel_rfl) (fun _ _ _ h => h) hs1r ?_ ?_; rotate_left; (focus (intro wq hSw; have hrd := zR hSw; go_simp; try with_reducible rfl; done)); try simp only [Act.put, zA, zB, zC])
  (refine held_takeA 8 (by rfl) ?_ (by kernel_rfl) (fun _ _ _ h => h) hs1r ?_ ?_; rotate_left; (focus (intro wq hSw; have hrd := zR hSw; go_simp; try with_reducible rfl; done)); try simp only [Act.put, zA, zB, zC])
  (refine held_takeA 9 (by rfl) ?_ (by kernel_rfl) (fun _ _ _ h => h) hs1r ?_ ?_; rotate_left; (focus (intro wq hSw; have hrd := zR hSw; go_simp; try with_reducible rfl; done)); try simp only [Act.put, zA, zB, zC])
  (refine held_takeA 13 (by rfl) ?_ (by kernel_rfl) (fun _ _ _ h => h) hs1r ?_ ?_; rotate_left; (focus (intro wq hSw; have hrd := zR hSw; go_simp; try with_reducible rfl; done)); try simp only [Act.put, zA, zB, zC])
  (refine held_takeA 14 (by rfl) ?_ (by kernel_rfl) (fun _ _ _ h => h) hs1r ?_ ?_; rotate_left; (focus (intro wq hSw; have hrd := zR hSw; go_simp; try with_reducible rfl; done)); try simp only [Act.put, zA, zB, zC])
  refine held_callA 2 (by rfl) (by kernel_rfl) (by rfl) (fun KQ hKQ => ?_)
  go_simp
  refine (refNew25 w3.drew (fun _ => True) v.pct hpct.1 hpct.2).mono ?_
  rintro e w4 ⟨rfl, hp, hb4⟩
  refine hKQ.out _ _ (hs1r.trans hb4) (held_mono (S' := fun w' => Below w4.heap.size w4 w') (fun w' h => (hs1r.trans hb4).trans (h.mono (hs1r.trans hb4).size)) _ _ _ _ ?_)
  clear hKQ KQ
  have hs2r : Below w4.heap.size w4 w4 := Below.refl _ _
  try simp only [Act.put, zA, zB, zC]
  refine held_callA 7 (by rfl) (by kernel_rfl) (by rfl) (fun KQ hKQ => ?_)
  go_simp
  refine (rfNew w4 (fun _ => True) N c.room c.idle hroom.1 hroom.2 hidle.1 hidle.2).mono ?_
  rintro e w5 ⟨rfl, hf, hb5⟩
  refine hKQ.out _ _ (hs2r.trans hb5) (held_mono (S' := fun w' => Below w5.heap.size w5 w') (fun w' h => (hs2r.trans hb5).trans (h.mono (hs2r.trans hb5).size)) _ _ _ _ ?_)
  clear hKQ KQ
  have hs3r : Below w5.heap.size w5 w5 := Below.refl _ _
  try simp only [Act.put, zA, zB, zC]
  refine held_callA 10 (by rfl) (by kernel_rfl) (by rfl) (fun KQ hKQ => ?_)
  go_simp
  refine (dm.refNew_yes c.dF c.dS c.dR c.dC c.dH w5 hdg).mono ?_
  rintro e w6 ⟨d, rfl, hd6, hd, hb6⟩
  unfold dm.dampCs at hd
  refine hKQ.out _ _ (hs3r.trans hb6) (held_mono (S' := fun w' => Below w6.heap.size w6 w') (fun w' h => (hs3r.trans hb6).trans (h.mono (hs3r.trans hb6).size)) _ _ _ _ ?_)
  clear hKQ KQ
  have hs4r : Below w6.heap.size w6 w6 := Below.refl _ _
  try simp only [Act.put, zA, zB, zC]
  (refine held_takeA 11 (by rfl) ?_ (by kernel_rfl) (fun _ _ _ h => h) hs4r ?_ ?_; rotate_left; (focus (intro wq hSw; have hrd := zR hSw; go_simp; try with_reducible rfl; done)); try simp only [Act.put, zA, zB, zC])
  (refine held_takeA 12 (by rfl) ?_ (by kernel_rfl) (fun _ _ _ h => h) hs4r ?_ ?_; rotate_left; (focus (intro wq hSw; refine exec_load_blk (x := .tmp 45) ?_ ?_ (hd.below hSw hd.lt) _ Tryz.underlying95 rfl (by kernel_rfl) <;> rfl)); simp only [Act.put, zA, zB, zC])
  (refine held_takeA 15 (by rfl) ?_ (by kernel_rfl) (fun _ _ _ h => h) hs4r ?_ ?_; rotate_left; (focus (intro wq hSw; have hrd := zR hSw; go_simp; try with_reducible rfl; done)); try simp only [Act.put, zA, zB, zC])
  have hz3 : w3.drew.heap.size = w3.heap.size := rfl
  have hp4 := hp.lt
  have hf5 := hf.lt
  have hz4 : w3.heap.size ≤ w4.heap.size := hb4.size
  have hz5 := hb5.size
  have hz6 := hb6.size
  obtain ⟨p, ep⟩ : ∃ p, p = w3.heap.size := ⟨_, rfl⟩
  obtain ⟨f, ef⟩ : ∃ f, f = w4.heap.size := ⟨_, rfl⟩
  rw [hz3, ← ep] at hp hp4
  rw [← ef] at hf hf5
  try rw [hz3]
  try rw [← ep]
  try rw [← ef]
  have hpf : p ≠ f := by omega
  have hp0 : w.heap.size < p := by have := hq.lt; omega
  have hf0 : w.heap.size < f := by have := hq.lt; omega
  replace hp := (hp.nx hb5).nx hb6
  replace hf := hf.nx hb6
  have hB6 := (((hB.trans ((show Below w3.heap.size w3 w4 from ⟨hb4.os, hb4.tape, hb4.output, hb4.size, hb4.block⟩).mono hB.size)).trans (hb5.mono (by omega))).trans (hb6.mono (by omega)))
  have hq6 := ((hq.below (show Below w3.heap.size w3 w4 from ⟨hb4.os, hb4.tape, hb4.output, hb4.size, hb4.block⟩) hq.lt).below hb5 (by have := hq.lt; omega)).below hb6 (by have := hq.lt; omega)
  have h76 := ((h7.below (show Below w3.heap.size w3 w4 from ⟨hb4.os, hb4.tape, hb4.output, hb4.size, hb4.block⟩) h7.lt).below hb5 (by have := h7.lt; omega)).below hb6 (by have := h7.lt; omega)
  replace ep := Lib.hid ep
  replace ef := Lib.hid ef
  clear hz3 hB hq h7
  refine held_callA 16 (by rfl) (by kernel_rfl) (by rfl) (fun KQ hKQ => ?_)
  go_simp
  have hbb := (Below.refl w6.heap.size w6).alloc (Nat.le_refl _) (.cells #[.pointer (some ⟨p, 0, none⟩), .slice none 0 0, .pointer (some ⟨f, 0, none⟩), .int .i64 c.dF, .int .i64 c.dS, .int .i64 c.dR, .int .i64 c.dC, .int .i64 c.dH, .int .i64 0, .bool false, .bool true, .int .i64 0, .int .u32 v.ad] 97)
  have hg := Blk.new w6 97 #[.pointer (some ⟨p, 0, none⟩), .slice none 0 0, .pointer (some ⟨f, 0, none⟩), .int .i64 c.dF, .int .i64 c.dS, .int .i64 c.dR, .int .i64 c.dC, .int .i64 c.dH, .int .i64 0, .bool false, .bool true, .int .i64 0, .int .u32 v.ad]
  have hzw : (w6.alloc (.cells #[.pointer (some ⟨p, 0, none⟩), .slice none 0 0, .pointer (some ⟨f, 0, none⟩), .int .i64 c.dF, .int .i64 c.dS, .int .i64 c.dR, .int .i64 c.dC, .int .i64 c.dH, .int .i64 0, .bool false, .bool true, .int .i64 0, .int .u32 v.ad] 97)).heap.size = w6.heap.size + 1 := by simp
  obtain ⟨g, eg⟩ : ∃ g, g = w6.heap.size := ⟨_, rfl⟩
  rw [← eg] at hg hzw
  try rw [← eg]
  have gp : p < g := by omega
  have gf : f < g := by omega
  have g0 : w.heap.size < g := by omega
  replace hp := hp.nx hbb
  replace hf := hf.nx hbb
  have hB7 := hB6.trans (hbb.mono hB6.size)
  have hq7 := hq6.below hbb hq6.lt
  have h77 := h76.below hbb h76.lt
  have hZg : ∀ k, Z k → k < g := fun k q => by have := hZ k q; omega
  replace eg := Lib.hid eg
  generalize w6.alloc (.cells #[.pointer (some ⟨p, 0, none⟩), .slice none 0 0, .pointer (some ⟨f, 0, none⟩), .int .i64 c.dF, .int .i64 c.dS, .int .i64 c.dR, .int .i64 c.dC, .int .i64 c.dH, .int .i64 0, .bool false, .bool true, .int .i64 0, .int .u32 v.ad] 97) = w7 at *
  refine hKQ.out _ _ (hs4r.trans hbb) (held_mono (S' := fun w' => Below w7.heap.size w7 w') (fun w' h => (hs4r.trans hbb).trans (h.mono (hs4r.trans hbb).size)) _ _ _ _ ?_)
  clear hKQ KQ
  have hs5r : Below w7.heap.size w7 w7 := Below.refl _ _
  try simp only [Act.put, zA, zB, zC]
  (refine held_takeA 17 (by rfl) ?_ (by kernel_rfl) (fun _ _ _ h => h) hs5r ?_ ?_; rotate_left; (focus (intro wq hSw; have hrd := zR hSw; go_simp; try with_reducible rfl; done)); try simp only [Act.put, zA, zB, zC])
  refine wpAnyH_done (by kernel_rfl) ?_ _
  try refine NoPanic.normal ?_
  have hR : RvR w7 (fun k => OwnD g p f (.slice none 0 0) k ∨ Z k) (OwnD g p f (.slice none 0 0)) g p f none 0 (newR c v N [] 0) := by
    refine ⟨hg, ?_, ?_, Rows.nil _ _ _ _, ⟨.inl rfl, .inr (.inl rfl), .inr (.inr (.inl rfl)), fun k q => .inr (.inr (.inr q))⟩, fun k q => .inl q, ⟨by omega, by omega, hpf, fun k q => by cases q⟩, fun k q => ?_⟩
    · obtain ⟨A1, n1, c1, k1, k2, e1, e2⟩ := hp
      exact ⟨A1, n1, c1, k1, k2, e1, seen_nil_any e2⟩
    · obtain ⟨A1, n1, c1, ca, we, k1, k2, k3, k4, e1, e2⟩ := hf
      exact ⟨A1, n1, c1, ca, we, k1, k2, k3, k4, e1, seen_nil_any e2⟩
    · rcases q with (r | r | r | r) | r
      · omega
      · omega
      · omega
      · cases r
      · have := hZg k r; omega
  obtain ⟨A9, hA9⟩ : ∃ A9, A9 = v.A := ⟨_, rfl⟩
  rw [← hA9] at hL0
  clear hp hf hg hb4 hb5 hb6 hd hd6 hbb hq6 h76 hB6 q10 q11 q13 q14 q15 q16 q17 ql x0 x1 x2 xl
  have x2 : w7.cell? ⟨a7, 2, none⟩ = some (.slice A9 v.n v.c) := by rw [hA9]; exact h77.cellv 2 rfl
  have xl := h77.lt
  replace hA9 := Lib.hid hA9
  go_upto_region 7 with (fail)
  clear x2 xl h77
  have hri : 1 ≤ c.rise ∧ c.rise ≤ 100 := hgood.out.ri
  have hfa : 1 ≤ c.fall ∧ c.fall ≤ 100 := hgood.out.fa
  go_loopw [54] (fun i wr => ∃ (j : Nat) (A1 : Option Addr) (c1 : Nat) (L : List Mem), j ≤ v.n ∧ i = .int .i64 (j : Int) ∧ RvR wr (fun k => OwnD g p f (.slice A1 (newR c v N L j).C.length c1) k ∨ Z k) (OwnD g p f (.slice A1 (newR c v N L j).C.length c1)) g p f A1 c1 (newR c v N L j) ∧ Rel (mkM (v.L.take j)) L ∧ addsM [] (v.L.take j) = some (mkM (v.L.take j)) ∧ (∀ k, OwnD g p f (.slice A1 (newR c v N L j).C.length c1) k → w.heap.size < k) ∧ Blk wr w.heap.size 41 (cfgC c) ∧ Below w.heap.size w wr) (fun i _ => v.n - (intOf i).toNat)
  case atStart => exact ⟨0, none, 0, [], Nat.zero_le _, rfl, hR, ⟨List.Perm.refl _, List.Pairwise.nil, by simp [MemsOk, mkM]⟩, rfl, (fun k q => by
    rcases q with r | r | r | r
    · omega
    · omega
    · omega
    · cases r), hq7, hB7⟩
  case round =>
  clear hR hq7 hB7
  obtain ⟨j, A1, c1, L, hj, rfl, hV, hrel0, hadd, hDw, hq, hB⟩ := hrel
  replace hadd := Lib.hid hadd
  replace hDw := Lib.hid hDw
  by_cases hlt : j < v.n
  · have hji : (j : Int) < v.n := by omega
    have hj0 : (0 : Int) ≤ j := by omega
    have hj300 : (j : Int) ≤ 300 := by omega
    obtain ⟨bb, off, b, eA, hbb, hb, hbok, r0, r1, r2⟩ := bnd_cells (seen_nx hL0 hB) hlt
    subst eA
    obtain ⟨s1, s2, s3, s4, s5⟩ := adds_step hadds hb hadd.out
    obtain ⟨t1, t2⟩ := refn_adds hrel0 s2
    have hL16 : L.length ≤ 16 := (rel_ok hrel0).1
    replace s1 := Lib.hid s1
    clear s2 s3 s4
    replace s5 := Lib.hid s5
    have hbI := hbok.1
    have hbx := (Below.refl wr.heap.size wr).alloc (Nat.le_refl _) (.cells #[.int .i64 b.id, .int .u32 b.ad, .int .i64 b.wt] 120)
    have h10 := Blk.new wr 120 #[.int .i64 b.id, .int .u32 b.ad, .int .i64 b.wt]
    have lq := hq.lt
    have lp := hV.lim p (.inl (.inr (.inl rfl)))
    have lgg := hV.lim g (.inl (.inl rfl))
    go_upto_region 9 with (fail)
    clear r0 r1 r2
    replace hV := hV.nx hbx
    replace hq := hq.below hbx hq.lt
    replace hB := hB.trans (hbx.mono hB.size)
    generalize wr.alloc (.cells #[.int .i64 b.id, .int .u32 b.ad, .int .i64 b.wt] 120) = w5 at *
    have n1 : wr.heap.size ≠ p := by omega
    have hz5 := hbx.size
    clear hbx
    generalize wr.heap.size = a10 at *
    have ngp := hV.ne.1
    have c0 : w5.cell? ⟨g, 0, none⟩ = some (.pointer (some ⟨p, 0, none⟩)) := hV.blk.cellv 0 rfl
    have lg := hV.blk.lt
    have b1 : w.heap.size ≠ p := by omega
    have hYn : ∀ x, w5.heap.size ≤ x → ¬ (OwnD g p f (.slice A1 (newR c v N L j).C.length c1) x ∨ Z x) := fun x q y => by have := hV.lim x y; omega
    try refine wp_region_noPanic ?_
    have hs6r : w5.grownBy w5.drew (some p) := grown_drew (grown_refl _ _)
    refine wp_region_held_drew (S := fun w' => w5.grownBy w' (some p)) (by kernel_rfl) hs6r (fun _ => ?_)
    (refine held_takeA 0 (by rfl) ?_ (by kernel_rfl) (fun _ _ _ h => h) hs6r ?_ ?_; rotate_left; (focus (intro wq hSw; have hrd := zG hSw; go_simp; try with_reducible rfl; done)); try simp only [Act.put, zA, zB, zC])
    (refine held_takeA 1 (by rfl) ?_ (by kernel_rfl) (fun _ _ _ h => h) hs6r ?_ ?_; rotate_left; (focus (intro wq hSw; have hrd := zG hSw; go_simp; try with_reducible rfl; done)); try simp only [Act.put, zA, zB, zC])
    (refine held_takeA 2 (by rfl) ?_ (by kernel_rfl) (fun _ _ _ h => h) hs6r ?_ ?_; rotate_left; (focus (intro wq hSw; have hrd := zG hSw; go_simp; try with_reducible rfl; done)); try simp only [Act.put, zA, zB, zC])
    (refine held_takeA 3 (by rfl) ?_ (by kernel_rfl) (fun _ _ _ h => h) hs6r ?_ ?_; rotate_left; (focus (intro wq hSw; have hrd := zG hSw; go_simp; try with_reducible rfl; done)); try simp only [Act.put, zA, zB, zC])
    (refine held_takeA 4 (by rfl) ?_ (by kernel_rfl) (fun _ _ _ h => h) hs6r ?_ ?_; rotate_left; (focus (intro wq hSw; refine exec_load_blk (x := .tmp 10) ?_ ?_ (h10.grown hSw (by simp; omega)) _ Tryz.underlying120 rfl (by kernel_rfl) <;> rfl)); simp only [Act.put, zA, zB, zC])
    refine held_callA 5 (by rfl) (by kernel_rfl) (by rfl) (fun KQ hKQ => ?_)
    go_simp
    refine (rvAddS w5.drew _ p v.pct L b.id b.ad b.wt hV.pol hL16 (fun x q => hYn x q)).mono ?_
    rintro e w6 ⟨rfl, hP6, hg6⟩
    refine hKQ.out _ _ (grown_trans hs6r hg6) (held_mono (S' := fun w' => w6.grownBy w' (some p)) (fun w' h => grown_trans (grown_trans hs6r hg6) h) _ _ _ _ ?_)
    clear hKQ KQ
    replace h10 := h10.grown (grown_trans hs6r hg6) (by simp; omega)
    have hs7r : w6.grownBy w6 (some p) := grown_refl _ _
    refine wpAnyH_done (by kernel_rfl) ?_ _
    try refine NoPanic.normal ?_
    replace hg6 : w5.grownBy w6 (some p) := grown_trans (grown_drew (grown_refl _ _)) hg6
    have hC6 : Chg w5 w6 (fun k => k = p) := Chg.of_grown (X := fun k => k = p) hg6 rfl
    have hV6 := hV.setP hC6 _ hP6
    have hq6 := hC6.blk hq b1
    have hB6 := below_own hB hg6 hB.size (by omega)
    clear hV hP6 hC6 hg6 c0 lg hq hB hYn n1
    have hl : (newR c v N L j).C.length = j := List.length_replicate
    obtain ⟨r, hr, hrg, hrB, hrl⟩ : ∃ r, ((Value.slice A1 (newR c v N L j).C.length c1).ownBlock = some r ∨ (Value.slice A1 (newR c v N L j).C.length c1).ownBlock = none) ∧ r ≠ g ∧ r ≠ w.heap.size ∧ r < w6.heap.size := by
      cases hvo : (Value.slice A1 (newR c v N L j).C.length c1).ownBlock with
      | none => exact ⟨p, .inr rfl, Ne.symm ngp, Ne.symm b1, hV6.lim p (.inl (.inr (.inl rfl)))⟩
      | some r => exact ⟨r, .inl rfl, (hV6.ne.2.2.2 r hvo).1, by have := hDw.out r (.inr (.inr (.inr hvo))); omega, hV6.lim r (.inl (.inr (.inr (.inr hvo))))⟩
    have hgr : g ≠ r := Ne.symm hrg
    have hBr : w.heap.size ≠ r := Ne.symm hrB
    have c1' : w6.cell? ⟨g, 1, none⟩ = some (.slice A1 j c1) := by rw [← hl]; exact hV6.blk.cellv 1 rfl
    have f1 := hV6.blk.frozen 1
    have lg := hV6.blk.lt
    have hrow : Rows ctK w6 0 0 176 (.slice A1 (newR c v N L j).C.length c1) (newR c v N L j).C := hV6.row
    rw [hl] at hrow
    have hjl : (newR c v N L j).C.length ≤ 300 := by omega
    have hrj := hr
    rw [show (newR c v N L j).C.length = j from hl] at hrj
    replace hl := Lib.hid hl
    have q6 : w6.cell? ⟨w.heap.size, 6, none⟩ = some (.int .i64 c.rise) := hq6.cellv 6 rfl
    have q7 : w6.cell? ⟨w.heap.size, 7, none⟩ = some (.int .i64 c.fall) := hq6.cellv 7 rfl
    have ql := hq6.lt
    go_upto_region 10 with (fail)
    try refine wp_region_noPanic ?_
    have hs8r : w6.grownBy w6.drew (some r) := grown_drew (grown_refl _ _)
    refine wp_region_E 16 (S := fun w' => w6.grownBy w' (some r)) (by kernel_rfl) hs8r (fun _ => ?_)
    (refine e_takeA 0 (by rfl) ?_ (by kernel_rfl) (fun _ _ _ h => h) hs8r ?_ ?_; rotate_left; (focus (intro wq hSw; have hrd := zG hSw; go_simp; try with_reducible rfl; done)); try simp only [Act.put, zA, zB, zC])
    (refine e_takeA 1 (by rfl) ?_ (by kernel_rfl) (fun _ _ _ h => h) hs8r ?_ ?_; rotate_left; (focus (intro wq hSw; have hrd := zG hSw; go_simp; try with_reducible rfl; done)); try simp only [Act.put, zA, zB, zC])
    (refine e_takeA 2 (by rfl) ?_ (by kernel_rfl) (fun _ _ _ h => h) hs8r ?_ ?_; rotate_left; (focus (intro wq hSw; have hrd := zG hSw; go_simp; try with_reducible rfl; done)); try simp only [Act.put, zA, zB, zC])
    (refine e_takeA 3 (by rfl) ?_ (by kernel_rfl) (fun _ _ _ h => h) hs8r ?_ ?_; rotate_left; (focus (intro wq hSw; have hrd := zG hSw; go_simp; try with_reducible rfl; done)); try simp only [Act.put, zA, zB, zC])
    (refine e_takeA 4 (by rfl) ?_ (by kernel_rfl) (fun _ _ _ h => h) hs8r ?_ ?_; rotate_left; (focus (intro wq hSw; have hrd := zG hSw; go_simp; try with_reducible rfl; done)); try simp only [Act.put, zA, zB, zC])
    (refine e_takeA 5 (by rfl) ?_ (by kernel_rfl) (fun _ _ _ h => h) hs8r ?_ ?_; rotate_left; (focus (intro wq hSw; have hrd := zG hSw; go_simp; try with_reducible rfl; done)); try simp only [Act.put, zA, zB, zC])
    (refine e_takeA 6 (by rfl) ?_ (by kernel_rfl) (fun _ _ _ h => h) hs8r ?_ ?_; rotate_left; (focus (intro wq hSw; have hrd := zG hSw; go_simp; try with_reducible rfl; done)); try simp only [Act.put, zA, zB, zC])
    (refine e_takeA 7 (by rfl) ?_ (by kernel_rfl) (fun _ _ _ h => h) hs8r ?_ ?_; rotate_left; (focus (intro wq hSw; have hrd := zG hSw; go_simp; try with_reducible rfl; done)); try simp only [Act.put, zA, zB, zC])
    (refine e_takeA 8 (by rfl) ?_ (by kernel_rfl) (fun _ _ _ h => h) hs8r ?_ ?_; rotate_left; (focus (intro wq hSw; have hrd := zG hSw; go_simp; try with_reducible rfl; done)); try simp only [Act.put, zA, zB, zC])
    refine e_callA 9 (by rfl) (by kernel_rfl) (by rfl) (fun KQ hKQ => ?_)
    go_simp
    refine (rs.refNew_yes c.rise c.fall w6.drew hri hfa).mono ?_
    rintro e w7 ⟨kn, rfl, hkn, hk7, hb7⟩
    unfold rs.riseCs at hk7
    replace hb7 : Below w6.heap.size w6 w7 := ⟨hb7.os, hb7.tape, hb7.output, hb7.size, hb7.block⟩
    replace hkn : w6.heap.size ≤ kn := hkn
    have hz7 := hb7.size
    have hrow7 := hrow.below hb7
    have hS7 : w6.grownBy w7 (some r) := grown_of_below hb7 (Nat.le_refl _) _
    have k0 : w7.cell? ⟨kn, 0, none⟩ = some (.int .i64 c.rise) := hk7.cellv 0 rfl
    have k1 : w7.cell? ⟨kn, 1, none⟩ = some (.int .i64 c.fall) := hk7.cellv 1 rfl
    have k2 : w7.cell? ⟨kn, 2, none⟩ = some (.bool false) := hk7.cellv 2 rfl
    have k3 : w7.cell? ⟨kn, 3, none⟩ = some (.int .i64 0) := hk7.cellv 3 rfl
    have kl := hk7.lt
    have hs9r := hS7
    refine hKQ.out _ _ hs9r ?_
    clear hKQ KQ
    try simp only [Act.put, zA, zB, zC]
    (refine e_takeA 10 (by rfl) ?_ (by kernel_rfl) (fun _ _ _ h => h) hs9r ?_ ?_; rotate_left; (focus (intro wq hSw; have hrd := zG hSw; go_simp; try with_reducible rfl; done)); try simp only [Act.put, zA, zB, zC])
    refine e_callA 11 (by rfl) (by kernel_rfl) (by rfl) (fun KQ hKQ => ?_)
    go_simp
    have hs10r := hS7
    refine hKQ.out _ _ hs10r ?_
    clear hKQ KQ
    try simp only [Act.put, zA, zB, zC]
    refine e_callA 12 (by rfl) (by kernel_rfl) (by rfl) (fun KQ hKQ => ?_)
    go_simp
    have hb8 := (Below.refl w7.heap.size w7).alloc (Nat.le_refl _) (.cells #[.int .i64 c.rise, .int .i64 c.fall, .bool false, .int .i64 0] 176)
    have hone : Seen ctK (w7.alloc (.cells #[.int .i64 c.rise, .int .i64 c.fall, .bool false, .int .i64 0] 176)) (fun _ => True) (some ⟨w7.heap.size, 0, none⟩) 1 [(⟨c.rise, c.fall, false, 0⟩ : CtV)] := seen_one (R := ctK) (S := fun _ => False) (S' := fun _ => True) w7 176 (⟨c.rise, c.fall, false, 0⟩ : CtV) #[.int .i64 c.rise, .int .i64 c.fall, .bool false, .int .i64 0] rfl trivial (fun _ h => h.elim) trivial (fun _ h => h.elim)
    have hrow8 := hrow7.below hb8
    have hS8 : w6.grownBy _ (some r) := grown_trans hS7 (grown_of_below hb8 (Nat.le_refl _) _)
    have hz8 := hb8.size
    generalize w7.alloc (.cells #[.int .i64 c.rise, .int .i64 c.fall, .bool false, .int .i64 0] 176) = w8 at *
    have hs11r := hS8
    refine hKQ.out _ _ hs11r ?_
    clear hKQ KQ
    try simp only [Act.put, zA, zB, zC]
    refine e_callA 13 (by rfl) (by kernel_rfl) (by rfl) (fun KQ hKQ => ?_)
    refine wp_rowsO ctE_ok (.tmp 68) (.tmp 76) (by rfl) hrow8 (by rfl) (by rfl) hone (fun _ _ => trivial) (by unfold maxLen; omega) (by omega) (Nat.zero_le _) ?_
    intro v9 w9 hrow9 hg9 hv9
    have hS9 : w6.grownBy w9 (some r) := grown_trans hS8 (grown_none hg9 hrj)
    obtain ⟨A2, c2, e2, -, -, -⟩ := hrow9.seen (Nat.zero_le _)
    subst e2
    have hgb9 := hV6.blk.grown hS9 (fun e => hgr (by injection e))
    have c19 : w9.cell? ⟨g, 1, none⟩ = some (.slice A1 j c1) := by rw [← hl.out]; exact hgb9.cellv 1 rfl
    have f19 := hgb9.frozen 1
    have lg9 := hgb9.lt
    have hz9 := hg9.size
    have hs12r := hS9
    refine hKQ.out _ _ hs12r ?_
    clear hKQ KQ
    try simp only [Act.put, zA, zB, zC]
    (refine e_takeA 14 (by rfl) ?_ (by kernel_rfl) (fun _ _ _ h => h) hs12r ?_ ?_; rotate_left; (focus (intro wq hSw; have hrd := zG hSw; go_simp; try with_reducible rfl; done)); try simp only [Act.put, zA, zB, zC])
    (refine e_takeA 15 (by rfl) ?_ (by kernel_rfl) (fun _ _ _ h => h) hs12r ?_ ?_; rotate_left; (focus (intro wq hSw; have hrd := zG hSw; go_simp; try with_reducible rfl; done)); try simp only [Act.put, zA, zB, zC])
    refine e_last (by rfl) (by kernel_rfl) (by rfl) (fun KQ hKQ => ?_)
    go_simp
    obtain ⟨hq16, hg16⟩ := blk_store hgb9 1 (.slice A2 ((newR c v N L j).C.length + 1) c2)
    generalize hw10 : w9.setCell ⟨g, 1, none⟩ (.slice A2 ((newR c v N L j).C.length + 1) c2) = w10 at *
    refine hKQ.out _ _ ?_
    clear hKQ KQ
    try simp only [Act.put]
    refine e_done (by kernel_rfl) ?_ _
    try refine NoPanic.normal ?_
    clear hw10
    have hlg6 : g < w6.heap.size := lg
    have hown : ∀ k, (Value.slice A1 j c1).ownBlock = some k → k ≠ g := fun k q => by
      rw [← hl.out] at q
      exact (hV6.ne.2.2.2 k q).1
    have hC10 : Chg w6 w10 (fun k => k = g ∨ (Value.slice A1 (newR c v N L j).C.length c1).ownBlock = some k) := by
      rw [hl.out]
      exact (((Chg.of_below (X := fun k => k = g ∨ (Value.slice A1 j c1).ownBlock = some k) hb7).trans (Chg.of_below (X := fun _ => False) hb8) (fun _ _ q => q.elim)).trans (chg_row hg9) (fun k _ q => .inr q)).trans (Chg.of_grown (X := fun k => k = g) hg16 rfl) (fun k _ q => .inl q)
    have hr10 := rowC_chg (Z := fun k => k = g) hrow9 (Chg.of_grown (X := fun k => k = g) hg16 rfl) (fun k q e => by
      rcases hv9 with y | y
      · exact hown k (y.symm.trans q) e
      · rw [y] at q
        injection q with q
        omega)
    have hlen2 : ((newR c v N L j).C ++ [(⟨c.rise, c.fall, false, 0⟩ : CtV)]).length = j + 1 := by rw [List.length_append, hl.out]; rfl
    have hV6' : RvR w6 (fun k => OwnD g p f (.slice A1 (newR c v N (addR L b.id b.ad b.wt).2 j).C.length c1) k ∨ Z k) (OwnD g p f (.slice A1 (newR c v N (addR L b.id b.ad b.wt).2 j).C.length c1)) g p f A1 c1 (newR c v N (addR L b.id b.ad b.wt).2 j) := hV6
    have hq17 : Blk w10 g 97 (rvC { newR c v N (addR L b.id b.ad b.wt).2 j with C := (newR c v N L j).C ++ [(⟨c.rise, c.fall, false, 0⟩ : CtV)] } p f A2 c2) := by
      unfold rvC
      show Blk w10 g _ (rvA ⟨_, A2, ((newR c v N L j).C ++ [(⟨c.rise, c.fall, false, 0⟩ : CtV)]).length, c2, _, _, _, _⟩ _ _ _ _ _ _ _)
      rw [show ((newR c v N L j).C ++ [(⟨c.rise, c.fall, false, 0⟩ : CtV)]).length = (newR c v N L j).C.length + 1 by simp]
      exact hq16
    have hV10 := hV6'.app hC10 hq17 hr10 (by
      rcases hv9 with y | y
      · exact .inl (by show _ = (Value.slice A1 (newR c v N L j).C.length c1).ownBlock; rw [hl.out]; exact y)
      · exact .inr ⟨_, y, by omega, by
          have hlt := hr10.1.lt _ y
          exact hlt.2⟩) (fun k q => by have := hZg k q; omega)
    have hB10 : Below w.heap.size w w10 := by
      refine below_chg9 (X := fun k => k = g ∨ (Value.slice A1 (newR c v N L j).C.length c1).ownBlock = some k) hB6 hC10 (fun k q => ?_) (Nat.le_refl _)
      rcases q with q | q
      · omega
      · have := hDw.out k (.inr (.inr (.inr q))); omega
    have hq10 := hC10.blk hq6 (fun q => by
      rcases q with q | q
      · omega
      · have := hDw.out _ (.inr (.inr (.inr q))); omega)
    have hCe : (newR c v N L j).C ++ [(⟨c.rise, c.fall, false, 0⟩ : CtV)] = (newR c v N (addR L b.id b.ad b.wt).2 (j + 1)).C := by simp [newR, List.replicate_succ']
    clear hrow hrow7 hrow8 hrow9 hone hgb9 hq16 hq17 hg16 hg9 hS7 hS8 hS9 hr10 hb8 hb7 hk7 h10 c19 f19 lg9 k0 k1 k2 k3 kl c1' f1 lg q6 q7 ql hq6 hB6 hV6 hV6'
    have hD10 : ∀ k, OwnD g p f (.slice A2 ((newR c v N L j).C ++ [(⟨c.rise, c.fall, false, 0⟩ : CtV)]).length c2) k → w.heap.size < k := fun k q => by
      rcases q with q | q | q | q
      · omega
      · omega
      · omega
      · rcases hv9 with y | y
        · rw [y] at q
          rw [← hl.out] at q
          exact hDw.out k (.inr (.inr (.inr q)))
        · rw [y] at q
          injection q with q
          omega
    rw [hCe] at hV10 hD10
    go_wp2_with fail
    refine ⟨⟨j + 1, A2, c2, _, by omega, by go_num, hV10, t2, s1.out, hD10, hq10, hB10⟩, by simp [intOf]; omega⟩
  · obtain rfl : j = v.n := by omega
    rw [List.take_of_length_le (by rw [hL0.1]; exact Nat.le_refl _)] at hrel0
    go_wp2_with fail
    go_ret
    exact ⟨g, _, L, rfl, ⟨p, f, A1, c1, hV⟩, hrel0, fun k q => Nat.le_of_lt (hDw.out k q), hB⟩
end Go.Proofs.YtgdeecmhhbdjgaaGreat
