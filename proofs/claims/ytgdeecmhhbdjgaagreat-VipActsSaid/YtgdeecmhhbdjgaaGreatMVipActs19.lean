import Derived.Test.YtgdeecmhhbdjgaaGreatMVipActs11
import Derived.Test.YtgdeecmhhbdjgaaGreatMVipActs18
import Derived.Test.YtgdeecmhhbdjgaaGreatMVipActs14
import Derived.Test.YtgdeecmhhbdjgaaGreatMVipActs15
import Derived.Test.YtgdeecmhhbdjgaaGreatMVipActs2
/- vip: a vip in plain terms; how it lies; one part of it changed. -/
namespace Go.Proofs.YtgdeecmhhbdjgaaGreat
set_option linter.unusedVariables false
open Go Go.RowKit Go.Maps

structure VpS where
  ad : Int
  on : Bool
  lv : Int
  dF : Int
  dS : Int
  dR : Int
  dC : Int
  dH : Int
  pe : Int
  hd : Bool
  pc : Int
  M : List Mem
  ro : Int
  idl : Int
  now : Int
  n : Nat
  E : List EnV
  ri : Int
  fa : Int
  K : Int → Bool × Int
def cntE (kb : Int → Nat) (i : Int) : Value × Value := (.int .i64 i, .pointer (some ⟨kb i, 0, none⟩))
def idsM (M : List Mem) : List Int := M.map Mem.id
def vpV (s : VpS) (d p f m : Nat) : VpV := ⟨some ⟨d, 0, none⟩, s.ad, 32, some ⟨p, 0, none⟩, some ⟨f, 0, none⟩, some m, s.on, s.lv⟩
structure VipR (w : World) (g d p pb f m : Nat) (XF : Nat → Prop) (kb : Int → Nat) (s : VpS) : Prop where
  blk : Blk w g 62 (vpC (vpV s d p f m))
  dmp : Blk w d 223 (dm.dampCs s.dF s.dS s.dR s.dC s.dH s.pe s.hd)
  pol : PoolIn w p pb s.pc s.M
  flw : TabF w XF f s.ro s.idl s.now s.n s.E
  ent : ∃ A, Ent Tryz.prog 3 w m A ∧ A.Perm ((idsM s.M).map (cntE kb))
  cnt : ∀ i ∈ idsM s.M, Blk w (kb i) 212 (rs.riseCs s.ri s.fa (s.K i).1 (s.K i).2)
  inj : ∀ i ∈ idsM s.M, ∀ j ∈ idsM s.M, kb i = kb j → i = j
  pbm : pb ≠ m
  sep : ∀ k, XF k → k ≠ g ∧ k ≠ d ∧ k ≠ p ∧ k ≠ pb ∧ k ≠ m ∧ ∀ i ∈ idsM s.M, k ≠ kb i
def Foot (g d p pb m : Nat) (XF : Nat → Prop) (kb : Int → Nat) (l : List Int) (k : Nat) : Prop := k = g ∨ k = d ∨ k = p ∨ k = pb ∨ k = m ∨ XF k ∨ ∃ i ∈ l, k = kb i
def VipT (w : World) (X : Nat → Prop) (g : Nat) (s : VpS) : Prop :=
  ∃ d p pb f m XF kb, VipR w g d p pb f m XF kb s ∧ (∀ k, Foot g d p pb m XF kb (idsM s.M) k → X k) ∧ ∀ k, X k → k < w.heap.size
section
variable {w w' : World} {g d p pb f m : Nat} {XF Y X : Nat → Prop} {kb : Int → Nat} {s : VpS}
theorem VipR.ne (h : VipR w g d p pb f m XF kb s) : g ≠ d ∧ g ≠ p ∧ g ≠ pb ∧ g ≠ m ∧ d ≠ p ∧ d ≠ pb ∧ d ≠ m ∧ p ≠ pb ∧ p ≠ m ∧ ∀ i ∈ idsM s.M, kb i ≠ g ∧ kb i ≠ d ∧ kb i ≠ p ∧ kb i ≠ pb ∧ kb i ≠ m := by
  obtain ⟨A, hA, _⟩ := h.ent
  exact ⟨blk_apart h.blk h.dmp (by decide), blk_apart h.blk h.pol.1 (by decide), ent_blk_ne h.pol.2 h.blk, ent_blk_ne hA h.blk, blk_apart h.dmp h.pol.1 (by decide), ent_blk_ne h.pol.2 h.dmp, ent_blk_ne hA h.dmp, ent_blk_ne h.pol.2 h.pol.1, ent_blk_ne hA h.pol.1,
    fun i hi => ⟨blk_apart (h.cnt i hi) h.blk (by decide), blk_apart (h.cnt i hi) h.dmp (by decide), blk_apart (h.cnt i hi) h.pol.1 (by decide), ent_blk_ne h.pol.2 (h.cnt i hi), ent_blk_ne hA (h.cnt i hi)⟩⟩
theorem VipR.lt (h : VipR w g d p pb f m XF kb s) : g < w.heap.size ∧ d < w.heap.size ∧ p < w.heap.size ∧ pb < w.heap.size ∧ m < w.heap.size ∧ (∀ k, XF k → k < w.heap.size) ∧ ∀ i ∈ idsM s.M, kb i < w.heap.size := by
  obtain ⟨A, hA, _⟩ := h.ent
  exact ⟨h.blk.lt, h.dmp.lt, h.pol.ltg, h.pol.ltb, hA.lt, h.flw.good.2.2.2.2, fun i hi => (h.cnt i hi).lt⟩
theorem VipR.keep (h : VipR w g d p pb f m XF kb s) (hc : Chg w w' Y) (hY : ∀ k, Foot g d p pb m XF kb (idsM s.M) k → ¬ Y k) : VipR w' g d p pb f m XF kb s := by
  obtain ⟨A, hA, hP⟩ := h.ent
  have y0 := hY g (.inl rfl)
  have y1 := hY d (.inr (.inl rfl))
  have y2 := hY p (.inr (.inr (.inl rfl)))
  have y3 := hY pb (.inr (.inr (.inr (.inl rfl))))
  have y4 := hY m (.inr (.inr (.inr (.inr (.inl rfl)))))
  exact ⟨hc.blk h.blk y0, hc.blk h.dmp y1, ⟨hc.blk h.pol.1 y2, hc.ent h.pol.2 y3⟩, h.flw.chg hc fun k hk => hY k (.inr (.inr (.inr (.inr (.inr (.inl hk)))))), ⟨A, hc.ent hA y4, hP⟩, fun i hi => hc.blk (h.cnt i hi) (hY _ (.inr (.inr (.inr (.inr (.inr (.inr ⟨i, hi, rfl⟩))))))), h.inj, h.pbm, h.sep⟩
theorem VipR.nx (h : VipR w g d p pb f m XF kb s) (hb : Below w.heap.size w w') : VipR w' g d p pb f m XF kb s := h.keep (Chg.of_below (X := fun _ => False) hb) fun _ _ q => q
theorem VipT.keep (h : VipT w X g s) (hc : Chg w w' Y) (hY : ∀ k, X k → ¬ Y k) : VipT w' X g s := by
  obtain ⟨d, p, pb, f, m, XF, kb, h1, h2, h3⟩ := h
  exact ⟨d, p, pb, f, m, XF, kb, h1.keep hc fun k hk => hY k (h2 k hk), h2, fun k hk => Nat.lt_of_lt_of_le (h3 k hk) hc.size⟩
theorem VipT.nx (h : VipT w X g s) (hb : Below w.heap.size w w') : VipT w' X g s := h.keep (Chg.of_below (X := fun _ => False) hb) fun _ _ q => q
theorem VipT.lt (h : VipT w X g s) : ∀ k, X k → k < w.heap.size := by
  obtain ⟨d, p, pb, f, m, XF, kb, h1, h2, h3⟩ := h
  exact h3
theorem VipR.setG (h : VipR w g d p pb f m XF kb s) (hc : Chg w w' (fun k => k = g)) (on : Bool) (lv : Int) (hb : Blk w' g 62 (vpC (vpV { s with on := on, lv := lv } d p f m))) : VipR w' g d p pb f m XF kb { s with on := on, lv := lv } := by
  obtain ⟨A, hA, hP⟩ := h.ent
  obtain ⟨n1, n2, n3, n4, n5, n6, n7, n8, n9, n10⟩ := h.ne
  exact ⟨hb, hc.blk h.dmp (Ne.symm n1), ⟨hc.blk h.pol.1 (Ne.symm n2), hc.ent h.pol.2 (Ne.symm n3)⟩, h.flw.chg hc fun k hk => (h.sep k hk).1, ⟨A, hc.ent hA (Ne.symm n4), hP⟩, fun i hi => hc.blk (h.cnt i hi) (n10 i hi).1, h.inj, h.pbm, h.sep⟩
theorem VipR.setD (h : VipR w g d p pb f m XF kb s) (hc : Chg w w' (fun k => k = d)) (pe : Int) (hd : Bool) (hb : Blk w' d 223 (dm.dampCs s.dF s.dS s.dR s.dC s.dH pe hd)) : VipR w' g d p pb f m XF kb { s with pe := pe, hd := hd } := by
  obtain ⟨A, hA, hP⟩ := h.ent
  obtain ⟨n1, n2, n3, n4, n5, n6, n7, n8, n9, n10⟩ := h.ne
  exact ⟨hc.blk h.blk n1, hb, ⟨hc.blk h.pol.1 (Ne.symm n5), hc.ent h.pol.2 (Ne.symm n6)⟩, h.flw.chg hc fun k hk => (h.sep k hk).2.1, ⟨A, hc.ent hA (Ne.symm n7), hP⟩, fun i hi => hc.blk (h.cnt i hi) (n10 i hi).2.1, h.inj, h.pbm, h.sep⟩
theorem VipR.setP (h : VipR w g d p pb f m XF kb s) (hc : Chg w w' (fun k => k = pb)) (M : List Mem) (hb : PoolIn w' p pb s.pc M) (hi : idsM M = idsM s.M) : VipR w' g d p pb f m XF kb { s with M := M } := by
  obtain ⟨A, hA, hP⟩ := h.ent
  obtain ⟨n1, n2, n3, n4, n5, n6, n7, n8, n9, n10⟩ := h.ne
  refine ⟨hc.blk h.blk n3, hc.blk h.dmp n6, hb, h.flw.chg hc fun k hk => (h.sep k hk).2.2.2.1, ⟨A, hc.ent hA (Ne.symm h.pbm), ?_⟩, ?_, ?_, h.pbm, ?_⟩ <;> (show _; try simp only [hi])
  · exact hP
  · exact fun i hi => hc.blk (h.cnt i hi) (n10 i hi).2.2.2.1
  · exact h.inj
  · exact h.sep
theorem VipR.setF {XF' : Nat → Prop} (h : VipR w g d p pb f m XF kb s) (hc : Chg w w' XF) (now : Int) (n : Nat) (E : List EnV) (hb : TabF w' XF' f s.ro s.idl now n E) (hX : ∀ k, XF' k → XF k ∨ w.heap.size ≤ k) : VipR w' g d p pb f m XF' kb { s with now := now, n := n, E := E } := by
  obtain ⟨A, hA, hP⟩ := h.ent
  obtain ⟨l1, l2, l3, l4, l5, _, l6⟩ := h.lt
  have q : ∀ k, XF k → k ≠ g ∧ k ≠ d ∧ k ≠ p ∧ k ≠ pb ∧ k ≠ m ∧ ∀ i ∈ idsM s.M, k ≠ kb i := h.sep
  refine ⟨hc.blk h.blk fun x => (q _ x).1 rfl, hc.blk h.dmp fun x => (q _ x).2.1 rfl, ⟨hc.blk h.pol.1 fun x => (q _ x).2.2.1 rfl, hc.ent h.pol.2 fun x => (q _ x).2.2.2.1 rfl⟩, hb, ⟨A, hc.ent hA fun x => (q _ x).2.2.2.2.1 rfl, hP⟩, fun i hi => hc.blk (h.cnt i hi) fun x => (q _ x).2.2.2.2.2 i hi rfl, h.inj, h.pbm, fun k hk => ?_⟩
  rcases hX k hk with x | x
  · exact q k x
  · refine ⟨by omega, by omega, by omega, by omega, by omega, fun i hi => ?_⟩
    have := l6 i hi
    omega
theorem VipR.setK (h : VipR w g d p pb f m XF kb s) {i : Int} (hi : i ∈ idsM s.M) (hc : Chg w w' (fun k => k = kb i)) (u : Bool) (r : Int) (hb : Blk w' (kb i) 212 (rs.riseCs s.ri s.fa u r)) : VipR w' g d p pb f m XF kb { s with K := fun j => if j = i then (u, r) else s.K j } := by
  obtain ⟨A, hA, hP⟩ := h.ent
  obtain ⟨n1, n2, n3, n4, n5, n6, n7, n8, n9, n10⟩ := h.ne
  obtain ⟨k1, k2, k3, k4, k5⟩ := n10 i hi
  refine ⟨hc.blk h.blk (Ne.symm k1), hc.blk h.dmp (Ne.symm k2), ⟨hc.blk h.pol.1 (Ne.symm k3), hc.ent h.pol.2 (Ne.symm k4)⟩, h.flw.chg hc fun k hk => (h.sep k hk).2.2.2.2.2 i hi, ⟨A, hc.ent hA (Ne.symm k5), hP⟩, fun j hj => ?_, h.inj, h.pbm, h.sep⟩
  by_cases e : j = i
  · subst e
    simp only [if_true]
    exact hb
  · simp only [if_neg e]
    exact hc.blk (h.cnt j hj) fun q => e (h.inj j hj i hi q)
theorem VipT.of {w0 : World} (h : VipR w' g d p pb f m XF kb s) {l : List Int} {XG : Nat → Prop} (hl : idsM s.M = l) (hf : ∀ k, Foot g d p pb m XG kb l k → X k) (hX : ∀ k, XF k → XG k) (hlt : ∀ k, X k → k < w0.heap.size) (hz : w0.heap.size ≤ w'.heap.size) : VipT w' X g s :=
  ⟨d, p, pb, f, m, XF, kb, h, fun k hk => hf k (by
    subst hl
    rcases hk with q | q | q | q | q | q | q
    · exact .inl q
    · exact .inr (.inl q)
    · exact .inr (.inr (.inl q))
    · exact .inr (.inr (.inr (.inl q)))
    · exact .inr (.inr (.inr (.inr (.inl q))))
    · exact .inr (.inr (.inr (.inr (.inr (.inl (hX k q))))))
    · exact .inr (.inr (.inr (.inr (.inr (.inr q)))))), fun k hk => Nat.lt_of_lt_of_le (hlt k hk) hz⟩
end
end Go.Proofs.YtgdeecmhhbdjgaaGreat

/- vip: what it tells; Enable, Drain, Weigh. -/
namespace Go.Proofs.YtgdeecmhhbdjgaaGreat
set_option linter.unusedVariables false
open Go Go.RowKit Go.Maps

theorem setR_ids (M : List Mem) (id : Int) (u v : Bool) (z : Int) : idsM (setR M id u v z).2 = idsM M := by
  unfold setR
  cases hf : findF M id with
  | none => rfl
  | some k =>
    obtain ⟨x, hk, he⟩ := findF_get hf
    show (M.set k _).map Mem.id = M.map Mem.id
    rw [List.map_set]
    show (M.map Mem.id).set k id = M.map Mem.id
    refine List.ext_getElem? fun j => ?_
    rw [List.getElem?_set]
    split
    · rename_i e
      subst e
      have hl := (List.getElem?_eq_some_iff.1 hk).1
      rw [if_pos (by simpa using hl), List.getElem?_map, hk]
      simp [he]
    · rfl
theorem mark_ids (M : List Mem) (id : Int) (u : Bool) : idsM (markR M id u).2 = idsM M := setR_ids _ _ _ _ _
theorem drain_ids (M : List Mem) (id : Int) (u : Bool) : idsM (drainR M id u).2 = idsM M := setR_ids _ _ _ _ _
theorem weigh_ids (M : List Mem) (id : Int) (z : Int) : idsM (weighR M id z).2 = idsM M := by
  unfold weighR
  split
  · rfl
  · exact setR_ids _ _ _ _ _
structure GoodV (s : VpS) : Prop where
  dg : dm.goodR s.dF s.dS s.dR s.dC s.dH = true
  pe0 : 0 ≤ s.pe
  pe1 : s.pe ≤ 1000000
  mem : MemsOk s.M
  ri : 1 ≤ s.ri ∧ s.ri ≤ 100
  fa : 1 ≤ s.fa ∧ s.fa ≤ 100
  run : ∀ i ∈ idsM s.M, 0 ≤ (s.K i).2 ∧ (s.K i).2 ≤ 1000
theorem GoodV.F {s : VpS} (h : GoodV s) : 1 ≤ s.dF ∧ s.dF ≤ 100000 := by
  have := of_decide_eq_true h.dg
  exact ⟨this.1, this.2.1⟩
def quoS (s : VpS) : Bool := quoB (sumW soUp s.M) (sumW soAll s.M) s.pc
def srvS (s : VpS) (b : Bool) : Bool := s.on && (quoS s || b)
set_option maxRecDepth 100000 in
set_option maxHeartbeats 4000000 in
theorem vpLevel {w : World} {g d p pb f m : Nat} {XF : Nat → Prop} {kb : Int → Nat} {s : VpS} (h : VipR w g d p pb f m XF kb s) : Calls Tryz.prog 21 #[.pointer (some ⟨g, 0, none⟩)] w fun e w' => e = .returned (.int .i64 s.lv) ∧ w = w' := by
  have c7 : w.cell? ⟨g, 7, none⟩ = some (.int .i64 s.lv) := h.blk.cellv 7 rfl
  have lg := h.lt.1
  go_enter Tryz.func21, Tryz.ntmps21
  go_wp2_with (go_at_call 85; refine (vpMade_yes w g m (vpV s d p f m) rfl h.blk).mono ?_; rintro en w' ⟨rfl, rfl⟩)
  go_ret
  exact ⟨rfl, rfl⟩
set_option maxRecDepth 100000 in
set_option maxHeartbeats 4000000 in
theorem vpEnabled {w : World} {g d p pb f m : Nat} {XF : Nat → Prop} {kb : Int → Nat} {s : VpS} (h : VipR w g d p pb f m XF kb s) : Calls Tryz.prog 26 #[.pointer (some ⟨g, 0, none⟩)] w fun e w' => e = .returned (.bool s.on) ∧ w = w' := by
  have c6 : w.cell? ⟨g, 6, none⟩ = some (.bool s.on) := h.blk.cellv 6 rfl
  have lg := h.lt.1
  go_enter Tryz.func26, Tryz.ntmps26
  go_wp2_with (go_at_call 85; refine (vpMade_yes w g m (vpV s d p f m) rfl h.blk).mono ?_; rintro en w' ⟨rfl, rfl⟩)
  go_ret
  exact ⟨rfl, rfl⟩
set_option maxRecDepth 100000 in
set_option maxHeartbeats 4000000 in
theorem vpPool {w : World} {g d p pb f m : Nat} {XF : Nat → Prop} {kb : Int → Nat} {s : VpS} (h : VipR w g d p pb f m XF kb s) : Calls Tryz.prog 29 #[.pointer (some ⟨g, 0, none⟩)] w fun e w' => e = .returned (.pointer (some ⟨p, 0, none⟩)) ∧ w = w' := by
  have c3 : w.cell? ⟨g, 3, none⟩ = some (.pointer (some ⟨p, 0, none⟩)) := h.blk.cellv 3 rfl
  have lg := h.lt.1
  go_enter Tryz.func29, Tryz.ntmps29
  go_wp2_with (go_at_call 85; refine (vpMade_yes w g m (vpV s d p f m) rfl h.blk).mono ?_; rintro en w' ⟨rfl, rfl⟩)
  go_ret
  exact ⟨rfl, rfl⟩
set_option maxRecDepth 100000 in
set_option maxHeartbeats 4000000 in
theorem vpFlows {w : World} {g d p pb f m : Nat} {XF : Nat → Prop} {kb : Int → Nat} {s : VpS} (h : VipR w g d p pb f m XF kb s) : Calls Tryz.prog 30 #[.pointer (some ⟨g, 0, none⟩)] w fun e w' => e = .returned (.pointer (some ⟨f, 0, none⟩)) ∧ w = w' := by
  have c4 : w.cell? ⟨g, 4, none⟩ = some (.pointer (some ⟨f, 0, none⟩)) := h.blk.cellv 4 rfl
  have lg := h.lt.1
  go_enter Tryz.func30, Tryz.ntmps30
  go_wp2_with (go_at_call 85; refine (vpMade_yes w g m (vpV s d p f m) rfl h.blk).mono ?_; rintro en w' ⟨rfl, rfl⟩)
  go_ret
  exact ⟨rfl, rfl⟩
set_option maxRecDepth 100000 in
set_option maxHeartbeats 4000000 in
theorem vpPrefix {w : World} {g d p pb f m : Nat} {XF : Nat → Prop} {kb : Int → Nat} {s : VpS} (h : VipR w g d p pb f m XF kb s) : Calls Tryz.prog 31 #[.pointer (some ⟨g, 0, none⟩)] w fun e w' => e = .returned (.agg #[.int .u32 s.ad, .int .i64 32]) ∧ Below w.heap.size w w' := by
  have hB := (Below.refl w.heap.size w).alloc (Nat.le_refl _) (.cells #[.int .u32 0, .int .i64 0] 57)
  have hq := Blk.new w 57 #[.int .u32 0, .int .i64 0]
  have h1 := h.nx hB
  have hi : (Tryz.prog.info? 57).map (·.size) = some 2 := by kernel_rfl
  go_enter Tryz.func31, Tryz.ntmps31
  go_upto_region 1 with (fail)
  generalize w.alloc (.cells #[.int .u32 0, .int .i64 0] 57) = w1 at *
  have c1 : w1.cell? ⟨g, 1, none⟩ = some (.int .u32 s.ad) := h1.blk.cellv 1 rfl
  have c2 : w1.cell? ⟨g, 2, none⟩ = some (.int .i64 32) := h1.blk.cellv 2 rfl
  have lg := h1.lt.1
  go_wp2_with (first
    | (go_at_call 85; refine (vpMade_yes w1 g m (vpV s d p f m) rfl h1.blk).mono ?_; rintro en w' ⟨rfl, rfl⟩)
    | (refine wpList_store_blk rfl hq 57 (.tmp 2) (.tmp 10) rfl rfl rfl rfl hi (by simp [Value.oneCell']) ?_; intro w4 hq4 hg4))
  exact bodyPost_ret (results_c rfl _ rfl (load_blk hq4 Tryz.underlying57 rfl hi)) rfl ⟨rfl, below_own hB hg4 hB.size (Nat.le_refl _)⟩
set_option maxRecDepth 100000 in
set_option maxHeartbeats 4000000 in
theorem vpHeld {w : World} {g d p pb f m : Nat} {XF : Nat → Prop} {kb : Int → Nat} {s : VpS} (h : VipR w g d p pb f m XF kb s) (hG : GoodV s) : Calls Tryz.prog 27 #[.pointer (some ⟨g, 0, none⟩)] w fun e w' => e = .returned (.bool s.hd) ∧ w = w' := by
  have c0 : w.cell? ⟨g, 0, none⟩ = some (.pointer (some ⟨d, 0, none⟩)) := h.blk.cellv 0 rfl
  have lg := h.lt.1
  go_enter Tryz.func27, Tryz.ntmps27
  go_wp2_with (first
    | (go_at_call 85; refine (vpMade_yes w g m (vpV s d p f m) rfl h.blk).mono ?_; rintro en w' ⟨rfl, rfl⟩)
    | (go_at_call 96; refine (dm.held_any _ _ _ _ _ _ _ d w hG.F.1 h.dmp).mono ?_; rintro en w' ⟨rfl, rfl⟩))
  go_ret
  exact ⟨rfl, rfl⟩
set_option maxRecDepth 100000 in
set_option maxHeartbeats 4000000 in
theorem vpPenalty {w : World} {g d p pb f m : Nat} {XF : Nat → Prop} {kb : Int → Nat} {s : VpS} (h : VipR w g d p pb f m XF kb s) (hG : GoodV s) : Calls Tryz.prog 22 #[.pointer (some ⟨g, 0, none⟩)] w fun e w' => e = .returned (.int .i64 s.pe) ∧ w = w' := by
  have c0 : w.cell? ⟨g, 0, none⟩ = some (.pointer (some ⟨d, 0, none⟩)) := h.blk.cellv 0 rfl
  have lg := h.lt.1
  go_enter Tryz.func22, Tryz.ntmps22
  go_wp2_with (first
    | (go_at_call 85; refine (vpMade_yes w g m (vpV s d p f m) rfl h.blk).mono ?_; rintro en w' ⟨rfl, rfl⟩)
    | (go_at_call 93; refine (dm.penalty_any _ _ _ _ _ _ _ d w hG.F.1 h.dmp).mono ?_; rintro en w' ⟨rfl, rfl⟩))
  go_ret
  exact ⟨rfl, rfl⟩
set_option maxRecDepth 100000 in
set_option maxHeartbeats 4000000 in
theorem vpServable {w : World} {g d p pb f m : Nat} {XF : Nat → Prop} {kb : Int → Nat} {s : VpS} (h : VipR w g d p pb f m XF kb s) (hG : GoodV s) (b : Bool) : Calls Tryz.prog 28 #[.pointer (some ⟨g, 0, none⟩), .bool b] w fun e w' => e = .returned (.bool (srvS s b)) ∧ Below w.heap.size w w' := by
  have c3 : w.cell? ⟨g, 3, none⟩ = some (.pointer (some ⟨p, 0, none⟩)) := h.blk.cellv 3 rfl
  have lg := h.lt.1
  have hq := pQuorate w p pb s.pc s.M h.pol hG.mem
  have hE := vpEnabled h
  have ev : srvS s b = (s.on && (quoS s || b)) := rfl
  unfold quoS at ev
  generalize quoB (sumW soUp s.M) (sumW soAll s.M) s.pc = q at *
  generalize hon : s.on = on at *
  replace ev := Lib.hid ev
  go_enter Tryz.func28, Tryz.ntmps28
  cases on
  · go_wp2_with (go_at_call 26; refine hE.mono ?_; rintro en w' ⟨rfl, rfl⟩)
    go_ret
    exact ⟨ret_bool ev.out.symm, Below.refl _ _⟩
  · cases q
    · go_wp2_with (first
        | (go_at_call 26; refine hE.mono ?_; rintro en w' ⟨rfl, rfl⟩)
        | (go_at_call 97; refine hq.mono ?_; rintro en w2 ⟨rfl, hb⟩))
      go_ret
      exact ⟨ret_bool ev.out.symm, hb⟩
    · go_wp2_with (first
        | (go_at_call 26; refine hE.mono ?_; rintro en w' ⟨rfl, rfl⟩)
        | (go_at_call 97; refine hq.mono ?_; rintro en w2 ⟨rfl, hb⟩))
      go_ret
      exact ⟨ret_bool ev.out.symm, hb⟩
set_option maxRecDepth 100000 in
set_option maxHeartbeats 4000000 in
theorem vpEnable {w : World} {g d p pb f m : Nat} {XF : Nat → Prop} {kb : Int → Nat} {s : VpS} (h : VipR w g d p pb f m XF kb s) (b : Bool) : Calls Tryz.prog 25 #[.pointer (some ⟨g, 0, none⟩), .bool b] w fun e w' => e = .returned (.bool (s.on != b)) ∧ VipR w' g d p pb f m XF kb { s with on := b } ∧ Chg w w' (fun k => k = g) := by
  have c6 : w.cell? ⟨g, 6, none⟩ = some (.bool s.on) := h.blk.cellv 6 rfl
  have lg := h.lt.1
  have f6 := h.blk.frozen 6
  obtain ⟨h1, g1⟩ := blk_store h.blk 6 (.bool b)
  have hC : Chg w _ (fun k => k = g) := Chg.of_grown (X := fun k => k = g) g1 rfl
  have h2 := Lib.hid (h.setG hC b s.lv h1)
  replace hC := Lib.hid hC
  clear h1 g1
  go_enter Tryz.func25, Tryz.ntmps25
  go_wp2_with (go_at_call 85; refine (vpMade_yes w g m (vpV s d p f m) rfl h.blk).mono ?_; rintro en w' ⟨rfl, rfl⟩)
  go_ret
  exact ⟨rfl, h2.out, hC.out⟩
set_option maxRecDepth 100000 in
set_option maxHeartbeats 4000000 in
theorem vpDrain {w : World} {g d p pb f m : Nat} {XF : Nat → Prop} {kb : Int → Nat} {s : VpS} (h : VipR w g d p pb f m XF kb s) (hG : GoodV s) (i : Int) (b : Bool) (r0 : -9223372036854775808 ≤ i) (r1 : i ≤ 9223372036854775807) : Calls Tryz.prog 23 #[.pointer (some ⟨g, 0, none⟩), .int .i64 i, .bool b] w fun e w' => e = .returned (.int .i64 (drainR s.M i b).1) ∧ VipR w' g d p pb f m XF kb { s with M := (drainR s.M i b).2 } ∧ Chg w w' (fun k => k = pb) := by
  have c3 : w.cell? ⟨g, 3, none⟩ = some (.pointer (some ⟨p, 0, none⟩)) := h.blk.cellv 3 rfl
  have lg := h.lt.1
  go_enter Tryz.func23, Tryz.ntmps23
  go_wp2_with (first
    | (go_at_call 85; refine (vpMade_yes w g m (vpV s d p f m) rfl h.blk).mono ?_; rintro en w' ⟨rfl, rfl⟩)
    | (go_at_call 94; refine (pDrainS w p pb s.pc s.M h.pol i r0 r1 b).mono ?_; rintro en w2 ⟨rfl, hP, hg⟩))
  have hC : Chg w w2 (fun k => k = pb) := Chg.of_grown (X := fun k => k = pb) hg rfl
  go_ret
  exact ⟨rfl, h.setP hC _ hP (drain_ids _ _ _), hC⟩
set_option maxRecDepth 100000 in
set_option maxHeartbeats 4000000 in
theorem vpWeigh {w : World} {g d p pb f m : Nat} {XF : Nat → Prop} {kb : Int → Nat} {s : VpS} (h : VipR w g d p pb f m XF kb s) (hG : GoodV s) (i : Int) (z : Int) (r0 : -9223372036854775808 ≤ i) (r1 : i ≤ 9223372036854775807) : Calls Tryz.prog 24 #[.pointer (some ⟨g, 0, none⟩), .int .i64 i, .int .i64 z] w fun e w' => e = .returned (.int .i64 (weighR s.M i z).1) ∧ VipR w' g d p pb f m XF kb { s with M := (weighR s.M i z).2 } ∧ Chg w w' (fun k => k = pb) := by
  have c3 : w.cell? ⟨g, 3, none⟩ = some (.pointer (some ⟨p, 0, none⟩)) := h.blk.cellv 3 rfl
  have lg := h.lt.1
  go_enter Tryz.func24, Tryz.ntmps24
  go_wp2_with (first
    | (go_at_call 85; refine (vpMade_yes w g m (vpV s d p f m) rfl h.blk).mono ?_; rintro en w' ⟨rfl, rfl⟩)
    | (go_at_call 95; refine (pWeighS w p pb s.pc s.M h.pol i r0 r1 z).mono ?_; rintro en w2 ⟨rfl, hP, hg⟩))
  have hC : Chg w w2 (fun k => k = pb) := Chg.of_grown (X := fun k => k = pb) hg rfl
  go_ret
  exact ⟨rfl, h.setP hC _ hP (weigh_ids _ _ _), hC⟩
end Go.Proofs.YtgdeecmhhbdjgaaGreat

/- vip: the level that it is to have; Look, Tick, Result. -/
namespace Go.Proofs.YtgdeecmhhbdjgaaGreat
set_option linter.unusedVariables false
open Go Go.RowKit Go.Maps

def flapS (s : VpS) : VpS := { s with pe := dm.lowest (s.pe + s.dF) s.dC, hd := s.hd || decide (s.dS ≤ dm.lowest (s.pe + s.dF) s.dC) }
def tickD (s : VpS) : VpS := { s with pe := dm.decay s.pe s.dH, hd := s.hd && decide (s.dR < dm.decay s.pe s.dH) }
def wantS (s : VpS) (b : Bool) : Int := if srvS s b = false then 0 else if s.hd = true then 0 else if quoS s = true then 1 else 2
def lookS (s : VpS) (b : Bool) : VpS := if s.lv ≠ 0 ∧ wantS s b = 0 then { flapS s with lv := wantS s b } else { s with lv := wantS s b }
def tickS (s : VpS) (b : Bool) : VpS := lookS (tickD s) b
def noteK (ri fa : Int) (k : Bool × Int) (ok : Bool) : Bool × Bool × Int :=
  if ok = k.1 then (false, k.1, 0) else if rs.needs ri fa k.1 ≤ k.2 + 1 then (true, !k.1, 0) else (false, k.1, k.2 + 1)
def putK (K : Int → Bool × Int) (i : Int) (q : Bool × Int) : Int → Bool × Int := fun j => if j = i then (q.1, q.2) else K j
def resS (s : VpS) (i : Int) (ok : Bool) : Bool × VpS :=
  if i ∈ idsM s.M then
    (if (noteK s.ri s.fa (s.K i) ok).1 = true then
      (true, { s with K := putK s.K i (noteK s.ri s.fa (s.K i) ok).2, M := (markR s.M i (noteK s.ri s.fa (s.K i) ok).2.1).2, E := if (noteK s.ri s.fa (s.K i) ok).2.1 = true then s.E else s.E.filter fun x => !(soB i x) })
    else (false, { s with K := putK s.K i (noteK s.ri s.fa (s.K i) ok).2 }))
  else (false, s)
theorem noteC_any (ri fa : Int) (k : Bool × Int) (ok : Bool) (g : Nat) (w : World) (hr : 0 < ri) (h0 : 0 ≤ k.2) (h1 : k.2 ≤ 1000) (hb : Blk w g 212 (rs.riseCs ri fa k.1 k.2)) :
    Calls Tryz.prog 86 #[.pointer (some ⟨g, 0, none⟩), .bool ok] w fun e w' => e = .returned (.bool (noteK ri fa k ok).1) ∧ Blk w' g 212 (rs.riseCs ri fa (noteK ri fa k ok).2.1 (noteK ri fa k ok).2.2) ∧ w.grownBy w' (some g) := by
  unfold noteK
  by_cases h : ok = k.1
  · rw [if_pos h, h]
    exact rs.note_same ri fa k.2 k.1 g w hr hb
  · rw [if_neg h]
    have hk : ok = !k.1 := by cases ok <;> cases hu : k.1 <;> simp_all
    by_cases c : rs.needs ri fa k.1 ≤ k.2 + 1
    · rw [if_pos c]
      exact rs.note_yes ri fa k.2 k.1 ok g w hr hk h0 h1 hb c
    · rw [if_neg c]
      exact rs.note_no ri fa k.2 k.1 ok g w hr hk h0 h1 hb (by omega)
set_option maxRecDepth 100000 in
set_option maxHeartbeats 8000000 in
theorem wanted1 {w : World} {g d p pb f m : Nat} {XF : Nat → Prop} {kb : Int → Nat} {s : VpS} (h : VipR w g d p pb f m XF kb s) (hG : GoodV s) (b : Bool) (x y : Nat) (hx : Blk w x 63 #[.pointer (some ⟨g, 0, none⟩)]) (hy : Blk w y 4 #[.bool b]) : Calls Tryz.prog 177 #[.pointer (some ⟨x, 0, none⟩), .pointer (some ⟨y, 0, none⟩)] w fun e w' => e = .returned (.bool (!(srvS s b))) ∧ Below w.heap.size w w' := by
  have c0 : w.cell? ⟨x, 0, none⟩ = some (.pointer (some ⟨g, 0, none⟩)) := hx.cellv 0 rfl
  have c1 : w.cell? ⟨y, 0, none⟩ = some (.bool b) := hy.cellv 0 rfl
  have lx := hx.lt
  have ly := hy.lt
  go_enter Tryz.func177, Tryz.ntmps177
  go_wp2_with (go_at_call 28; refine (vpServable h hG b).mono ?_; rintro en w' ⟨rfl, hb⟩)
  go_ret
  exact ⟨rfl, hb⟩
set_option maxRecDepth 100000 in
set_option maxHeartbeats 8000000 in
theorem vpWanted {w : World} {g d p pb f m : Nat} {XF : Nat → Prop} {kb : Int → Nat} {s : VpS} (h : VipR w g d p pb f m XF kb s) (hG : GoodV s) (b : Bool) : Calls Tryz.prog 91 #[.pointer (some ⟨g, 0, none⟩), .bool b] w fun e w' => e = .returned (.int .i64 (wantS s b)) ∧ Below w.heap.size w w' := by
  have hB := ((Below.refl w.heap.size w).alloc (Nat.le_refl _) (.cells #[.pointer (some ⟨g, 0, none⟩)] 63)).alloc (by simp) (.cells #[.bool b] 4)
  have hx := (Blk.new w 63 #[.pointer (some ⟨g, 0, none⟩)]).alloc (.cells #[.bool b] 4)
  have hy := Blk.new (w.alloc (.cells #[.pointer (some ⟨g, 0, none⟩)] 63)) 4 #[.bool b]
  rw [show (w.alloc (.cells #[.pointer (some ⟨g, 0, none⟩)] 63)).heap.size = w.heap.size + 1 by simp] at hy
  go_enter Tryz.func91, Tryz.ntmps91
  go_upto_region 1 with (fail)
  generalize (w.alloc (.cells #[.pointer (some ⟨g, 0, none⟩)] 63)).alloc (.cells #[.bool b] 4) = w1 at *
  have h1 := h.nx hB
  have c0 : w1.cell? ⟨w.heap.size, 0, none⟩ = some (.pointer (some ⟨g, 0, none⟩)) := hx.cellv 0 rfl
  have g2 : w1.cell? ⟨g, 3, none⟩ = some (.pointer (some ⟨p, 0, none⟩)) := h1.blk.cellv 3 rfl
  have lx := hx.lt
  have ly := hy.lt
  have lg := h1.lt.1
  have hi6 : (Tryz.prog.info? 226).map (·.size) = some 6 := by kernel_rfl
  have hi2 : (Tryz.prog.info? 225).map (·.size) = some 2 := by kernel_rfl
  try refine wp_region_noPanic ?_
  have hs1r : Below w1.heap.size w1 w1.drew := (Below.refl _ _).drew
  refine wp_region_E 13 (S := fun w' => Below w1.heap.size w1 w') (by kernel_rfl) hs1r (fun _ => ?_)
  (refine e_takeA 0 (by rfl) ?_ (by kernel_rfl) (fun _ _ _ h => h) hs1r ?_ ?_; rotate_left; (focus (intro wq hSw; have hrd := zR hSw; go_simp; try with_reducible rfl; done)); try simp only [Act.put, zA, zB, zC])
  (refine e_takeA 1 (by rfl) ?_ (by kernel_rfl) (fun _ _ _ h => h) hs1r ?_ ?_; rotate_left; (focus (intro wq hSw; have hrd := zR hSw; go_simp; try with_reducible rfl; done)); try simp only [Act.put, zA, zB, zC])
  (refine e_takeA 2 (by rfl) ?_ (by kernel_rfl) (fun _ _ _ h => h) hs1r ?_ ?_; rotate_left; (focus (intro wq hSw; have hrd := zR hSw; go_simp; try with_reducible rfl; done)); try simp only [Act.put, zA, zB, zC])
  (refine e_takeA 3 (by rfl) ?_ (by kernel_rfl) (fun _ _ _ h => h) hs1r ?_ ?_; rotate_left; (focus (intro wq hSw; have hrd := zR hSw; go_simp; try with_reducible rfl; done)); try simp only [Act.put, zA, zB, zC])
  (refine e_takeA 4 (by rfl) ?_ (by kernel_rfl) (fun _ _ _ h => h) hs1r ?_ ?_; rotate_left; (focus (intro wq hSw; have hrd := zR hSw; go_simp; try with_reducible rfl; done)); try simp only [Act.put, zA, zB, zC])
  (refine e_takeA 5 (by rfl) ?_ (by kernel_rfl) (fun _ _ _ h => h) hs1r ?_ ?_; rotate_left; (focus (intro wq hSw; have hrd := zR hSw; go_simp; try with_reducible rfl; done)); try simp only [Act.put, zA, zB, zC])
  (refine e_takeA 6 (by rfl) ?_ (by kernel_rfl) (fun _ _ _ h => h) hs1r ?_ ?_; rotate_left; (focus (intro wq hSw; have hrd := zR hSw; go_simp; try with_reducible rfl; done)); try simp only [Act.put, zA, zB, zC])
  (refine e_takeA 7 (by rfl) ?_ (by kernel_rfl) (fun _ _ _ h => h) hs1r ?_ ?_; rotate_left; (focus (intro wq hSw; have hrd := zR hSw; go_simp; try with_reducible rfl; done)); try simp only [Act.put, zA, zB, zC])
  (refine e_takeA 8 (by rfl) ?_ (by kernel_rfl) (fun _ _ _ h => h) hs1r ?_ ?_; rotate_left; (focus (intro wq hSw; have hrd := zR hSw; go_simp; try with_reducible rfl; done)); try simp only [Act.put, zA, zB, zC])
  (refine e_takeA 9 (by rfl) ?_ (by kernel_rfl) (fun _ _ _ h => h) hs1r ?_ ?_; rotate_left; (focus (intro wq hSw; have hrd := zR hSw; go_simp; try with_reducible rfl; done)); try simp only [Act.put, zA, zB, zC])
  (refine e_takeA 10 (by rfl) ?_ (by kernel_rfl) (fun _ _ _ h => h) hs1r ?_ ?_; rotate_left; (focus (intro wq hSw; have hrd := zR hSw; go_simp; try with_reducible rfl; done)); try simp only [Act.put, zA, zB, zC])
  (refine e_takeA 11 (by rfl) ?_ (by kernel_rfl) (fun _ _ _ h => h) hs1r ?_ ?_; rotate_left; (focus (intro wq hSw; have hrd := zR hSw; go_simp; try with_reducible rfl; done)); try simp only [Act.put, zA, zB, zC])
  refine e_callA 12 (by rfl) (by kernel_rfl) (by rfl) (fun KQ hKQ => ?_)
  go_simp
  have hb2 := (Below.refl w1.heap.size w1).drew.alloc (Nat.le_refl _) (.cells #[.nilFunc, .int .i64 0, .nilFunc, .int .i64 0, .nilFunc, .int .i64 0] 226)
  have hr2 := Blk.new w1.drew 226 #[.nilFunc, .int .i64 0, .nilFunc, .int .i64 0, .nilFunc, .int .i64 0]
  have hd : (w1.alloc (.cells #[.nilFunc, .int .i64 0, .nilFunc, .int .i64 0, .nilFunc, .int .i64 0] 226)).drew = w1.drew.alloc (.cells #[.nilFunc, .int .i64 0, .nilFunc, .int .i64 0, .nilFunc, .int .i64 0] 226) := rfl
  try rw [hd]
  have hzz : w1.drew.heap.size = w1.heap.size := rfl
  rw [hzz] at hr2
  generalize w1.drew.alloc (.cells #[.nilFunc, .int .i64 0, .nilFunc, .int .i64 0, .nilFunc, .int .i64 0] 226) = w2 at *
  clear hd hzz
  have hs2r := hb2
  refine hKQ.out _ _ hs2r ?_
  clear hKQ KQ
  try simp only [Act.put, zA, zB, zC]
  refine e_last (by rfl) (by kernel_rfl) (by rfl) (fun KQ hKQ => ?_)
  refine wp_store_blk hr2 226 (.tmp 5) (.tmp 19) (by rfl) (by rfl) (by rfl) (by rfl) (by exact hi6) (by simp [Value.oneCell']) ?_
  intro w3 hr3 hg3
  refine hKQ.out _ _ ?_
  clear hKQ KQ
  try simp only [Act.put]
  refine e_done (by kernel_rfl) ?_ _
  try refine NoPanic.normal ?_
  have hb3 := hb2.trans (Below.of_grown (B := w1.heap.size) hg3 hb2.size (Nat.le_refl _))
  have h3 := h1.nx hb3
  have hx3 := hx.below hb3 hx.lt
  have hy3 := hy.below hb3 hy.lt
  have hB3 := hB.trans (hb3.mono hB.size)
  clear hr2 hg3 hb2 hb3 c0 g2 lx ly lg h1 hx hy hB hs1r
  generalize w1.heap.size = a0 at *
  go_upto_region 3 with (refine wpList_load_blk rfl hr3 226 (.tmp 5) rfl rfl Tryz.underlying226 rfl hi6 ?_)
  clear hr3
  refine wp_loop_rounds 4 ?_
  change Code.rounds _ _ _ _ _ w3
  rw [rounds_succ]
  have i0 : ∀ (x0 x1 x2 x3 x4 x5 : Value) (w : World), (Instr.index 226 (.agg #[x0, x1, x2, x3, x4, x5]) (.int .i64 0)).run Tryz.prog w = .ok (.agg #[x0, x1]) w := fun _ _ _ _ _ _ _ => by kernel_rfl
  have hfr := Blk.new w3 225 #[.nilFunc, .int .i64 0]
  have hbx := (Below.refl w3.heap.size w3).alloc (Nat.le_refl _) (.cells #[.nilFunc, .int .i64 0] 225)
  go_upto_region 5 with (refine wpList_store_blk rfl hfr 225 (.tmp 7) (.tmp 23) rfl rfl rfl rfl hi2 (by simp [Value.oneCell']) ?_; intro v0 hv0 hg0)
  replace hbx := hbx.trans (Below.of_grown (B := w3.heap.size) hg0 hbx.size (Nat.le_refl _))
  replace h3 := h3.nx hbx
  replace hx3 := hx3.below hbx hx3.lt
  replace hy3 := hy3.below hbx hy3.lt
  replace hB3 := hB3.trans (hbx.mono hB3.size)
  clear i0 hfr hg0 hbx
  generalize w3.heap.size = a1 at *
  have s0 : v0.cell? ⟨a1, 0, none⟩ = some (.func (.func 177) #[] #[.pointer (some ⟨w.heap.size, 0, none⟩), .pointer (some ⟨w.heap.size + 1, 0, none⟩)]) := hv0.cellv 0 rfl
  have s1 : v0.cell? ⟨a1, 1, none⟩ = some (.int .i64 0) := hv0.cellv 1 rfl
  have sl := hv0.lt
  by_cases e0 : srvS s b = false
  · have ev := Lib.hid (show wantS s b = 0 by unfold wantS; rw [if_pos e0])
    have q0 := wanted1 h3 hG b _ _ hx3 hy3
    skip
    rw [e0] at q0
    go_wp2_with (go_at_call 177; refine q0.mono ?_; rintro en u0 ⟨rfl, hb⟩; have s1 := (hv0.below hb hv0.lt).cellv 1 (v := .int .i64 0) rfl; have sl := (hv0.below hb hv0.lt).lt)
    go_ret
    rw [ev.out]
    exact ⟨rfl, hB3.trans (hb.mono hB3.size)⟩
  replace e0 : srvS s b = true := by simpa using e0
  have q0 := wanted1 h3 hG b _ _ hx3 hy3
  skip
  rw [e0] at q0
  replace e0 := Lib.hid e0
  go_wp2_with (go_at_call 177; refine q0.mono ?_; rintro en u0 ⟨rfl, hb⟩)
  replace h3 := h3.nx hb
  replace hx3 := hx3.below hb hx3.lt
  replace hy3 := hy3.below hb hy3.lt
  replace hB3 := hB3.trans (hb.mono hB3.size)
  clear hb
  clear q0 s0 s1 sl hv0
  rw [rounds_succ]
  have i1 : ∀ (x0 x1 x2 x3 x4 x5 : Value) (w : World), (Instr.index 226 (.agg #[x0, x1, x2, x3, x4, x5]) (.int .i64 1)).run Tryz.prog w = .ok (.agg #[x2, x3]) w := fun _ _ _ _ _ _ _ => by kernel_rfl
  have hfr := Blk.new u0 225 #[.nilFunc, .int .i64 0]
  have hbx := (Below.refl u0.heap.size u0).alloc (Nat.le_refl _) (.cells #[.nilFunc, .int .i64 0] 225)
  go_upto_region 5 with (refine wpList_store_blk rfl hfr 225 (.tmp 7) (.tmp 23) rfl rfl rfl rfl hi2 (by simp [Value.oneCell']) ?_; intro v1 hv1 hg1)
  replace hbx := hbx.trans (Below.of_grown (B := u0.heap.size) hg1 hbx.size (Nat.le_refl _))
  replace h3 := h3.nx hbx
  replace hx3 := hx3.below hbx hx3.lt
  replace hy3 := hy3.below hbx hy3.lt
  replace hB3 := hB3.trans (hbx.mono hB3.size)
  clear i1 hfr hg1 hbx
  generalize u0.heap.size = a2 at *
  have s0 : v1.cell? ⟨a2, 0, none⟩ = some (.func (.func 27) #[.pointer (some ⟨g, 0, none⟩)] #[]) := hv1.cellv 0 rfl
  have s1 : v1.cell? ⟨a2, 1, none⟩ = some (.int .i64 0) := hv1.cellv 1 rfl
  have sl := hv1.lt
  by_cases e1 : s.hd = true
  · have ev := Lib.hid (show wantS s b = 0 by unfold wantS; rw [if_neg (by rw [e0.out]; decide), if_pos e1])
    have q1 := vpHeld h3 hG
    skip
    rw [e1] at q1
    go_wp2_with (go_at_call 27; refine q1.mono ?_; rintro en u1 ⟨rfl, rfl⟩)
    go_ret
    rw [ev.out]
    exact ⟨rfl, hB3⟩
  replace e1 : s.hd = false := by simpa using e1
  have q1 := vpHeld h3 hG
  skip
  rw [e1] at q1
  replace e1 := Lib.hid e1
  go_wp2_with (go_at_call 27; refine q1.mono ?_; rintro en u1 ⟨rfl, rfl⟩)
  clear q1 s0 s1 sl hv1
  rw [rounds_succ]
  have i2 : ∀ (x0 x1 x2 x3 x4 x5 : Value) (w : World), (Instr.index 226 (.agg #[x0, x1, x2, x3, x4, x5]) (.int .i64 2)).run Tryz.prog w = .ok (.agg #[x4, x5]) w := fun _ _ _ _ _ _ _ => by kernel_rfl
  have hfr := Blk.new v1 225 #[.nilFunc, .int .i64 0]
  have hbx := (Below.refl v1.heap.size v1).alloc (Nat.le_refl _) (.cells #[.nilFunc, .int .i64 0] 225)
  go_upto_region 5 with (refine wpList_store_blk rfl hfr 225 (.tmp 7) (.tmp 23) rfl rfl rfl rfl hi2 (by simp [Value.oneCell']) ?_; intro v2 hv2 hg2)
  replace hbx := hbx.trans (Below.of_grown (B := v1.heap.size) hg2 hbx.size (Nat.le_refl _))
  replace h3 := h3.nx hbx
  replace hx3 := hx3.below hbx hx3.lt
  replace hy3 := hy3.below hbx hy3.lt
  replace hB3 := hB3.trans (hbx.mono hB3.size)
  clear i2 hfr hg2 hbx
  generalize v1.heap.size = a3 at *
  have s0 : v2.cell? ⟨a3, 0, none⟩ = some (.func (.func 97) #[.pointer (some ⟨p, 0, none⟩)] #[]) := hv2.cellv 0 rfl
  have s1 : v2.cell? ⟨a3, 1, none⟩ = some (.int .i64 1) := hv2.cellv 1 rfl
  have sl := hv2.lt
  have hq : quoB (sumW soUp s.M) (sumW soAll s.M) s.pc = quoS s := rfl
  by_cases e2 : quoS s = true
  · have ev := Lib.hid (show wantS s b = 1 by unfold wantS; rw [if_neg (by rw [e0.out]; decide), if_neg (by rw [e1.out]; decide), if_pos e2])
    have q2 := pQuorate v2 p pb s.pc s.M h3.pol hG.mem
    rw [hq] at q2
    rw [e2] at q2
    go_wp2_with (go_at_call 97; refine q2.mono ?_; rintro en u2 ⟨rfl, hb⟩; have s1 := (hv2.below hb hv2.lt).cellv 1 (v := .int .i64 1) rfl; have sl := (hv2.below hb hv2.lt).lt)
    go_ret
    rw [ev.out]
    exact ⟨rfl, hB3.trans (hb.mono hB3.size)⟩
  replace e2 : quoS s = false := by simpa using e2
  have q2 := pQuorate v2 p pb s.pc s.M h3.pol hG.mem
  rw [hq] at q2
  rw [e2] at q2
  replace e2 := Lib.hid e2
  go_wp2_with (go_at_call 97; refine q2.mono ?_; rintro en u2 ⟨rfl, hb⟩)
  replace h3 := h3.nx hb
  replace hx3 := hx3.below hb hx3.lt
  replace hy3 := hy3.below hb hy3.lt
  replace hB3 := hB3.trans (hb.mono hB3.size)
  clear hb
  clear q2 s0 s1 sl hv2
  rw [rounds_succ]
  have ev := Lib.hid (show wantS s b = 2 by unfold wantS; rw [if_neg (by rw [e0.out]; decide), if_neg (by rw [e1.out]; decide), if_neg (by rw [e2.out]; decide)])
  go_wp2_with fail
  go_ret
  rw [ev.out]
  exact ⟨rfl, hB3⟩
end Go.Proofs.YtgdeecmhhbdjgaaGreat

/- vip: Look, Tick, Result. -/
namespace Go.Proofs.YtgdeecmhhbdjgaaGreat
set_option linter.unusedVariables false
open Go Go.RowKit Go.Maps

theorem GoodV.tick {s : VpS} (h : GoodV s) : GoodV (tickD s) :=
  ⟨h.dg, dm.decay_lo _ _, Int.le_trans (dm.decay_le _ _ h.pe0) h.pe1, h.mem, h.ri, h.fa, h.run⟩
set_option maxRecDepth 100000 in
set_option maxHeartbeats 8000000 in
theorem vpLook {w : World} {g d p pb f m : Nat} {XF : Nat → Prop} {kb : Int → Nat} {s : VpS} (h : VipR w g d p pb f m XF kb s) (hG : GoodV s) (b : Bool) : Calls Tryz.prog 20 #[.pointer (some ⟨g, 0, none⟩), .bool b] w fun e w' => e = .returned (.int .i64 (wantS s b)) ∧ VipR w' g d p pb f m XF kb (lookS s b) ∧ Chg w w' (fun k => k = g ∨ k = d) := by
  have hW := vpWanted h hG b
  obtain ⟨to, hto⟩ : ∃ to, wantS s b = to := ⟨_, rfl⟩
  rw [hto] at hW ⊢
  go_enter Tryz.func20, Tryz.ntmps20
  go_upto_region 4 with (first
    | (go_at_call 85; refine (vpMade_yes w g m (vpV s d p f m) rfl h.blk).mono ?_; rintro en w' ⟨rfl, rfl⟩)
    | (go_at_call 91; refine hW.mono ?_; rintro en w2 ⟨rfl, hb⟩))
  clear hW
  have h2 := h.nx hb
  have hC2 : Chg w w2 (fun k => k = g ∨ k = d) := Chg.of_below hb
  clear h hb
  have c0 : w2.cell? ⟨g, 0, none⟩ = some (.pointer (some ⟨d, 0, none⟩)) := h2.blk.cellv 0 rfl
  have c7 : w2.cell? ⟨g, 7, none⟩ = some (.int .i64 s.lv) := h2.blk.cellv 7 rfl
  have lg := h2.lt.1
  by_cases z1 : s.lv = 0
  · have eL := Lib.hid (show lookS s b = { s with lv := to } by unfold lookS; rw [hto, if_neg (fun q => q.1 z1)])
    have d1 : (s.lv != 0) = false := by simpa using z1
    replace z1 := Lib.hid z1
    replace hto := Lib.hid hto
    go_upto_region 6 with (fail)
    clear c0
    have f7 := h2.blk.frozen 7
    have lg := h2.lt.1
    obtain ⟨h4, g4⟩ := blk_store h2.blk 7 (.int .i64 to)
    have hC4 : Chg w2 _ (fun k => k = g) := Chg.of_grown (X := fun k => k = g) g4 rfl
    have h5 := Lib.hid (h2.setG hC4 s.on to h4)
    replace hC4 := Lib.hid hC4
    clear h4 g4
    go_wp2_with fail
    go_ret
    rw [eL.out]
    exact ⟨rfl, h5.out, hC2.trans hC4.out fun _ _ q => .inl q⟩
  · have d1 : (s.lv != 0) = true := by simpa using z1
    by_cases z2 : to = 0
    · have eL := Lib.hid (show lookS s b = { flapS s with lv := to } by unfold lookS; rw [hto, if_pos ⟨z1, z2⟩])
      replace hto := Lib.hid hto
      subst z2
      replace z1 := Lib.hid z1
      go_upto_region 6 with (go_at_call 92; refine (dm.flap_any _ _ _ _ _ _ _ d w2 hG.F.1 hG.F.2 hG.pe0 hG.pe1 h2.dmp).mono ?_; rintro en w3 ⟨rfl, hd3, hg3⟩)
      have hC3 : Chg w2 w3 (fun k => k = d) := Chg.of_grown (X := fun k => k = d) hg3 rfl
      have h3 := h2.setD hC3 _ _ hd3
      clear c0 c7 d1 hd3 hg3 lg
      have c7 : w3.cell? ⟨g, 7, none⟩ = some (.int .i64 s.lv) := h3.blk.cellv 7 rfl
      have f7 := h3.blk.frozen 7
      have lg := h3.lt.1
      obtain ⟨h4, g4⟩ := blk_store h3.blk 7 (.int .i64 0)
      have hC4 : Chg w3 _ (fun k => k = g) := Chg.of_grown (X := fun k => k = g) g4 rfl
      have h5 := Lib.hid (h3.setG hC4 s.on 0 h4)
      replace hC4 := Lib.hid hC4
      clear h4 g4
      go_wp2_with fail
      go_ret
      rw [eL.out]
      exact ⟨rfl, h5.out, (hC2.trans hC3 fun _ _ q => .inr q).trans hC4.out fun _ _ q => .inl q⟩
    · have eL := Lib.hid (show lookS s b = { s with lv := to } by unfold lookS; rw [hto, if_neg (fun q => z2 q.2)])
      have d2 : (to == 0) = false := by simpa using z2
      replace z1 := Lib.hid z1
      replace z2 := Lib.hid z2
      replace hto := Lib.hid hto
      go_upto_region 6 with (fail)
      clear c0
      have f7 := h2.blk.frozen 7
      have lg := h2.lt.1
      obtain ⟨h4, g4⟩ := blk_store h2.blk 7 (.int .i64 to)
      have hC4 : Chg w2 _ (fun k => k = g) := Chg.of_grown (X := fun k => k = g) g4 rfl
      have h5 := Lib.hid (h2.setG hC4 s.on to h4)
      replace hC4 := Lib.hid hC4
      clear h4 g4
      go_wp2_with fail
      go_ret
      rw [eL.out]
      exact ⟨rfl, h5.out, hC2.trans hC4.out fun _ _ q => .inl q⟩
set_option maxRecDepth 100000 in
set_option maxHeartbeats 8000000 in
theorem vpTick {w : World} {g d p pb f m : Nat} {XF : Nat → Prop} {kb : Int → Nat} {s : VpS} (h : VipR w g d p pb f m XF kb s) (hG : GoodV s) (b : Bool) : Calls Tryz.prog 19 #[.pointer (some ⟨g, 0, none⟩), .bool b] w fun e w' => e = .returned (.int .i64 (wantS (tickD s) b)) ∧ VipR w' g d p pb f m XF kb (tickS s b) ∧ Chg w w' (fun k => k = g ∨ k = d) := by
  have c0 : w.cell? ⟨g, 0, none⟩ = some (.pointer (some ⟨d, 0, none⟩)) := h.blk.cellv 0 rfl
  have lg := h.lt.1
  go_enter Tryz.func19, Tryz.ntmps19
  go_upto_region 4 with (first
    | (go_at_call 85; refine (vpMade_yes w g m (vpV s d p f m) rfl h.blk).mono ?_; rintro en w' ⟨rfl, rfl⟩)
    | (go_at_call 90; refine (dm.tick_any _ _ _ _ _ _ _ d w hG.F.1 hG.pe0 hG.pe1 h.dmp).mono ?_; rintro en w2 ⟨rfl, hd2, hg2⟩))
  have hC2 : Chg w w2 (fun k => k = d) := Chg.of_grown (X := fun k => k = d) hg2 rfl
  have h2 : VipR w2 g d p pb f m XF kb (tickD s) := h.setD hC2 _ _ hd2
  clear c0 lg hd2 hg2 h
  go_wp2_with (go_at_call 20; refine (vpLook h2 hG.tick b).mono ?_; rintro en w3 ⟨rfl, h3, hC3⟩)
  go_ret
  exact ⟨rfl, h3, (hC2.mono (Y := fun k => k = g ∨ k = d) fun _ _ q => .inr q).trans hC3 fun _ _ q => q⟩
theorem cptr_zero (w : World) : (zeroValue 159).run Tryz.prog w = .ok (.pointer none) w := by kernel_rfl
theorem cnt_at {ids : List Int} {kb : Int → Nat} {A : List (Value × Value)} (hP : A.Perm (ids.map (cntE kb))) {i : Int} (hi : i ∈ ids) : (.int .i64 i, .pointer (some ⟨kb i, 0, none⟩)) ∈ A := hP.mem_iff.2 (List.mem_map.2 ⟨i, hi, rfl⟩)
theorem cnt_no {ids : List Int} {kb : Int → Nat} {A : List (Value × Value)} (hP : A.Perm (ids.map (cntE kb))) {i : Int} (hi : i ∉ ids) : (Value.int .i64 i) ∉ A.map Prod.fst := by
  intro hm
  obtain ⟨x, hx, e⟩ := List.mem_map.1 hm
  obtain ⟨j, hj, rfl⟩ := List.mem_map.1 (hP.mem_iff.1 hx)
  injection e with _ e
  exact hi (e ▸ hj)
set_option maxRecDepth 100000 in
set_option maxHeartbeats 8000000 in
theorem vpResult_no {w : World} {g d p pb f m : Nat} {XF : Nat → Prop} {kb : Int → Nat} {s : VpS} (h : VipR w g d p pb f m XF kb s) (i : Int) (ok : Bool) (r0 : -9223372036854775808 ≤ i) (r1 : i ≤ 9223372036854775807) (hi : i ∉ idsM s.M) : Calls Tryz.prog 17 #[.pointer (some ⟨g, 0, none⟩), .int .i64 i, .bool ok] w fun e w' => e = .returned (.bool false) ∧ w = w' := by
  have c5 : w.cell? ⟨g, 5, none⟩ = some (.map (some m)) := h.blk.cellv 5 rfl
  have lg := h.lt.1
  obtain ⟨A, hA, hP⟩ := h.ent
  have hl := hA.miss0 int_key cmap_und cptr_zero (int_lit i r0 r1) (cnt_no hP hi)
  go_enter Tryz.func17, Tryz.ntmps17
  go_wp2_with (go_at_call 85; refine (vpMade_yes w g m (vpV s d p f m) rfl h.blk).mono ?_; rintro en w' ⟨rfl, rfl⟩)
  go_ret
  exact ⟨rfl, rfl⟩
set_option maxRecDepth 100000 in
set_option maxHeartbeats 8000000 in
theorem vpResult_yes {w : World} {g d p pb f m : Nat} {XF : Nat → Prop} {kb : Int → Nat} {s : VpS} (h : VipR w g d p pb f m XF kb s) (hG : GoodV s) (i : Int) (ok : Bool) (r0 : -9223372036854775808 ≤ i) (r1 : i ≤ 9223372036854775807) (hi : i ∈ idsM s.M) : Calls Tryz.prog 17 #[.pointer (some ⟨g, 0, none⟩), .int .i64 i, .bool ok] w fun e w' => e = .returned (.bool (resS s i ok).1) ∧ VipR w' g d p pb f m XF kb (resS s i ok).2 ∧ Chg w w' (Foot g d p pb m XF kb (idsM s.M)) := by
  have c5 : w.cell? ⟨g, 5, none⟩ = some (.map (some m)) := h.blk.cellv 5 rfl
  have lg := h.lt.1
  obtain ⟨A, hA, hP⟩ := h.ent
  have hl := hA.hit0 int_key cmap_und (int_lit i r0 r1) (cnt_at hP hi)
  clear hA hP
  have hno := noteC_any s.ri s.fa (s.K i) ok (kb i) w (by have := hG.ri; omega) (hG.run i hi).1 (hG.run i hi).2 (h.cnt i hi)
  have eR : resS s i ok = _ := if_pos hi
  have hri := hG.ri
  generalize noteK s.ri s.fa (s.K i) ok = q at *
  obtain ⟨q0, q1, q2⟩ := q
  generalize hR : resS s i ok = R at *
  clear hR
  go_enter Tryz.func17, Tryz.ntmps17
  have hFo : ∀ k, k = kb i → Foot g d p pb m XF kb (idsM s.M) k := fun k q => .inr (.inr (.inr (.inr (.inr (.inr ⟨i, hi, q⟩)))))
  go_upto_region 4 with (go_at_call 85; refine (vpMade_yes w g m (vpV s d p f m) rfl h.blk).mono ?_; rintro en w' ⟨rfl, rfl⟩)
  cases q0
  · rw [if_neg (by simp)] at eR
    replace eR := Lib.hid eR
    go_wp2_with (go_at_call 86; refine hno.mono ?_; rintro en w2 ⟨rfl, hk2, hg2⟩)
    have hC2 : Chg w w2 (fun k => k = kb i) := Chg.of_grown (X := fun k => k = kb i) hg2 rfl
    go_ret
    rw [eR.out]
    exact ⟨rfl, h.setK hi hC2 _ _ hk2, hC2.mono fun k _ q => hFo k q⟩
  rw [if_pos rfl] at eR
  replace eR := Lib.hid eR
  go_upto_region 6 with (go_at_call 86; refine hno.mono ?_; rintro en w2 ⟨rfl, hk2, hg2⟩)
  have hC2 : Chg w w2 (fun k => k = kb i) := Chg.of_grown (X := fun k => k = kb i) hg2 rfl
  have h2 := h.setK hi hC2 _ _ hk2
  clear c5 lg hl hno h hg2
  have c3 : w2.cell? ⟨g, 3, none⟩ = some (.pointer (some ⟨p, 0, none⟩)) := h2.blk.cellv 3 rfl
  have lg := h2.lt.1
  have hC2' := hC2.mono (Y := Foot g d p pb m XF kb (idsM s.M)) fun k _ q => hFo k q
  clear hC2 hFo
  have hgpb := h2.ne.2.2.1
  have hup := fun w (hk : Blk w (kb i) 212 (rs.riseCs s.ri s.fa q1 q2)) => rs.up_any s.ri s.fa q2 q1 (kb i) w (by omega) hk
  try refine wp_region_noPanic ?_
  have hs1r : w2.grownBy w2.drew (some pb) := grown_drew (grown_refl _ _)
  refine wp_region_held_drew (S := fun w' => w2.grownBy w' (some pb)) (by kernel_rfl) hs1r (fun _ => ?_)
  (refine held_takeA 0 (by rfl) ?_ (by kernel_rfl) (fun _ _ _ h => h) hs1r ?_ ?_; rotate_left; (focus (intro wq hSw; have hrd := zG hSw; go_simp; try with_reducible rfl; done)); try simp only [Act.put, zA, zB, zC])
  (refine held_takeA 1 (by rfl) ?_ (by kernel_rfl) (fun _ _ _ h => h) hs1r ?_ ?_; rotate_left; (focus (intro wq hSw; have hrd := zG hSw; go_simp; try with_reducible rfl; done)); try simp only [Act.put, zA, zB, zC])
  (refine held_takeA 2 (by rfl) ?_ (by kernel_rfl) (fun _ _ _ h => h) hs1r ?_ ?_; rotate_left; (focus (intro wq hSw; have hrd := zG hSw; go_simp; try with_reducible rfl; done)); try simp only [Act.put, zA, zB, zC])
  (refine held_takeA 3 (by rfl) ?_ (by kernel_rfl) (fun _ _ _ h => h) hs1r ?_ ?_; rotate_left; (focus (intro wq hSw; have hrd := zG hSw; go_simp; try with_reducible rfl; done)); try simp only [Act.put, zA, zB, zC])
  (refine held_takeA 4 (by rfl) ?_ (by kernel_rfl) (fun _ _ _ h => h) hs1r ?_ ?_; rotate_left; (focus (intro wq hSw; have hrd := zG hSw; go_simp; try with_reducible rfl; done)); try simp only [Act.put, zA, zB, zC])
  (refine held_takeA 5 (by rfl) ?_ (by kernel_rfl) (fun _ _ _ h => h) hs1r ?_ ?_; rotate_left; (focus (intro wq hSw; have hrd := zG hSw; go_simp; try with_reducible rfl; done)); try simp only [Act.put, zA, zB, zC])
  refine held_callA 6 (by rfl) (by kernel_rfl) (by rfl) (fun KQ hKQ => ?_)
  go_simp
  refine (hup w2.drew hk2).mono ?_
  rintro en wu ⟨rfl, rfl⟩
  refine hKQ.out _ _ (grown_trans hs1r (grown_refl _ _)) (held_mono (S' := fun w' => w2.drew.grownBy w' (some pb)) (fun w' h => grown_trans (grown_trans hs1r (grown_refl _ _)) h) _ _ _ _ ?_)
  clear hKQ KQ
  have hs2r : w2.drew.grownBy w2.drew (some pb) := grown_refl _ _
  try simp only [Act.put, zA, zB, zC]
  refine held_callA 7 (by rfl) (by kernel_rfl) (by rfl) (fun KQ hKQ => ?_)
  go_simp
  refine (pMarkS w2.drew p pb s.pc s.M h2.pol i r0 r1 q1).mono ?_
  rintro en w3 ⟨rfl, hP3, hg3⟩
  refine hKQ.out _ _ (grown_trans hs2r hg3) (held_mono (S' := fun w' => w3.grownBy w' (some pb)) (fun w' h => grown_trans (grown_trans hs2r hg3) h) _ _ _ _ ?_)
  clear hKQ KQ
  have hs3r : w3.grownBy w3 (some pb) := grown_refl _ _
  try simp only [Act.put, zA, zB, zC]
  refine wpAnyH_done (by kernel_rfl) ?_ _
  try refine NoPanic.normal ?_
  replace hg3 : w2.grownBy w3 (some pb) := grown_trans (grown_drew (grown_refl _ _)) hg3
  have hC3 : Chg w2 w3 (fun k => k = pb) := Chg.of_grown (X := fun k => k = pb) hg3 rfl
  have h3 := h2.setP hC3 _ hP3 (mark_ids _ _ _)
  have hk3 := hC3.blk hk2 (h2.ne.2.2.2.2.2.2.2.2.2 i hi).2.2.2.1
  have hC3' := hC2'.trans hC3 fun k _ q => (.inr (.inr (.inr (.inl q))) : Foot g d p pb m XF kb (idsM s.M) k)
  clear hC3 hC2' h2 hk2 hP3 hg3 c3 lg
  cases q1
  · go_upto_region 8 with (go_at_call 88; refine (rs.up_any s.ri s.fa q2 false (kb i) w3 (by omega) hk3).mono ?_; rintro en wu ⟨rfl, rfl⟩)
    have c4 : w3.cell? ⟨g, 4, none⟩ = some (.pointer (some ⟨f, 0, none⟩)) := h3.blk.cellv 4 rfl
    have lg := h3.lt.1
    go_wp2_with (go_at_call 89; refine (purgeFX h3.flw i).mono ?_; rintro en w4 ⟨rfl, hT4, hC4⟩)
    go_ret
    rw [eR.out]
    exact ⟨rfl, h3.setF hC4 _ _ _ hT4 (fun _ q => .inl q), hC3'.trans hC4 fun k _ q => .inr (.inr (.inr (.inr (.inr (.inl q)))))⟩
  · go_wp2_with (go_at_call 88; refine (rs.up_any s.ri s.fa q2 true (kb i) w3 (by omega) hk3).mono ?_; rintro en wu ⟨rfl, rfl⟩)
    go_ret
    rw [eR.out]
    exact ⟨rfl, h3, hC3'⟩
theorem vpResult {w : World} {g d p pb f m : Nat} {XF : Nat → Prop} {kb : Int → Nat} {s : VpS} (h : VipR w g d p pb f m XF kb s) (hG : GoodV s) (i : Int) (ok : Bool) (r0 : -9223372036854775808 ≤ i) (r1 : i ≤ 9223372036854775807) : Calls Tryz.prog 17 #[.pointer (some ⟨g, 0, none⟩), .int .i64 i, .bool ok] w fun e w' => e = .returned (.bool (resS s i ok).1) ∧ VipR w' g d p pb f m XF kb (resS s i ok).2 ∧ Chg w w' (Foot g d p pb m XF kb (idsM s.M)) := by
  by_cases hi : i ∈ idsM s.M
  · exact vpResult_yes h hG i ok r0 r1 hi
  · unfold resS
    rw [if_neg hi]
    exact (vpResult_no h i ok r0 r1 hi).mono fun e w' q => ⟨q.1, q.2 ▸ h, q.2 ▸ Chg.refl _ _⟩
set_option maxRecDepth 100000 in
set_option maxHeartbeats 8000000 in
theorem vpLost {w : World} {g d p pb f m : Nat} {XF : Nat → Prop} {kb : Int → Nat} {s : VpS} (h : VipR w g d p pb f m XF kb s) (hG : GoodV s) (i : Int) (r0 : -9223372036854775808 ≤ i) (r1 : i ≤ 9223372036854775807) : Calls Tryz.prog 18 #[.pointer (some ⟨g, 0, none⟩), .int .i64 i] w fun e w' => e = .returned (.bool (resS s i false).1) ∧ VipR w' g d p pb f m XF kb (resS s i false).2 ∧ Chg w w' (Foot g d p pb m XF kb (idsM s.M)) := by
  go_enter Tryz.func18, Tryz.ntmps18
  go_wp2_with (go_at_call 17; refine (vpResult h hG i false r0 r1).mono ?_; rintro en w2 ⟨rfl, h2, hC2⟩)
  go_ret
  exact ⟨rfl, h2, hC2⟩
end Go.Proofs.YtgdeecmhhbdjgaaGreat
