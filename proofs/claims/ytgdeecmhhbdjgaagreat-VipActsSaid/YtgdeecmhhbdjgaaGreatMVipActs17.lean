import Derived.Test.YtgdeecmhhbdjgaaGreatMVipActs4
/- flows: Put. -/
namespace Go.Proofs.YtgdeecmhhbdjgaaGreat
set_option linter.unusedVariables false
open Go Go.RowKit Go.Maps

def SpareP (ro we : Int) (l : List Nat) (dt : Nat → EnV) (gv : EnV) (md : Bool) (l' : List Nat) (we' : Int) : Prop :=
  ((l.length : Int) < ro ∧ gv = ze ∧ md = false ∧ l' = l ∧ we' = we) ∨ (ro ≤ (l.length : Int) ∧ ∃ x, l = x :: l' ∧ gv = dt x ∧ md = true ∧ we' = we + 1)
theorem spareF_any {w : World} {g m e : Nat} {ro idl now ca we : Int} {l : List Nat} {dt : Nat → EnV} {bk nx : Nat → Nat} (h : RingV w g m e ro idl now ca we l dt bk nx) (hro : 1 ≤ ro) (hwe : 0 ≤ we ∧ we ≤ 1000000) :
    Calls Tryz.prog 117 #[.pointer (some ⟨g, 0, none⟩)] w fun en w' => ∃ gv md l' we' bk' nx', en = .returned (.tuple #[enA gv, .bool md]) ∧ RingV w' g m e ro idl now ca we' l' dt bk' nx' ∧ Chg w w' (fun k => k = g ∨ k = m ∨ k ∈ e :: l) ∧ SpareP ro we l dt gv md l' we' := by
  by_cases hl : (l.length : Int) < ro
  · refine (spareF_no h hl).mono ?_
    rintro en w' ⟨rfl, h1, h2⟩
    exact ⟨_, _, _, _, _, _, rfl, h1, Chg.of_below h2, .inl ⟨hl, rfl, rfl, rfl, rfl⟩⟩
  · cases l with
    | nil => simp at hl; omega
    | cons x q =>
      refine (spareF_yes h (by omega) hwe).mono ?_
      rintro en w' ⟨rfl, h1, h2⟩
      exact ⟨_, _, _, _, _, _, rfl, h1, h2, .inr ⟨by omega, x, rfl, rfl, rfl, rfl⟩⟩
theorem RingV.link {w w2 : World} {g m e : Nat} {ro idl now ca we ca2 : Int} {l : List Nat} {dt : Nat → EnV} {bk nx : Nat → Nat} {x : Nat} {en : EnV} (h : RingV w g m e ro idl now ca we l dt bk nx)
    (hxw : x ∉ e :: l) (hg : Blk w2 g 183 (tabC ro idl now m e ca2 we)) (hN : Nod w2 (e :: l) dt (upd bk e x) (upd nx (bk e) x)) (hx : Blk w2 x 186 (lnkC en (bk e) e))
    (he : ∃ A, Ent Tryz.prog 84 w2 m A ∧ A.Perm (l.map (keyE dt) ++ [(floV en.fl, .pointer (some ⟨x, 0, none⟩))])) (hok : FloOk en.fl) :
    RingV w2 g m e ro idl now ca2 we (l ++ [x]) (upd dt x en) (upd (upd bk x (bk e)) e x) (upd (upd nx x e) (bk e) x) := by
  have hxe : x ≠ e := fun q => hxw (by rw [q]; simp)
  obtain ⟨u, hu⟩ := cyc_back h.cyc
  have hbm : bk e ∈ e :: l := by rw [hu]; simp
  have hxb : x ≠ bk e := fun q => hxw (q ▸ hbm)
  have hdt : ∀ k ∈ l, upd dt x en k = dt k := fun k hk => upd_other _ _ fun q => hxw (List.mem_cons_of_mem _ (q ▸ hk))
  refine ⟨hg, fun k hk => ?_, cyc_last h.cyc h.nd hxw, ?_, ?_, fun k hk => ?_⟩
  · by_cases hkx : k = x
    · subst hkx
      rw [upd_same, upd_other _ _ hxe, upd_same, upd_other _ _ hxb, upd_same]
      exact hx
    · have hk2 : k ∈ e :: l := by
        rcases List.mem_cons.1 hk with q | q
        · rw [q]; simp
        · rcases List.mem_append.1 q with q | q
          · exact List.mem_cons_of_mem _ q
          · exact absurd (by simpa using q) hkx
      have h1 := hN k hk2
      rw [upd_other _ _ hkx]
      have e1 : upd (upd bk x (bk e)) e x k = upd bk e x k := by
        unfold upd
        by_cases q : k = e
        · rw [if_pos q, if_pos q]
        · rw [if_neg q, if_neg q, if_neg hkx]
      have e2 : upd (upd nx x e) (bk e) x k = upd nx (bk e) x k := by
        unfold upd
        by_cases q : k = bk e
        · rw [if_pos q, if_pos q]
        · rw [if_neg q, if_neg q, if_neg hkx]
      rw [e1, e2]
      exact h1
  · have := h.nd
    rw [List.nodup_cons] at this ⊢
    refine ⟨fun q => ?_, ?_⟩
    · rcases List.mem_append.1 q with q | q
      · exact this.1 q
      · exact hxe (by simpa using q : e = x).symm
    · rw [List.nodup_append]
      exact ⟨this.2, by simp, fun a ha b hb => by rw [List.mem_singleton] at hb; subst hb; exact fun q => hxw (List.mem_cons_of_mem _ (q ▸ ha))⟩
  · obtain ⟨A, ha, hp⟩ := he
    refine ⟨A, ha, hp.trans ?_⟩
    rw [List.map_append]
    have e1 : l.map (keyE (upd dt x en)) = l.map (keyE dt) := List.map_congr_left fun k hk => by unfold keyE; rw [hdt k hk]
    rw [e1]
    have e2 : [x].map (keyE (upd dt x en)) = [(floV en.fl, .pointer (some ⟨x, 0, none⟩))] := by
      show [keyE (upd dt x en) x] = _
      unfold keyE
      rw [upd_same]
    rw [e2]
  · rcases List.mem_append.1 hk with q | q
    · rw [hdt k q]; exact h.ok k q
    · obtain rfl : k = x := by simpa using q
      rw [upd_same]; exact hok
set_option maxRecDepth 100000 in
set_option maxHeartbeats 8000000 in
theorem putF_hit {w : World} {g m e : Nat} {ro idl now ca we : Int} {dt : Nat → EnV} {bk nx : Nat → Nat} {p q : List Nat} {x : Nat} (h : RingV w g m e ro idl now ca we (p ++ x :: q) dt bk nx) (f : Flo) (hf : FloOk f) (b t : Int) (hxf : (dt x).fl = f) :
    Calls Tryz.prog 39 #[.pointer (some ⟨g, 0, none⟩), .agg #[.int .i64 f.pr, .int .u32 f.src, .int .u32 f.dst, .int .i64 f.sp, .int .i64 f.dp], .int .i64 b, .int .i64 t] w fun en w' => en = .returned (.tuple #[enA ze, .bool false]) ∧ RingV w' g m e ro idl (max now t) ca we (p ++ q ++ [x]) (upd dt x ⟨f, b, max now t⟩) (lastB bk nx e x) (lastX bk nx e x) ∧ Chg w w' (fun k => k = g ∨ k ∈ e :: (p ++ x :: q)) := by
  have hx : x ∈ p ++ x :: q := by simp
  have hB := (Below.refl w.heap.size w).alloc (Nat.le_refl _) (.cells #[.int .i64 f.pr, .int .u32 f.src, .int .u32 f.dst, .int .i64 f.sp, .int .i64 f.dp] 84)
  have hf4 := Blk.new w 84 #[.int .i64 f.pr, .int .u32 f.src, .int .u32 f.dst, .int .i64 f.sp, .int .i64 f.dp]
  have hB2 := hB.alloc hB.size (.cells #[.int .i64 0, .int .u32 0, .int .u32 0, .int .i64 0, .int .i64 0, .int .i64 0, .int .i64 0] 86)
  have hf5 := hf4.alloc (.cells #[.int .i64 0, .int .u32 0, .int .u32 0, .int .i64 0, .int .i64 0, .int .i64 0, .int .i64 0] 86)
  have hr := Blk.new (w.alloc (.cells #[.int .i64 f.pr, .int .u32 f.src, .int .u32 f.dst, .int .i64 f.sp, .int .i64 f.dp] 84)) 86 #[.int .i64 0, .int .u32 0, .int .u32 0, .int .i64 0, .int .i64 0, .int .i64 0, .int .i64 0]
  rw [show (w.alloc (.cells #[.int .i64 f.pr, .int .u32 f.src, .int .u32 f.dst, .int .i64 f.sp, .int .i64 f.dp] 84)).heap.size = w.heap.size + 1 by simp] at hr
  have h2 := h.fwd hB2
  have hlt := h.lt
  have hz2 : ((w.alloc (.cells #[.int .i64 f.pr, .int .u32 f.src, .int .u32 f.dst, .int .i64 f.sp, .int .i64 f.dp] 84)).alloc (.cells #[.int .i64 0, .int .u32 0, .int .u32 0, .int .i64 0, .int .i64 0, .int .i64 0, .int .i64 0] 86)).heap.size = w.heap.size + 2 := by simp
  clear hB hf4
  go_enter Tryz.func39, Tryz.ntmps39
  go_upto_region 1 with (fail)
  generalize (w.alloc (.cells #[.int .i64 f.pr, .int .u32 f.src, .int .u32 f.dst, .int .i64 f.sp, .int .i64 f.dp] 84)).alloc (.cells #[.int .i64 0, .int .u32 0, .int .u32 0, .int .i64 0, .int .i64 0, .int .i64 0, .int .i64 0] 86) = w2 at *
  obtain ⟨fb, hfb⟩ : ∃ fb, fb = w.heap.size := ⟨_, rfl⟩
  obtain ⟨rb, hrb⟩ : ∃ rb, rb = w.heap.size + 1 := ⟨_, rfl⟩
  rw [← hrb] at hr
  rw [← hfb] at hf5
  rw [← hfb, show fb + 1 = rb by omega]
  have hlo : w.heap.size ≤ fb ∧ w.heap.size ≤ rb ∧ fb < w2.heap.size ∧ rb < w2.heap.size := by omega
  replace hrb := Lib.hid hrb
  replace hfb := Lib.hid hfb
  replace hz2 := Lib.hid hz2
  go_upto_region 4 with (first
    | (go_at_call 115; refine (madeF_in h2).mono ?_; rintro en w' ⟨rfl, rfl⟩)
    | (go_at_call 116; refine (timeF_any h2 t).mono ?_; rintro en w3 ⟨rfl, h3, hC3⟩))
  have hf6 := hC3.blk hf5 (show ¬ fb = g by omega)
  have hr6 := hC3.blk hr (show ¬ rb = g by omega)
  have hC13 : Chg w w3 (fun k => k = g) := (Chg.of_below hB2).trans hC3 (fun _ _ q1 => q1)
  clear hB2 hf5 hr h2
  have hB4 := (Below.refl w3.heap.size w3).alloc (Nat.le_refl _) (.cells #[.int .i64 0, .int .u32 0, .int .u32 0, .int .i64 0, .int .i64 0, .int .i64 0, .int .i64 0] 86)
  have hf7 := hf6.alloc (.cells #[.int .i64 0, .int .u32 0, .int .u32 0, .int .i64 0, .int .i64 0, .int .i64 0, .int .i64 0] 86)
  have hr7 := hr6.alloc (.cells #[.int .i64 0, .int .u32 0, .int .u32 0, .int .i64 0, .int .i64 0, .int .i64 0, .int .i64 0] 86)
  have hq7 := Blk.new w3 86 #[.int .i64 0, .int .u32 0, .int .u32 0, .int .i64 0, .int .i64 0, .int .i64 0, .int .i64 0]
  have h4 := h3.fwd hB4
  have hC14 := hC13.trans (Chg.of_below (X := fun _ => False) hB4) (fun _ _ q1 => q1.elim)
  have hz3 := hC3.size
  clear hC13 hC3 hf6 hr6 h3 hB4
  obtain ⟨gb, hgb⟩ : ∃ gb, gb = w3.heap.size := ⟨_, rfl⟩
  rw [← hgb] at hq7
  have hlo2 : w.heap.size ≤ gb ∧ fb ≠ gb ∧ rb ≠ gb ∧ fb ≠ rb := by have := hfb.out; have := hrb.out; omega
  go_upto_region 5 with (fail)
  rw [← hgb]
  replace hgb := Lib.hid hgb
  generalize w3.alloc (.cells #[.int .i64 0, .int .u32 0, .int .u32 0, .int .i64 0, .int .i64 0, .int .i64 0, .int .i64 0] 86) = w4 at *
  have c3 : w4.cell? ⟨g, 3, none⟩ = some (.map (some m)) := h4.blk.cellv 3 rfl
  have y0 : w4.cell? ⟨fb, 0, none⟩ = some (.int .i64 f.pr) := hf7.cellv 0 rfl
  have y1 : w4.cell? ⟨fb, 1, none⟩ = some (.int .u32 f.src) := hf7.cellv 1 rfl
  have y2 : w4.cell? ⟨fb, 2, none⟩ = some (.int .u32 f.dst) := hf7.cellv 2 rfl
  have y3 : w4.cell? ⟨fb, 3, none⟩ = some (.int .i64 f.sp) := hf7.cellv 3 rfl
  have y4 : w4.cell? ⟨fb, 4, none⟩ = some (.int .i64 f.dp) := hf7.cellv 4 rfl
  have ltg2 := h4.blk.lt
  have ltf2 := hf7.lt
  go_upto_region 6 with (fail)
  try refine wp_region_noPanic ?_
  have hs1r : Below w4.heap.size w4 w4.drew := (Below.refl _ _).drew
  refine wp_region_held_drew (S := fun w' => Below w4.heap.size w4 w') (by kernel_rfl) hs1r (fun _ => ?_)
  (refine held_takeA 0 (by rfl) ?_ (by kernel_rfl) (fun _ _ _ h => h) hs1r ?_ ?_; rotate_left; (focus (intro wq hSw; have hrd := zR hSw; have hlk := look_drew h4 f hf hx hxf hSw; go_simp; try with_reducible rfl; done)); try simp only [Act.put, zA, zB, zC])
  (refine held_takeA 1 (by rfl) ?_ (by kernel_rfl) (fun _ _ _ h => h) hs1r ?_ ?_; rotate_left; (focus (intro wq hSw; have hrd := zR hSw; have hlk := look_drew h4 f hf hx hxf hSw; go_simp; try with_reducible rfl; done)); try simp only [Act.put, zA, zB, zC])
  (refine held_takeA 2 (by rfl) ?_ (by kernel_rfl) (fun _ _ _ h => h) hs1r ?_ ?_; rotate_left; (focus (intro wq hSw; have hrd := zR hSw; have hlk := look_drew h4 f hf hx hxf hSw; go_simp; try with_reducible rfl; done)); try simp only [Act.put, zA, zB, zC])
  (refine held_takeA 3 (by rfl) ?_ (by kernel_rfl) (fun _ _ _ h => h) hs1r ?_ ?_; rotate_left; (focus (intro wq hSw; have hrd := zR hSw; have hlk := look_drew h4 f hf hx hxf hSw; go_simp; try with_reducible rfl; done)); try simp only [Act.put, zA, zB, zC])
  (refine held_takeA 4 (by rfl) ?_ (by kernel_rfl) (fun _ _ _ h => h) hs1r ?_ ?_; rotate_left; (focus (intro wq hSw; have hrd := zR hSw; have hlk := look_drew h4 f hf hx hxf hSw; go_simp; try with_reducible rfl; done)); try simp only [Act.put, zA, zB, zC])
  (refine held_takeA 5 (by rfl) ?_ (by kernel_rfl) (fun _ _ _ h => h) hs1r ?_ ?_; rotate_left; (focus (intro wq hSw; have hrd := zR hSw; have hlk := look_drew h4 f hf hx hxf hSw; go_simp; try with_reducible rfl; done)); try simp only [Act.put, zA, zB, zC])
  (refine held_takeA 6 (by rfl) ?_ (by kernel_rfl) (fun _ _ _ h => h) hs1r ?_ ?_; rotate_left; (focus (intro wq hSw; have hrd := zR hSw; have hlk := look_drew h4 f hf hx hxf hSw; go_simp; try with_reducible rfl; done)); try simp only [Act.put, zA, zB, zC])
  refine wpAnyH_done (by kernel_rfl) ?_ _
  try refine NoPanic.normal ?_
  have h5 := h4.fwd (Below.refl _ _).drew
  have hf8 := hf7.below (Below.refl w4.heap.size w4).drew hf7.lt
  have hr8 := hr7.below (Below.refl w4.heap.size w4).drew hr7.lt
  have hq8 := hq7.below (Below.refl w4.heap.size w4).drew hq7.lt
  have hC15 := hC14.trans (Chg.of_below (X := fun _ => False) (Below.refl w4.heap.size w4).drew) (fun _ _ q1 => q1.elim)
  clear h4 hf7 hr7 hq7 hC14 c3 y0 y1 y2 y3 y4 ltg2 ltf2
  generalize w4.drew = w5 at *
  obtain ⟨b1, b2, b3, b4, b5⟩ := h5.bx
  have hgN := h5.gN
  have hapart : ∀ k, w.heap.size ≤ k → ¬ (k = g ∨ k = m ∨ k ∈ e :: (p ++ x :: q)) := fun k hk q1 => by
    rcases q1 with q1 | q1 | q1
    · have := hlt.1; omega
    · have := hlt.2.1; omega
    · have := hlt.2.2 k q1; omega
  go_upto_region 13 with (go_at_call 118; refine (out_any w5 _ dt bk nx h5.nod x b4 b1 b2).mono ?_; rintro en w6 ⟨rfl, hN6, hC6⟩)
  have hg6 := hC6.blk h5.blk hgN
  have x5 : w6.cell? ⟨x, 5, none⟩ = some (.int .i64 (dt x).be) := (hN6 x b4).cellv 5 rfl
  have fx5 := (hN6 x b4).frozen 5
  have ltx := (hN6 x b4).lt
  obtain ⟨hN7, g7⟩ := hN6.be b4 b
  replace hN7 := Lib.hid hN7
  replace g7 := Lib.hid g7
  go_upto_region 14 with (fail)
  replace hN7 := hN7.out
  have hC7 := Chg.of_grown (X := fun k => k ∈ e :: (p ++ x :: q)) g7.out b4
  have hg7 := hC7.blk hg6 hgN
  clear g7 x5 fx5 ltx hN6 hg6
  generalize w6.setCell ⟨x, 5, none⟩ (.int .i64 b) = w7 at *
  go_upto_region 15 with (go_at_call 119; refine (last_any w7 g ro idl (max now t) m e ca we hg7 _ _ _ _ hN7 x b4 (by simp) b3 b5).mono ?_; rintro en w8 ⟨rfl, hN8, hC8⟩)
  have hC58 : Chg w5 w8 (fun k => k ∈ e :: (p ++ x :: q)) := (hC6.trans hC7 (fun _ _ q1 => q1)).trans hC8 (fun _ _ q1 => q1)
  have h8 := h5.relink (hC58.mono fun i hi q1 => .inr q1) (hC8.blk hg7 hgN) hN8 (fun k => by
    by_cases e1 : k = x
    · rw [e1, upd_same, upd_same]
    · rw [upd_other _ _ e1, upd_other _ _ e1])
  have hdt8 : upd (upd dt x { dt x with be := b }) x { (upd dt x { dt x with be := b }) x with la := max now t } = upd dt x ⟨f, b, max now t⟩ := by
    funext k
    by_cases e1 : k = x
    · rw [e1, upd_same, upd_same, upd_same, ← hxf]
    · rw [upd_other _ _ e1, upd_other _ _ e1, upd_other _ _ e1]
  rw [hdt8] at h8
  have hr9 := hC58.blk hr8 (fun q1 => hapart rb hlo.2.1 (.inr (.inr q1)))
  have hq9 := hC58.blk hq8 (fun q1 => hapart gb hlo2.1 (.inr (.inr q1)))
  have hC18 := hC15.mono (fun i hi q1 => (.inl q1 : i = g ∨ i ∈ e :: (p ++ x :: q))) |>.trans hC58 (fun i hi q1 => .inr q1)
  clear h5 hf8 hr8 hq8 hC15 hC6 hC7 hC8 hg7 hN7 hN8 hdt8 b1 b2 b3 b5 hC58
  have z0 : w8.cell? ⟨gb, 0, none⟩ = some (.int .i64 0) := hq9.cellv 0 rfl
  have z1 : w8.cell? ⟨gb, 1, none⟩ = some (.int .u32 0) := hq9.cellv 1 rfl
  have z2 : w8.cell? ⟨gb, 2, none⟩ = some (.int .u32 0) := hq9.cellv 2 rfl
  have z3 : w8.cell? ⟨gb, 3, none⟩ = some (.int .i64 0) := hq9.cellv 3 rfl
  have z4 : w8.cell? ⟨gb, 4, none⟩ = some (.int .i64 0) := hq9.cellv 4 rfl
  have z5 : w8.cell? ⟨gb, 5, none⟩ = some (.int .i64 0) := hq9.cellv 5 rfl
  have z6 : w8.cell? ⟨gb, 6, none⟩ = some (.int .i64 0) := hq9.cellv 6 rfl
  have ltq := hq9.lt
  go_wp2_with (refine wpList_store_blk rfl hr9 86 (.tmp 8) (.tmp 60) rfl rfl rfl rfl got_entry (by simp [Value.oneCell']) ?_; intro w10 hr10 hg10)
  try rw [Exit.noGoto_ret]
  refine bodyPost_ret (results_ct rfl _ rfl (load_blk hr10 Tryz.underlying86 rfl got_entry)) rfl ?_
  have hC10 : Chg w8 w10 (fun k => k = rb) := Chg.of_grown hg10 rfl
  exact ⟨rfl, h8.chg hC10 (by have := hlt.1; omega) (by have := hlt.2.1; omega) (fun k hk q1 => hapart k (by omega) (.inr (.inr (by
    rcases List.mem_cons.1 hk with q2 | q2
    · rw [q2]; simp
    · refine List.mem_cons_of_mem _ ?_
      simp at q2 ⊢
      rcases q2 with q2 | q2 | q2 <;> simp [q2])))), hC18.trans hC10 (fun i hi q1 => by omega)⟩
set_option maxRecDepth 100000 in
set_option maxHeartbeats 8000000 in
theorem putF_miss {w : World} {g m e : Nat} {ro idl now ca we : Int} {dt : Nat → EnV} {bk nx : Nat → Nat} {l : List Nat} (h : RingV w g m e ro idl now ca we l dt bk nx) (f : Flo) (hf : FloOk f) (b t : Int) (hno : ∀ k ∈ l, (dt k).fl ≠ f) (hro : 1 ≤ ro) (hwe : 0 ≤ we ∧ we ≤ 1000000) (hca : 0 ≤ ca ∧ ca ≤ 1000000) :
    Calls Tryz.prog 39 #[.pointer (some ⟨g, 0, none⟩), .agg #[.int .i64 f.pr, .int .u32 f.src, .int .u32 f.dst, .int .i64 f.sp, .int .i64 f.dp], .int .i64 b, .int .i64 t] w fun en w' => ∃ gv md l' we' kb bk' nx', en = .returned (.tuple #[enA gv, .bool md]) ∧ SpareP ro we l dt gv md l' we' ∧ w.heap.size ≤ kb ∧ RingV w' g m e ro idl (max now t) (ca + 1) we' (l' ++ [kb]) (upd dt kb ⟨f, b, max now t⟩) bk' nx' ∧ Chg w w' (fun k => k = g ∨ k = m ∨ k ∈ e :: l) := by
  have hB := (Below.refl w.heap.size w).alloc (Nat.le_refl _) (.cells #[.int .i64 f.pr, .int .u32 f.src, .int .u32 f.dst, .int .i64 f.sp, .int .i64 f.dp] 84)
  have hf4 := Blk.new w 84 #[.int .i64 f.pr, .int .u32 f.src, .int .u32 f.dst, .int .i64 f.sp, .int .i64 f.dp]
  have hB2 := hB.alloc hB.size (.cells #[.int .i64 0, .int .u32 0, .int .u32 0, .int .i64 0, .int .i64 0, .int .i64 0, .int .i64 0] 86)
  have hf5 := hf4.alloc (.cells #[.int .i64 0, .int .u32 0, .int .u32 0, .int .i64 0, .int .i64 0, .int .i64 0, .int .i64 0] 86)
  have hr := Blk.new (w.alloc (.cells #[.int .i64 f.pr, .int .u32 f.src, .int .u32 f.dst, .int .i64 f.sp, .int .i64 f.dp] 84)) 86 #[.int .i64 0, .int .u32 0, .int .u32 0, .int .i64 0, .int .i64 0, .int .i64 0, .int .i64 0]
  rw [show (w.alloc (.cells #[.int .i64 f.pr, .int .u32 f.src, .int .u32 f.dst, .int .i64 f.sp, .int .i64 f.dp] 84)).heap.size = w.heap.size + 1 by simp] at hr
  have h2 := h.fwd hB2
  have hlt := h.lt
  have hz2 : ((w.alloc (.cells #[.int .i64 f.pr, .int .u32 f.src, .int .u32 f.dst, .int .i64 f.sp, .int .i64 f.dp] 84)).alloc (.cells #[.int .i64 0, .int .u32 0, .int .u32 0, .int .i64 0, .int .i64 0, .int .i64 0, .int .i64 0] 86)).heap.size = w.heap.size + 2 := by simp
  clear hB hf4
  go_enter Tryz.func39, Tryz.ntmps39
  go_upto_region 1 with (fail)
  generalize (w.alloc (.cells #[.int .i64 f.pr, .int .u32 f.src, .int .u32 f.dst, .int .i64 f.sp, .int .i64 f.dp] 84)).alloc (.cells #[.int .i64 0, .int .u32 0, .int .u32 0, .int .i64 0, .int .i64 0, .int .i64 0, .int .i64 0] 86) = w2 at *
  obtain ⟨fb, hfb⟩ : ∃ fb, fb = w.heap.size := ⟨_, rfl⟩
  obtain ⟨rb, hrb⟩ : ∃ rb, rb = w.heap.size + 1 := ⟨_, rfl⟩
  rw [← hrb] at hr
  rw [← hfb] at hf5
  rw [← hfb, show fb + 1 = rb by omega]
  have hlo : w.heap.size ≤ fb ∧ w.heap.size ≤ rb ∧ fb < w2.heap.size ∧ rb < w2.heap.size := by omega
  replace hrb := Lib.hid hrb
  replace hfb := Lib.hid hfb
  replace hz2 := Lib.hid hz2
  go_upto_region 4 with (first
    | (go_at_call 115; refine (madeF_in h2).mono ?_; rintro en w' ⟨rfl, rfl⟩)
    | (go_at_call 116; refine (timeF_any h2 t).mono ?_; rintro en w3 ⟨rfl, h3, hC3⟩))
  have hf6 := hC3.blk hf5 (show ¬ fb = g by omega)
  have hr6 := hC3.blk hr (show ¬ rb = g by omega)
  have hC13 : Chg w w3 (fun k => k = g) := (Chg.of_below hB2).trans hC3 (fun _ _ q1 => q1)
  clear hB2 hf5 hr h2
  have hB4 := (Below.refl w3.heap.size w3).alloc (Nat.le_refl _) (.cells #[.int .i64 0, .int .u32 0, .int .u32 0, .int .i64 0, .int .i64 0, .int .i64 0, .int .i64 0] 86)
  have hf7 := hf6.alloc (.cells #[.int .i64 0, .int .u32 0, .int .u32 0, .int .i64 0, .int .i64 0, .int .i64 0, .int .i64 0] 86)
  have hr7 := hr6.alloc (.cells #[.int .i64 0, .int .u32 0, .int .u32 0, .int .i64 0, .int .i64 0, .int .i64 0, .int .i64 0] 86)
  have hq7 := Blk.new w3 86 #[.int .i64 0, .int .u32 0, .int .u32 0, .int .i64 0, .int .i64 0, .int .i64 0, .int .i64 0]
  have h4 := h3.fwd hB4
  have hC14 := hC13.trans (Chg.of_below (X := fun _ => False) hB4) (fun _ _ q1 => q1.elim)
  have hz3 := hC3.size
  clear hC13 hC3 hf6 hr6 h3 hB4
  obtain ⟨gb, hgb⟩ : ∃ gb, gb = w3.heap.size := ⟨_, rfl⟩
  rw [← hgb] at hq7
  have hlo2 : w.heap.size ≤ gb ∧ fb ≠ gb ∧ rb ≠ gb ∧ fb ≠ rb := by have := hfb.out; have := hrb.out; omega
  go_upto_region 5 with (fail)
  rw [← hgb]
  replace hgb := Lib.hid hgb
  generalize w3.alloc (.cells #[.int .i64 0, .int .u32 0, .int .u32 0, .int .i64 0, .int .i64 0, .int .i64 0, .int .i64 0] 86) = w4 at *
  have c3 : w4.cell? ⟨g, 3, none⟩ = some (.map (some m)) := h4.blk.cellv 3 rfl
  have y0 : w4.cell? ⟨fb, 0, none⟩ = some (.int .i64 f.pr) := hf7.cellv 0 rfl
  have y1 : w4.cell? ⟨fb, 1, none⟩ = some (.int .u32 f.src) := hf7.cellv 1 rfl
  have y2 : w4.cell? ⟨fb, 2, none⟩ = some (.int .u32 f.dst) := hf7.cellv 2 rfl
  have y3 : w4.cell? ⟨fb, 3, none⟩ = some (.int .i64 f.sp) := hf7.cellv 3 rfl
  have y4 : w4.cell? ⟨fb, 4, none⟩ = some (.int .i64 f.dp) := hf7.cellv 4 rfl
  have ltg2 := h4.blk.lt
  have ltf2 := hf7.lt
  go_upto_region 6 with (fail)
  try refine wp_region_noPanic ?_
  have hs2r : Below w4.heap.size w4 w4.drew := (Below.refl _ _).drew
  refine wp_region_held_drew (S := fun w' => Below w4.heap.size w4 w') (by kernel_rfl) hs2r (fun _ => ?_)
  (refine held_takeA 0 (by rfl) ?_ (by kernel_rfl) (fun _ _ _ h => h) hs2r ?_ ?_; rotate_left; (focus (intro wq hSw; have hrd := zR hSw; have hlk := look_none h4 f hf hno hSw; go_simp; try with_reducible rfl; done)); try simp only [Act.put, zA, zB, zC])
  (refine held_takeA 1 (by rfl) ?_ (by kernel_rfl) (fun _ _ _ h => h) hs2r ?_ ?_; rotate_left; (focus (intro wq hSw; have hrd := zR hSw; have hlk := look_none h4 f hf hno hSw; go_simp; try with_reducible rfl; done)); try simp only [Act.put, zA, zB, zC])
  (refine held_takeA 2 (by rfl) ?_ (by kernel_rfl) (fun _ _ _ h => h) hs2r ?_ ?_; rotate_left; (focus (intro wq hSw; have hrd := zR hSw; have hlk := look_none h4 f hf hno hSw; go_simp; try with_reducible rfl; done)); try simp only [Act.put, zA, zB, zC])
  (refine held_takeA 3 (by rfl) ?_ (by kernel_rfl) (fun _ _ _ h => h) hs2r ?_ ?_; rotate_left; (focus (intro wq hSw; have hrd := zR hSw; have hlk := look_none h4 f hf hno hSw; go_simp; try with_reducible rfl; done)); try simp only [Act.put, zA, zB, zC])
  (refine held_takeA 4 (by rfl) ?_ (by kernel_rfl) (fun _ _ _ h => h) hs2r ?_ ?_; rotate_left; (focus (intro wq hSw; have hrd := zR hSw; have hlk := look_none h4 f hf hno hSw; go_simp; try with_reducible rfl; done)); try simp only [Act.put, zA, zB, zC])
  (refine held_takeA 5 (by rfl) ?_ (by kernel_rfl) (fun _ _ _ h => h) hs2r ?_ ?_; rotate_left; (focus (intro wq hSw; have hrd := zR hSw; have hlk := look_none h4 f hf hno hSw; go_simp; try with_reducible rfl; done)); try simp only [Act.put, zA, zB, zC])
  (refine held_takeA 6 (by rfl) ?_ (by kernel_rfl) (fun _ _ _ h => h) hs2r ?_ ?_; rotate_left; (focus (intro wq hSw; have hrd := zR hSw; have hlk := look_none h4 f hf hno hSw; go_simp; try with_reducible rfl; done)); try simp only [Act.put, zA, zB, zC])
  refine wpAnyH_done (by kernel_rfl) ?_ _
  try refine NoPanic.normal ?_
  have h5 := h4.fwd (Below.refl _ _).drew
  have hf8 := hf7.below (Below.refl w4.heap.size w4).drew hf7.lt
  have hr8 := hr7.below (Below.refl w4.heap.size w4).drew hr7.lt
  have hq8 := hq7.below (Below.refl w4.heap.size w4).drew hq7.lt
  have hC15 := hC14.trans (Chg.of_below (X := fun _ => False) (Below.refl w4.heap.size w4).drew) (fun _ _ q1 => q1.elim)
  clear h4 hf7 hr7 hq7 hC14 c3 y0 y1 y2 y3 y4 ltg2 ltf2
  generalize w4.drew = w5 at *
  have hapart : ∀ k, w.heap.size ≤ k → ¬ (k = g ∨ k = m ∨ k ∈ e :: l) := fun k hk q1 => by
    rcases q1 with q1 | q1 | q1
    · have := hlt.1; omega
    · have := hlt.2.1; omega
    · have := hlt.2.2 k q1; omega
  have hsub : ∀ {gv md l' we'}, SpareP ro we l dt gv md l' we' → ∀ k ∈ e :: l', k ∈ e :: l := fun hs k hk => by
    rcases hs with ⟨_, _, _, q1, _⟩ | ⟨_, x, q1, _⟩
    · rw [← q1]; exact hk
    · rw [q1]
      rcases List.mem_cons.1 hk with q2 | q2
      · rw [q2]; simp
      · exact List.mem_cons_of_mem _ (List.mem_cons_of_mem _ q2)
  have hkwc : IntKind.i64.wrap (ca + 1) = ca + 1 := IntWalk.i64_in _ (by omega)
  go_upto_region 9 with (first
    | (go_at_call 117; refine (spareF_any h5 hro hwe).mono ?_; rintro en w6 ⟨gv, md, l', we', bk', nx', rfl, h6, hC6, hsp⟩; unfold enA; have hq9 := hC6.blk hq8 (hapart gb hlo2.1))
    | (refine wpList_store_blk rfl hq9 86 (.tmp 10) (.tmp 31) rfl rfl rfl rfl got_entry (by simp [Value.oneCell']) ?_; intro w7 hq10 hg7))
  have hs2 := hsub hsp
  have hf9 := hC6.blk hf8 (hapart fb hlo.1)
  have hr9 := hC6.blk hr8 (hapart rb hlo.2.1)
  have hC67 : Chg w6 w7 (fun k => k = gb) := Chg.of_grown hg7 rfl
  have h7 := h6.chg hC67 (fun q1 => hapart gb hlo2.1 (.inl q1.symm)) (fun q1 => hapart gb hlo2.1 (.inr (.inl q1.symm))) (fun k hk q1 => hapart gb hlo2.1 (.inr (.inr (q1 ▸ hs2 k hk))))
  have hf10 := hC67.blk hf9 hlo2.2.1
  have hr10 := hC67.blk hr9 hlo2.2.2.1
  have hC17 := ((hC15.mono (fun i hi q1 => (.inl q1 : i = g ∨ i = m ∨ i ∈ e :: l))).trans hC6 (fun _ _ q1 => q1)).trans hC67 (fun i hi q1 => by have := hlo2.1; omega)
  replace hsp := Lib.hid hsp
  clear h5 hf8 hr8 hq8 hq9 hC15 h6 hC6 hg7 hf9 hr9 hC67
  have c5 : w7.cell? ⟨g, 5, none⟩ = some (.int .i64 ca) := h7.blk.cellv 5 rfl
  have f5 := h7.blk.frozen 5
  have ltg7 := h7.blk.lt
  obtain ⟨h8, hC8⟩ := h7.tab (i := 5) (v := .int .i64 (ca + 1)) (ro2 := ro) (idl2 := idl) (now2 := max now t) (ca2 := ca + 1) (we2 := we') rfl
  replace h8 := Lib.hid h8
  replace hC8 := Lib.hid hC8
  go_upto_region 10 with (fail)
  replace h8 := h8.out
  replace hC8 := hC8.out
  have hf11 := hC8.blk hf10 (fun q1 => hapart fb hlo.1 (.inl q1))
  have hr11 := hC8.blk hr10 (fun q1 => hapart rb hlo.2.1 (.inl q1))
  have hq11 := hC8.blk hq10 (fun q1 => hapart gb hlo2.1 (.inl q1))
  have hC18 := hC17.trans hC8 (fun i hi q1 => .inl q1)
  clear c5 f5 ltg7 h7 hf10 hr10 hq10 hC17 hC8
  generalize w7.setCell ⟨g, 5, none⟩ (.int .i64 (ca + 1)) = w8 at *
  have y0 : w8.cell? ⟨fb, 0, none⟩ = some (.int .i64 f.pr) := hf11.cellv 0 rfl
  have y1 : w8.cell? ⟨fb, 1, none⟩ = some (.int .u32 f.src) := hf11.cellv 1 rfl
  have y2 : w8.cell? ⟨fb, 2, none⟩ = some (.int .u32 f.dst) := hf11.cellv 2 rfl
  have y3 : w8.cell? ⟨fb, 3, none⟩ = some (.int .i64 f.sp) := hf11.cellv 3 rfl
  have y4 : w8.cell? ⟨fb, 4, none⟩ = some (.int .i64 f.dp) := hf11.cellv 4 rfl
  have ltf8 := hf11.lt
  have hB9 := (Below.refl w8.heap.size w8).alloc (Nat.le_refl _) (.cells #[.int .i64 f.pr, .int .u32 f.src, .int .u32 f.dst, .int .i64 f.sp, .int .i64 f.dp, .int .i64 0, .int .i64 0, .pointer none, .pointer none] 186)
  have hk9 : Blk _ w8.heap.size 186 (lnkV ⟨f, 0, 0⟩ (.pointer none) (.pointer none)) := Blk.new w8 186 #[.int .i64 f.pr, .int .u32 f.src, .int .u32 f.dst, .int .i64 f.sp, .int .i64 f.dp, .int .i64 0, .int .i64 0, .pointer none, .pointer none]
  have h9 := h8.fwd hB9
  have hf12 := hf11.alloc (.cells #[.int .i64 f.pr, .int .u32 f.src, .int .u32 f.dst, .int .i64 f.sp, .int .i64 f.dp, .int .i64 0, .int .i64 0, .pointer none, .pointer none] 186)
  have hr12 := hr11.alloc (.cells #[.int .i64 f.pr, .int .u32 f.src, .int .u32 f.dst, .int .i64 f.sp, .int .i64 f.dp, .int .i64 0, .int .i64 0, .pointer none, .pointer none] 186)
  have hq12 := hq11.alloc (.cells #[.int .i64 f.pr, .int .u32 f.src, .int .u32 f.dst, .int .i64 f.sp, .int .i64 f.dp, .int .i64 0, .int .i64 0, .pointer none, .pointer none] 186)
  have hz8 := hC18.size
  have hlt8 := h8.lt
  have hC19 := hC18.trans (Chg.of_below (X := fun _ => False) hB9) (fun _ _ q1 => q1.elim)
  go_upto_region 11 with (fail)
  clear y0 y1 y2 y3 y4 ltf8 hf11 hr11 hq11 hC18 h8
  have hlq := hq12.lt
  generalize w8.alloc (.cells #[.int .i64 f.pr, .int .u32 f.src, .int .u32 f.dst, .int .i64 f.sp, .int .i64 f.dp, .int .i64 0, .int .i64 0, .pointer none, .pointer none] 186) = w9 at *
  obtain ⟨kb, hkb⟩ : ∃ kb, kb = w8.heap.size := ⟨_, rfl⟩
  rw [← hkb] at hk9
  have hkw : w.heap.size ≤ kb := by omega
  have hkN : kb ∉ e :: l' := fun q1 => by have := hlt8.2.2 kb q1; omega
  have hkg : kb ≠ g ∧ kb ≠ m ∧ fb ≠ kb ∧ rb ≠ kb ∧ gb ≠ kb := by
    have h1 := hlt8.1
    have h2 := hlt8.2.1
    have h3 := hr12.lt
    refine ⟨by omega, by omega, fun q1 => ?_, fun q1 => ?_, fun q1 => ?_⟩
    · exact blk_apart hf12 hk9 (by decide) q1
    · exact blk_apart hr12 hk9 (by decide) q1
    · exact blk_apart hq12 hk9 (by decide) q1
  rw [← hkb]
  replace hkb := Lib.hid hkb
  have c3 : w9.cell? ⟨g, 3, none⟩ = some (.map (some m)) := h9.blk.cellv 3 rfl
  have y0 : w9.cell? ⟨fb, 0, none⟩ = some (.int .i64 f.pr) := hf12.cellv 0 rfl
  have y1 : w9.cell? ⟨fb, 1, none⟩ = some (.int .u32 f.src) := hf12.cellv 1 rfl
  have y2 : w9.cell? ⟨fb, 2, none⟩ = some (.int .u32 f.dst) := hf12.cellv 2 rfl
  have y3 : w9.cell? ⟨fb, 3, none⟩ = some (.int .i64 f.sp) := hf12.cellv 3 rfl
  have y4 : w9.cell? ⟨fb, 4, none⟩ = some (.int .i64 f.dp) := hf12.cellv 4 rfl
  have ltg9 := h9.blk.lt
  have ltf9 := hf12.lt
  have hgm := h9.gm
  have hfm : fb ≠ m := fun q1 => hapart fb hlo.1 (.inr (.inl q1))
  obtain ⟨A, ha, hp⟩ := h9.ent
  obtain ⟨kl, hkl⟩ := flo_lit f hf
  have hnew : floV f ∉ A.map Prod.fst := fun q1 => by
    obtain ⟨y, hy, hy2⟩ := List.mem_map.1 q1
    obtain ⟨k, hk1, rfl⟩ := List.mem_map.1 (hp.mem_iff.1 hy)
    have hkl : k ∈ l := by
      have h1 := hs2 k (List.mem_cons_of_mem _ hk1)
      rcases List.mem_cons.1 h1 with q2 | q2
      · exfalso
        have := h9.nd
        rw [List.nodup_cons] at this
        exact this.1 (q2 ▸ hk1)
      · exact q2
    exact hno k hkl (flo_inj hy2)
  try refine wp_region_noPanic ?_
  have hs3r : w9.grownBy w9.drew (some m) := grown_drew (grown_refl _ _)
  refine wp_region_held_drew (S := fun w' => w9.grownBy w' (some m)) (by kernel_rfl) hs3r (fun _ => ?_)
  (refine held_takeA 0 (by rfl) ?_ (by kernel_rfl) (fun _ _ _ h => h) hs3r ?_ ?_; rotate_left; (focus (intro wq hSw; have hrd := zG hSw; go_simp; try with_reducible rfl; done)); try simp only [Act.put, zA, zB, zC])
  (refine held_takeA 1 (by rfl) ?_ (by kernel_rfl) (fun _ _ _ h => h) hs3r ?_ ?_; rotate_left; (focus (intro wq hSw; have hrd := zG hSw; go_simp; try with_reducible rfl; done)); try simp only [Act.put, zA, zB, zC])
  (refine held_takeA 2 (by rfl) ?_ (by kernel_rfl) (fun _ _ _ h => h) hs3r ?_ ?_; rotate_left; (focus (intro wq hSw; have hrd := zG hSw; go_simp; try with_reducible rfl; done)); try simp only [Act.put, zA, zB, zC])
  (refine held_takeA 3 (by rfl) ?_ (by kernel_rfl) (fun _ _ _ h => h) hs3r ?_ ?_; rotate_left; (focus (intro wq hSw; have hrd := zG hSw; go_simp; try with_reducible rfl; done)); try simp only [Act.put, zA, zB, zC])
  (refine held_takeA 4 (by rfl) ?_ (by kernel_rfl) (fun _ _ _ h => h) hs3r ?_ ?_; rotate_left; (focus (intro wq hSw; have hrd := zG hSw; go_simp; try with_reducible rfl; done)); try simp only [Act.put, zA, zB, zC])
  (refine held_takeA 5 (by rfl) ?_ (by kernel_rfl) (fun _ _ _ h => h) hs3r ?_ ?_; rotate_left; (focus (intro wq hSw; have hrd := zG hSw; go_simp; try with_reducible rfl; done)); try simp only [Act.put, zA, zB, zC])
  refine held_callA 6 (by rfl) (by kernel_rfl) (by rfl) (fun KQ hKQ => ?_)
  refine wp_put_new (key := floV f) (val := .pointer (some ⟨kb, 0, none⟩)) ha.drew fkey fmap_und (.tmp 47) (.tmp 48) (.tmp 49) (by rfl) (by rfl) (by rfl) (by rfl) hkl hnew ?_
  intro w10 ha10 hg10
  refine hKQ.out _ _ (grown_trans hs3r hg10) (held_mono (S' := fun w' => w10.grownBy w' (some m)) (fun w' h => grown_trans (grown_trans hs3r hg10) h) _ _ _ _ ?_)
  clear hKQ KQ
  have hs4r : w10.grownBy w10 (some m) := grown_refl _ _
  try simp only [Act.put]
  refine wpAnyH_done (by kernel_rfl) ?_ _
  try refine NoPanic.normal ?_
  have hg910 : w9.grownBy w10 (some m) := grown_trans (grown_drew (grown_refl w9 (some m))) hg10
  have hC10 : Chg w9 w10 (fun k => k = m) := Chg.of_grown hg910 rfl
  have hk10 := hC10.blk hk9 hkg.2.1
  have hr13 := hC10.blk hr12 (fun q1 => hapart rb hlo.2.1 (.inr (.inl q1)))
  have hq13 := hC10.blk hq12 (fun q1 => hapart gb hlo2.1 (.inr (.inl q1)))
  have hg13 := hC10.blk h9.blk hgm
  have hN13 := h9.nod.chg hC10 (fun k hk q1 => h9.mN (q1 ▸ hk))
  have hC110 := hC19.trans hC10 (fun i hi q1 => .inr (.inl q1))
  clear c3 y0 y1 y2 y3 y4 ltg9 ltf9 hf12 hr12 hq12 hk9 hC19 hg10 hg910 ha
  have k5 : w10.cell? ⟨kb, 5, none⟩ = some (.int .i64 0) := hk10.cellv 5 rfl
  have fk5 := hk10.frozen 5
  have ltk := hk10.lt
  obtain ⟨hk11, g11⟩ := blk_store hk10 5 (.int .i64 b)
  have hk11' : Blk _ kb 186 (lnkV ⟨f, b, 0⟩ (.pointer none) (.pointer none)) := hk11
  replace hk11 := Lib.hid hk11'
  replace g11 := Lib.hid g11
  clear hk11'
  go_upto_region 14 with (fail)
  replace hk11 := hk11.out
  have hC11 : Chg w10 _ (fun k => k = kb) := Chg.of_grown g11.out rfl
  have hr14 := hC11.blk hr13 hkg.2.2.2.1
  have hq14 := hC11.blk hq13 hkg.2.2.2.2
  have hg14 := hC11.blk hg13 hkg.1.symm
  have hN14 := hN13.chg hC11 (fun k hk q1 => hkN (q1 ▸ hk))
  have ha11 := hC11.ent ha10 hkg.2.1.symm
  have hC111 := hC110.trans hC11 (fun i hi q1 => by omega)
  clear g11 k5 fk5 ltk hr13 hq13 hg13 hN13 ha10 hC110 hk10
  generalize w10.setCell ⟨kb, 5, none⟩ (.int .i64 b) = w11 at *
  obtain ⟨u, hu⟩ := cyc_back h9.cyc
  have hbe : bk' e ∈ e :: l' := by rw [hu]; simp
  clear hu
  go_upto_region 15 with (go_at_call 119; refine (last_new w11 g ro idl (max now t) m e (ca + 1) we' hg14 _ _ _ _ hN14 kb ⟨f, b, 0⟩ none none hk11 hkN (by simp) hbe).mono ?_; rintro en w12 ⟨rfl, hN15, hk15, hC12⟩)
  have hkeep : ∀ k, k ≠ kb → k ∉ e :: l' → ¬ (k = kb ∨ k ∈ e :: l') := fun k q1 q2 q3 => q3.elim q1 q2
  have hr15 := hC12.blk hr14 (hkeep rb hkg.2.2.2.1 (fun q1 => hapart rb hlo.2.1 (.inr (.inr (hs2 _ q1)))))
  have hq15 := hC12.blk hq14 (hkeep gb hkg.2.2.2.2 (fun q1 => hapart gb hlo2.1 (.inr (.inr (hs2 _ q1)))))
  have hg15 := hC12.blk hg14 (hkeep g hkg.1.symm h9.gN)
  have ha12 := hC12.ent ha11 (hkeep m hkg.2.1.symm h9.mN)
  have h12 := h9.link hkN hg15 hN15 hk15 ⟨_, ha12, hp.append_right _⟩ hf
  have hC112 := hC111.trans hC12 (fun i hi q1 => q1.elim (fun q2 => by omega) fun q2 => .inr (.inr (hs2 _ q2)))
  clear hr14 hq14 hg14 hN14 ha11 hC111 hk11 hN15 hk15 hg15 ha12 hp
  have z0 : w12.cell? ⟨gb, 0, none⟩ = some (.int .i64 gv.fl.pr) := hq15.cellv 0 rfl
  have z1 : w12.cell? ⟨gb, 1, none⟩ = some (.int .u32 gv.fl.src) := hq15.cellv 1 rfl
  have z2 : w12.cell? ⟨gb, 2, none⟩ = some (.int .u32 gv.fl.dst) := hq15.cellv 2 rfl
  have z3 : w12.cell? ⟨gb, 3, none⟩ = some (.int .i64 gv.fl.sp) := hq15.cellv 3 rfl
  have z4 : w12.cell? ⟨gb, 4, none⟩ = some (.int .i64 gv.fl.dp) := hq15.cellv 4 rfl
  have z5 : w12.cell? ⟨gb, 5, none⟩ = some (.int .i64 gv.be) := hq15.cellv 5 rfl
  have z6 : w12.cell? ⟨gb, 6, none⟩ = some (.int .i64 gv.la) := hq15.cellv 6 rfl
  have ltq := hq15.lt
  go_wp2_with (refine wpList_store_blk rfl hr15 86 (.tmp 8) (.tmp 60) rfl rfl rfl rfl got_entry (by simp [Value.oneCell']) ?_; intro w13 hr16 hg13)
  try rw [Exit.noGoto_ret]
  refine bodyPost_ret (results_ct rfl _ rfl (load_blk hr16 Tryz.underlying86 rfl got_entry)) rfl ?_
  have hC13 : Chg w12 w13 (fun k => k = rb) := Chg.of_grown hg13 rfl
  refine ⟨gv, md, l', we', kb, _, _, rfl, hsp.out, hkw, h12.chg hC13 (fun q1 => hapart rb hlo.2.1 (.inl q1.symm)) (fun q1 => hapart rb hlo.2.1 (.inr (.inl q1.symm))) (fun k hk q1 => ?_), hC112.trans hC13 (fun i hi q1 => by omega)⟩
  subst q1
  rcases List.mem_cons.1 hk with q2 | q2
  · exact hapart k hlo.2.1 (.inr (.inr (by rw [q2]; simp)))
  · rcases List.mem_append.1 q2 with q2 | q2
    · exact hapart k hlo.2.1 (.inr (.inr (hs2 _ (List.mem_cons_of_mem _ q2))))
    · exact hkg.2.2.2.1 (by simpa using q2)
end Go.Proofs.YtgdeecmhhbdjgaaGreat
