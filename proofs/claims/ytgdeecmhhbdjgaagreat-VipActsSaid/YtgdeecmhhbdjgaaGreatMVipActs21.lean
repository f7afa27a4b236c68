import Derived.Test.YtgdeecmhhbdjgaaGreatMVipActs18
import Derived.Deep.LoopGhost
/- vip: the program's table of flows: Copy. -/
namespace Go.Proofs.YtgdeecmhhbdjgaaGreat
set_option linter.unusedVariables false
open Go Go.RowKit Go.Maps

set_option maxRecDepth 100000 in
set_option maxHeartbeats 16000000 in
theorem copyStep (w : World) (k ob : Nat) (x : EnV) (b n : Nat) (hk : Blk w k 186 (lnkC x b n)) {g2 m2 e2 : Nat} {ro idl now ca we : Int} {l2 : List Nat} {dt2 : Nat → EnV} {bk2 nx2 : Nat → Nat} (h2 : RingV w g2 m2 e2 ro idl now ca we l2 dt2 bk2 nx2) (hob : Blk w ob 59 #[.pointer (some ⟨g2, 0, none⟩)]) (hok : FloOk x.fl) (hno : ∀ j ∈ l2, (dt2 j).fl ≠ x.fl) (hkx : ¬ (k = g2 ∨ k = m2 ∨ k ∈ e2 :: l2)) :
    Calls Tryz.prog 189 #[.pointer (some ⟨k, 0, none⟩), .pointer (some ⟨ob, 0, none⟩)] w fun e w' => e = .returned (.bool true) ∧ ∃ bk' nx', RingV w' g2 m2 e2 ro idl now ca we (l2 ++ [w.heap.size]) (upd dt2 w.heap.size x) bk' nx' ∧ Chg w w' (fun i => i = g2 ∨ i = m2 ∨ i ∈ e2 :: l2) := by
  have x0 : w.cell? ⟨k, 0, none⟩ = some (.int .i64 x.fl.pr) := hk.cellv 0 rfl
  have x1 : w.cell? ⟨k, 1, none⟩ = some (.int .u32 x.fl.src) := hk.cellv 1 rfl
  have x2 : w.cell? ⟨k, 2, none⟩ = some (.int .u32 x.fl.dst) := hk.cellv 2 rfl
  have x3 : w.cell? ⟨k, 3, none⟩ = some (.int .i64 x.fl.sp) := hk.cellv 3 rfl
  have x4 : w.cell? ⟨k, 4, none⟩ = some (.int .i64 x.fl.dp) := hk.cellv 4 rfl
  have x5 : w.cell? ⟨k, 5, none⟩ = some (.int .i64 x.be) := hk.cellv 5 rfl
  have x6 : w.cell? ⟨k, 6, none⟩ = some (.int .i64 x.la) := hk.cellv 6 rfl
  have ltk := hk.lt
  have hlt := h2.lt
  have hB := (Below.refl w.heap.size w).alloc (Nat.le_refl _) (.cells #[.int .i64 x.fl.pr, .int .u32 x.fl.src, .int .u32 x.fl.dst, .int .i64 x.fl.sp, .int .i64 x.fl.dp, .int .i64 x.be, .int .i64 x.la, .pointer none, .pointer none] 186)
  have hn1 : Blk _ w.heap.size 186 (lnkV x (.pointer none) (.pointer none)) := Blk.new w 186 #[.int .i64 x.fl.pr, .int .u32 x.fl.src, .int .u32 x.fl.dst, .int .i64 x.fl.sp, .int .i64 x.fl.dp, .int .i64 x.be, .int .i64 x.la, .pointer none, .pointer none]
  have hr1 := h2.fwd hB
  have hk1 := hk.below hB ltk
  have hob1 := hob.below hB hob.lt
  have hobx : ¬ (ob = g2 ∨ ob = m2 ∨ ob ∈ e2 :: l2) := fun q => by
    rcases q with q | q | q
    · exact blk_apart hob h2.blk (by decide) q
    · obtain ⟨A, ha, _⟩ := h2.ent
      exact ent_blk_ne ha hob q
    · exact blk_apart hob (h2.nod ob q) (by decide) rfl
  have hobl := hob.lt
  go_enter Tryz.func189, Tryz.ntmps189
  go_upto_region 2 with (fail)
  clear x0 x1 x2 x3 x4 x5 x6 hk hob h2
  generalize w.alloc (.cells #[.int .i64 x.fl.pr, .int .u32 x.fl.src, .int .u32 x.fl.dst, .int .i64 x.fl.sp, .int .i64 x.fl.dp, .int .i64 x.be, .int .i64 x.la, .pointer none, .pointer none] 186) = w1 at *
  obtain ⟨kb, hkb⟩ : ∃ kb, kb = w.heap.size := ⟨_, rfl⟩
  rw [← hkb] at hn1 ⊢
  have hkN : kb ∉ e2 :: l2 := fun q1 => by have := hlt.2.2 kb q1; omega
  have hkg : kb ≠ g2 ∧ kb ≠ m2 ∧ kb ≠ ob ∧ kb ≠ k := ⟨by have := hlt.1; omega, by have := hlt.2.1; omega, by omega, by omega⟩
  replace hkb := Lib.hid hkb
  have c3 : w1.cell? ⟨g2, 3, none⟩ = some (.map (some m2)) := hr1.blk.cellv 3 rfl
  have o0 : w1.cell? ⟨ob, 0, none⟩ = some (.pointer (some ⟨g2, 0, none⟩)) := hob1.cellv 0 rfl
  have y0 : w1.cell? ⟨kb, 0, none⟩ = some (.int .i64 x.fl.pr) := hn1.cellv 0 rfl
  have y1 : w1.cell? ⟨kb, 1, none⟩ = some (.int .u32 x.fl.src) := hn1.cellv 1 rfl
  have y2 : w1.cell? ⟨kb, 2, none⟩ = some (.int .u32 x.fl.dst) := hn1.cellv 2 rfl
  have y3 : w1.cell? ⟨kb, 3, none⟩ = some (.int .i64 x.fl.sp) := hn1.cellv 3 rfl
  have y4 : w1.cell? ⟨kb, 4, none⟩ = some (.int .i64 x.fl.dp) := hn1.cellv 4 rfl
  have ltg := hr1.blk.lt
  have lto := hob1.lt
  have ltn := hn1.lt
  have hgm := hr1.gm
  have hom : ob ≠ m2 := fun q => hobx (.inr (.inl q))
  have hkm := hkg.2.1
  obtain ⟨A, ha, hp⟩ := hr1.ent
  obtain ⟨kl, hkl⟩ := flo_lit x.fl hok
  have hnew : floV x.fl ∉ A.map Prod.fst := fun q1 => by
    obtain ⟨y, hy, hy2⟩ := List.mem_map.1 q1
    obtain ⟨j, hj, rfl⟩ := List.mem_map.1 (hp.mem_iff.1 hy)
    exact hno j hj (flo_inj hy2)
  try refine wp_region_noPanic ?_
  have hs1r : w1.grownBy w1.drew (some m2) := grown_drew (grown_refl _ _)
  refine wp_region_held_drew (S := fun w' => w1.grownBy w' (some m2)) (by kernel_rfl) hs1r (fun _ => ?_)
  (refine held_takeA 0 (by rfl) ?_ (by kernel_rfl) (fun _ _ _ h => h) hs1r ?_ ?_; rotate_left; (focus (intro wq hSw; have hrd := zG hSw; go_simp; try with_reducible rfl; done)); try simp only [Act.put, zA, zB, zC])
  (refine held_takeA 1 (by rfl) ?_ (by kernel_rfl) (fun _ _ _ h => h) hs1r ?_ ?_; rotate_left; (focus (intro wq hSw; have hrd := zG hSw; go_simp; try with_reducible rfl; done)); try simp only [Act.put, zA, zB, zC])
  (refine held_takeA 2 (by rfl) ?_ (by kernel_rfl) (fun _ _ _ h => h) hs1r ?_ ?_; rotate_left; (focus (intro wq hSw; have hrd := zG hSw; go_simp; try with_reducible rfl; done)); try simp only [Act.put, zA, zB, zC])
  (refine held_takeA 3 (by rfl) ?_ (by kernel_rfl) (fun _ _ _ h => h) hs1r ?_ ?_; rotate_left; (focus (intro wq hSw; have hrd := zG hSw; go_simp; try with_reducible rfl; done)); try simp only [Act.put, zA, zB, zC])
  (refine held_takeA 4 (by rfl) ?_ (by kernel_rfl) (fun _ _ _ h => h) hs1r ?_ ?_; rotate_left; (focus (intro wq hSw; have hrd := zG hSw; go_simp; try with_reducible rfl; done)); try simp only [Act.put, zA, zB, zC])
  (refine held_takeA 5 (by rfl) ?_ (by kernel_rfl) (fun _ _ _ h => h) hs1r ?_ ?_; rotate_left; (focus (intro wq hSw; have hrd := zG hSw; go_simp; try with_reducible rfl; done)); try simp only [Act.put, zA, zB, zC])
  (refine held_takeA 6 (by rfl) ?_ (by kernel_rfl) (fun _ _ _ h => h) hs1r ?_ ?_; rotate_left; (focus (intro wq hSw; have hrd := zG hSw; go_simp; try with_reducible rfl; done)); try simp only [Act.put, zA, zB, zC])
  (refine held_takeA 7 (by rfl) ?_ (by kernel_rfl) (fun _ _ _ h => h) hs1r ?_ ?_; rotate_left; (focus (intro wq hSw; have hrd := zG hSw; go_simp; try with_reducible rfl; done)); try simp only [Act.put, zA, zB, zC])
  (refine held_takeA 8 (by rfl) ?_ (by kernel_rfl) (fun _ _ _ h => h) hs1r ?_ ?_; rotate_left; (focus (intro wq hSw; have hrd := zG hSw; go_simp; try with_reducible rfl; done)); try simp only [Act.put, zA, zB, zC])
  (refine held_takeA 9 (by rfl) ?_ (by kernel_rfl) (fun _ _ _ h => h) hs1r ?_ ?_; rotate_left; (focus (intro wq hSw; have hrd := zG hSw; go_simp; try with_reducible rfl; done)); try simp only [Act.put, zA, zB, zC])
  refine held_callA 10 (by rfl) (by kernel_rfl) (by rfl) (fun KQ hKQ => ?_)
  refine wp_put_new (key := floV x.fl) (val := .pointer (some ⟨kb, 0, none⟩)) ha.drew fkey fmap_und (.tmp 14) (.tmp 19) (.tmp 20) (by rfl) (by rfl) (by rfl) (by rfl) hkl hnew ?_
  intro w10 ha10 hg10
  refine hKQ.out _ _ (grown_trans hs1r hg10) (held_mono (S' := fun w' => w10.grownBy w' (some m2)) (fun w' h => grown_trans (grown_trans hs1r hg10) h) _ _ _ _ ?_)
  clear hKQ KQ
  have hs2r : w10.grownBy w10 (some m2) := grown_refl _ _
  try simp only [Act.put]
  refine wpAnyH_done (by kernel_rfl) ?_ _
  try refine NoPanic.normal ?_
  have hg910 : w1.grownBy w10 (some m2) := grown_trans (grown_drew (grown_refl w1 (some m2))) hg10
  have hC10 : Chg w1 w10 (fun k => k = m2) := Chg.of_grown hg910 rfl
  have hk10 := hC10.blk hn1 hkg.2.1
  have hs10 := hC10.blk hk1 (fun q => hkx (.inr (.inl q)))
  have ho10 := hC10.blk hob1 hom
  have hg13 := hC10.blk hr1.blk hgm
  have hN13 := hr1.nod.chg hC10 (fun k hk q1 => hr1.mN (q1 ▸ hk))
  have hCw : Chg w w10 (fun i => i = g2 ∨ i = m2 ∨ i ∈ e2 :: l2) := (Chg.of_below (X := fun i => i = g2 ∨ i = m2 ∨ i ∈ e2 :: l2) hB).trans hC10 (fun i hi q1 => .inr (.inl q1))
  clear c3 o0 y0 y1 y2 y3 y4 ltg lto ltn hg10 hg910 ha hn1 hk1 hob1
  obtain ⟨u, hu⟩ := cyc_back hr1.cyc
  have hbe : bk2 e2 ∈ e2 :: l2 := by rw [hu]; simp
  clear hu
  have o0 : w10.cell? ⟨ob, 0, none⟩ = some (.pointer (some ⟨g2, 0, none⟩)) := ho10.cellv 0 rfl
  have lto := ho10.lt
  go_upto_region 4 with (go_at_call 119; refine (last_new w10 g2 ro idl now m2 e2 ca we hg13 _ _ _ _ hN13 kb x none none hk10 hkN (by simp) hbe).mono ?_; rintro en w12 ⟨rfl, hN15, hk15, hC12⟩)
  have hkeep : ∀ i, i ≠ kb → i ∉ e2 :: l2 → ¬ (i = kb ∨ i ∈ e2 :: l2) := fun i q1 q2 q3 => q3.elim q1 q2
  have hs15 := hC12.blk hs10 (hkeep k hkg.2.2.2.symm (fun q => hkx (.inr (.inr q))))
  have hg15 := hC12.blk hg13 (hkeep g2 hkg.1.symm hr1.gN)
  have ha12 := hC12.ent ha10 (hkeep m2 hkg.2.1.symm hr1.mN)
  have hkw : w.heap.size ≤ kb := by rw [hkb.out]; exact Nat.le_refl _
  have hCw2 := hCw.trans hC12 (fun i hi q1 => q1.elim (fun q2 => by omega) fun q2 => .inr (.inr q2))
  clear o0 lto hg13 hN13 ha10 hk10 hs10 ho10
  have s6 : w12.cell? ⟨k, 6, none⟩ = some (.int .i64 x.la) := hs15.cellv 6 rfl
  have lts := hs15.lt
  have k6 : w12.cell? ⟨kb, 6, none⟩ = some (.int .i64 now) := hk15.cellv 6 rfl
  have fk6 := hk15.frozen 6
  have ltk15 := hk15.lt
  obtain ⟨hk16, g16⟩ := blk_store hk15 6 (.int .i64 x.la)
  have hk16' : Blk (w12.setCell ⟨kb, 6, none⟩ (.int .i64 x.la)) kb 186 (lnkC x (bk2 e2) e2) := hk16
  have hC16 : Chg w12 (w12.setCell ⟨kb, 6, none⟩ (.int .i64 x.la)) (fun i => i = kb) := Chg.of_grown g16 rfl
  have h16 := hr1.link hkN (hC16.blk hg15 hkg.1.symm) (hN15.chg hC16 (fun i hi q1 => hkN (q1 ▸ hi))) hk16' ⟨_, hC16.ent ha12 hkg.2.1.symm, hp.append_right _⟩ hok
  have hCw3 := hCw2.trans hC16 (fun i hi q1 => by omega)
  replace h16 := Lib.hid h16
  replace hCw3 := Lib.hid hCw3
  clear hk16 hk16' g16 hC16
  go_wp2_with fail
  go_ret
  have e9 := hkb.out
  subst e9
  exact ⟨rfl, _, _, h16.out, hCw3.out⟩
theorem cyc_step2 {bk nx : Nat → Nat} {e x : Nat} {p q : List Nat} (h : Cyc bk nx e (p ++ x :: q)) : ∃ v, q ++ [e] = nx x :: v := (cyc_at h).2
set_option maxRecDepth 100000 in
set_option maxHeartbeats 16000000 in
theorem eachCopy {w : World} {g m e : Nat} {ro idl now ca we : Int} {l : List Nat} {dt : Nat → EnV} {bk nx : Nat → Nat} (h : RingV w g m e ro idl now ca we l dt bk nx) (B ob : Nat) {g2 m2 e2 : Nat} {dt2 : Nat → EnV} {bk2 nx2 : Nat → Nat} (h2 : RingV w g2 m2 e2 ro idl now ca we [] dt2 bk2 nx2) (hob : Blk w ob 59 #[.pointer (some ⟨g2, 0, none⟩)]) (hold : ∀ k, k = g ∨ k = m ∨ k ∈ e :: l → k < B) (hnew : B ≤ g2 ∧ B ≤ m2 ∧ B ≤ e2) (hBw : B ≤ w.heap.size) :
    Calls Tryz.prog 188 #[.pointer (some ⟨g, 0, none⟩), .func (.func 189) #[] #[.pointer (some ⟨ob, 0, none⟩)]] w fun en w' => en = .returned (.tuple #[]) ∧ ∃ l' dt' bk' nx', RingV w' g2 m2 e2 ro idl now ca we l' dt' bk' nx' ∧ l'.map dt' = l.map dt ∧ (∀ k ∈ l', B ≤ k) ∧ Blk w' ob 59 #[.pointer (some ⟨g2, 0, none⟩)] ∧ Chg w w' (fun k => B ≤ k) := by
  obtain ⟨v0, hv0⟩ := cyc_next h.cyc
  have hfl := h.flows
  have c4 : w.cell? ⟨g, 4, none⟩ = some (.pointer (some ⟨e, 0, none⟩)) := h.blk.cellv 4 rfl
  have e8 : w.cell? ⟨e, 8, none⟩ = some (.pointer (some ⟨nx e, 0, none⟩)) := (h.nod e (by simp)).cellv 8 rfl
  have ltg := h.blk.lt
  have lte := (h.nod e (by simp)).lt
  replace hv0 := Lib.hid hv0
  replace hfl := Lib.hid hfl
  go_enter Tryz.func188, Tryz.ntmps188
  go_wp2_with (go_at_call 115; refine (madeF_in h).mono ?_; rintro en w' ⟨rfl, rfl⟩)
  go_loopg [4] (l.length + 1) (fun gf cv wr => ∃ (p q : List Nat) (c : Nat) (tl l2 : List Nat) (dt2 : Nat → EnV) (bk2 nx2 : Nat → Nat), cv = .pointer (some ⟨c, 0, none⟩) ∧ l = p ++ q ∧ q ++ [e] = c :: tl ∧ q.length + 1 ≤ gf ∧ RingV wr g m e ro idl now ca we l dt bk nx ∧ RingV wr g2 m2 e2 ro idl now ca we l2 dt2 bk2 nx2 ∧ l2.map dt2 = p.map dt ∧ (∀ k ∈ l2, B ≤ k) ∧ Blk wr ob 59 #[.pointer (some ⟨g2, 0, none⟩)] ∧ Chg w wr (fun k => B ≤ k))
  case atStart => exact ⟨[], l, nx e, v0, [], dt2, bk2, nx2, rfl, rfl, hv0.out, Nat.le_refl _, h, h2, rfl, by simp, hob, Chg.refl _ _⟩
  case round =>
  clear h h2 hob c4 e8 ltg lte
  obtain ⟨p, q, c, tl, l2, dt2, bk2, nx2, rfl, hpq, hq, hgf, h, h2, hmp, hl2, hob, hC⟩ := hrel
  replace hpq := Lib.hid hpq
  replace hmp := Lib.hid hmp
  replace hl2 := Lib.hid hl2
  have c4 : wr.cell? ⟨g, 4, none⟩ = some (.pointer (some ⟨e, 0, none⟩)) := h.blk.cellv 4 rfl
  have ltg := h.blk.lt
  have hz := hC.size
  cases q with
  | nil =>
    simp at hq
    obtain ⟨rfl, -⟩ := hq
    have hns := neq_same (w := wr) e
    go_wp2_with fail
    go_end0
    have e1 : l = p := by have := hpq.out; simpa using this
    refine ⟨rfl, l2, dt2, bk2, nx2, h2, by rw [hmp.out, e1], hl2.out, hob, hC⟩
  | cons x q =>
    rw [List.cons_append] at hq
    injection hq with hxc _
    subst hxc
    have hxl : x ∈ l := by rw [hpq.out]; simp
    have hnd := h.nd
    rw [List.nodup_cons] at hnd
    have hxe : x ≠ e := fun q1 => hnd.1 (q1 ▸ hxl)
    have hcyc := h.cyc
    rw [hpq.out] at hcyc
    obtain ⟨v1, hv1⟩ := cyc_step2 hcyc
    have hx := h.nod x (List.mem_cons_of_mem _ hxl)
    have x8 : wr.cell? ⟨x, 8, none⟩ = some (.pointer (some ⟨nx x, 0, none⟩)) := hx.cellv 8 rfl
    have ltx := hx.lt
    have hxo := hold x (.inr (.inr (List.mem_cons_of_mem _ hxl)))
    have hsep : ∀ k, k < B → ¬ (k = g2 ∨ k = m2 ∨ k ∈ e2 :: l2) := fun k hk q1 => by
      rcases q1 with q1 | q1 | q1
      · have := hnew.1; omega
      · have := hnew.2.1; omega
      · rcases List.mem_cons.1 q1 with q2 | q2
        · have := hnew.2.2; omega
        · have := hl2.out k q2; omega
    have hobx : ¬ (ob = g2 ∨ ob = m2 ∨ ob ∈ e2 :: l2) := fun q => by
      rcases q with q | q | q
      · exact blk_apart hob h2.blk (by decide) q
      · obtain ⟨A, ha, _⟩ := h2.ent
        exact ent_blk_ne ha hob q
      · exact blk_apart hob (h2.nod ob q) (by decide) rfl
    have hno2 : ∀ j ∈ l2, (dt2 j).fl ≠ (dt x).fl := fun j hj e1 => by
      have h1 : dt2 j ∈ p.map dt := by rw [← hmp.out]; exact List.mem_map.2 ⟨j, hj, rfl⟩
      obtain ⟨i, hi, hi2⟩ := List.mem_map.1 h1
      have h3 := hfl.out
      rw [hpq.out, List.map_append, List.map_cons, List.nodup_append] at h3
      exact h3.2.2 _ (List.mem_map.2 ⟨i, hi, rfl⟩) _ (List.mem_cons_self) (by show (dt i).fl = (dt x).fl; rw [hi2]; exact e1)
    replace hv1 := Lib.hid hv1
    replace hobx := Lib.hid hobx
    replace hsep := Lib.hid hsep
    have hno := neq_other hx (h.nod e (by simp)) hxe
    have hokx := h.ok x hxl
    clear hcyc hnd
    go_wp2_with (go_at_call 189; refine (copyStep wr x ob (dt x) (bk x) (nx x) hx h2 hob hokx hno2 (hsep.out x hxo)).mono ?_; rintro en w2 ⟨rfl, bk3, nx3, hr3, hC3⟩)
    go_roundg (q.length + 1)
    case measure => simp at hgf; omega
    case rel =>
      have hkl : wr.heap.size ∉ l2 := fun q => by have := h2.lt.2.2 _ (List.mem_cons_of_mem _ q); omega
      have hCk : ∀ k, k < B → ¬ (k = g2 ∨ k = m2 ∨ k ∈ e2 :: l2) := hsep.out
      refine ⟨p ++ [x], q, nx x, v1, l2 ++ [wr.heap.size], _, bk3, nx3, rfl, by rw [hpq.out]; simp, hv1.out, Nat.le_refl _, h.chg hC3 (hCk _ (hold _ (.inl rfl))) (hCk _ (hold _ (.inr (.inl rfl)))) (fun k hk => hCk _ (hold _ (.inr (.inr hk)))), hr3, ?_, fun k hk => ?_, hC3.blk hob hobx.out, hC.trans hC3 fun k _ q1 => ?_⟩
      · rw [List.map_append, List.map_append, map_upd hkl, hmp.out]
        simp [upd_same]
      · rcases List.mem_append.1 hk with hk | hk
        · exact hl2.out k hk
        · have : k = wr.heap.size := by simpa using hk
          omega
      · rcases q1 with q1 | q1 | q1
        · have := hnew.1; omega
        · have := hnew.2.1; omega
        · rcases List.mem_cons.1 q1 with q2 | q2
          · have := hnew.2.2; omega
          · exact hl2.out k q2
end Go.Proofs.YtgdeecmhhbdjgaaGreat

/- vip: the program's table of flows: Copy, whole. -/
namespace Go.Proofs.YtgdeecmhhbdjgaaGreat
set_option linter.unusedVariables false
open Go Go.RowKit Go.Maps

set_option maxRecDepth 100000 in
set_option maxHeartbeats 16000000 in
theorem copyFX {w : World} {X : Nat → Prop} {g : Nat} {ro idl now : Int} {n : Nat} {E : List EnV} (h : TabF w X g ro idl now n E) (hn : n ≤ 1000000) : Calls Tryz.prog 101 #[.pointer (some ⟨g, 0, none⟩)] w fun en w' => ∃ g2 X2, en = .returned (.pointer (some ⟨g2, 0, none⟩)) ∧ TabF w' X2 g2 ro idl now n E ∧ (∀ k, X2 k → w.heap.size ≤ k) ∧ Below w.heap.size w w' := by
  obtain ⟨m, e, ca, we, l, dt, bk, nx, h1, h2, h3, h4, h5, h6, h7, h8, h9, h10⟩ := h
  have c0 : w.cell? ⟨g, 0, none⟩ = some (.int .i64 ro) := h1.blk.cellv 0 rfl
  have c1 : w.cell? ⟨g, 1, none⟩ = some (.int .i64 idl) := h1.blk.cellv 1 rfl
  have ltg := h1.blk.lt
  go_enter Tryz.func101, Tryz.ntmps101
  go_upto_region 3 with (go_at_call 115; refine (madeF_in h1).mono ?_; rintro en w' ⟨rfl, rfl⟩)
  try refine wp_region_noPanic ?_
  have hs1r : (fun w' => Below w.heap.size w w') w.drew := (Below.refl _ _).drew
  refine wp_region_E 10 (S := fun w' => Below w.heap.size w w') (by kernel_rfl) hs1r (fun _ => ?_)
  (refine e_takeA 0 (by rfl) ?_ (by kernel_rfl) (fun _ _ _ h => h) hs1r ?_ ?_; rotate_left; (focus (intro wq hSw; have hrd := hSw; have hrd2 := zR hSw; go_simp; try with_reducible rfl; done)); try simp only [Act.put, zA, zB, zC])
  (refine e_takeA 1 (by rfl) ?_ (by kernel_rfl) (fun _ _ _ h => h) hs1r ?_ ?_; rotate_left; (focus (intro wq hSw; have hrd := hSw; have hrd2 := zR hSw; go_simp; try with_reducible rfl; done)); try simp only [Act.put, zA, zB, zC])
  (refine e_takeA 2 (by rfl) ?_ (by kernel_rfl) (fun _ _ _ h => h) hs1r ?_ ?_; rotate_left; (focus (intro wq hSw; have hrd := hSw; have hrd2 := zR hSw; go_simp; try with_reducible rfl; done)); try simp only [Act.put, zA, zB, zC])
  (refine e_takeA 3 (by rfl) ?_ (by kernel_rfl) (fun _ _ _ h => h) hs1r ?_ ?_; rotate_left; (focus (intro wq hSw; have hrd := hSw; have hrd2 := zR hSw; go_simp; try with_reducible rfl; done)); try simp only [Act.put, zA, zB, zC])
  (refine e_takeA 4 (by rfl) ?_ (by kernel_rfl) (fun _ _ _ h => h) hs1r ?_ ?_; rotate_left; (focus (intro wq hSw; have hrd := hSw; have hrd2 := zR hSw; go_simp; try with_reducible rfl; done)); try simp only [Act.put, zA, zB, zC])
  (refine e_takeA 5 (by rfl) ?_ (by kernel_rfl) (fun _ _ _ h => h) hs1r ?_ ?_; rotate_left; (focus (intro wq hSw; have hrd := hSw; have hrd2 := zR hSw; go_simp; try with_reducible rfl; done)); try simp only [Act.put, zA, zB, zC])
  (refine e_takeA 6 (by rfl) ?_ (by kernel_rfl) (fun _ _ _ h => h) hs1r ?_ ?_; rotate_left; (focus (intro wq hSw; have hrd := hSw; have hrd2 := zR hSw; go_simp; try with_reducible rfl; done)); try simp only [Act.put, zA, zB, zC])
  (refine e_takeA 7 (by rfl) ?_ (by kernel_rfl) (fun _ _ _ h => h) hs1r ?_ ?_; rotate_left; (focus (intro wq hSw; have hrd := hSw; have hrd2 := zR hSw; go_simp; try with_reducible rfl; done)); try simp only [Act.put, zA, zB, zC])
  refine e_two 8 9 (by rfl) (by rfl) (by kernel_rfl) (by rfl) (by rfl) (fun KQ hKQ => ?_) (fun KQ hKQ => ?_)
  · skip
    go_simp
    refine (newFX w.drew ro idl h5.1 h5.2 h6.1 h6.2).mono ?_
    rintro en w2 ⟨g2, X2, rfl, hT2, hX2, hb2⟩
    have hbn : Below w.heap.size w w2 := (Below.refl w.heap.size w).drew.trans (hb2.mono (Below.refl w.heap.size w).drew.size)
    have hX2w : ∀ k, X2 k → w.heap.size ≤ k := fun k q => Nat.le_trans (Below.refl w.heap.size w).drew.size (hX2 k q)
    have hs2r := hbn
    refine hKQ.out _ _ hs2r ?_
    clear hKQ KQ
    try simp only [Act.put, zA, zB, zC]
    refine e_callA 9 (by rfl) (by kernel_rfl) (by rfl) (fun KQ hKQ => ?_)
    go_simp
    have hobX : ¬ X2 w2.heap.size := fun q => Nat.lt_irrefl _ (hT2.good.2.2.2.2 _ q)
    replace hT2 := hT2.fwd ((Below.refl w2.heap.size w2).alloc (Nat.le_refl _) (.cells #[.pointer none] 59))
    have hob := Blk.new w2 59 #[.pointer none]
    have hobw := hbn.size
    replace hbn := hbn.alloc hbn.size (.cells #[.pointer none] 59)
    clear hb2
    generalize w2.alloc (.cells #[.pointer none] 59) = w3 at *
    generalize w2.heap.size = ob at *
    have hs3r := hbn
    refine hKQ.out _ _ hs3r ?_
    clear hKQ KQ
    try simp only [Act.put, zA, zB, zC]
    have f0 := hob.frozen 0
    have lt0 := hob.lt
    have q0 := hob.cellv 0 rfl
    refine e_last (by rfl) (by kernel_rfl) (by rfl) (fun KQ hKQ => ?_)
    go_simp
    obtain ⟨hob4, hg4⟩ := blk_store hob 0 (.pointer (some ⟨g2, 0, none⟩))
    replace hob4 : Blk _ ob 59 #[.pointer (some ⟨g2, 0, none⟩)] := hob4
    have hB4 := below_own hbn hg4 hbn.size hobw
    have hT4 := hT2.chg (Chg.of_grown (X := fun k => k = ob) hg4 rfl) (fun k hk e => hobX (e ▸ hk))
    generalize hw4 : World.setCell _ ⟨ob, 0, none⟩ (.pointer (some ⟨g2, 0, none⟩)) = w4 at *
    refine hKQ.out _ _ ?_
    clear hKQ KQ
    try simp only [Act.put]
    refine e_done (by kernel_rfl) ?_ _
    try refine NoPanic.normal ?_
    clear hT2 hob hg4 hbn c0 c1 ltg f0 q0 lt0 hw4
    obtain ⟨m2, e2, ca2, we2, l2, dt2, bk2, nx2, r1, r2, -, -, -, -, -, -, r9, r10⟩ := hT4
    have hl2 : l2 = [] := List.map_eq_nil_iff.1 r2
    subst hl2
    have h14 := h1.fwd hB4
    have hlt1 := h1.lt
    have hnew : w.heap.size ≤ g2 ∧ w.heap.size ≤ m2 ∧ w.heap.size ≤ e2 := ⟨hX2w _ (r9 _ (.inl rfl)), hX2w _ (r9 _ (.inr (.inl rfl))), hX2w _ (r9 _ (.inr (.inr (by simp))))⟩
    have n1 : g ≠ g2 := by have := hlt1.1; omega
    have n2 : ob ≠ g2 := fun e => hobX (e ▸ r9 _ (.inl rfl))
    have c2 : w4.cell? ⟨g, 2, none⟩ = some (.int .i64 now) := h14.blk.cellv 2 rfl
    have c5 : w4.cell? ⟨g, 5, none⟩ = some (.int .i64 ca) := h14.blk.cellv 5 rfl
    have c6 : w4.cell? ⟨g, 6, none⟩ = some (.int .i64 we) := h14.blk.cellv 6 rfl
    have d2 : w4.cell? ⟨g2, 2, none⟩ = some (.int .i64 0) := r1.blk.cellv 2 rfl
    have d5 : w4.cell? ⟨g2, 5, none⟩ = some (.int .i64 ca2) := r1.blk.cellv 5 rfl
    have d6 : w4.cell? ⟨g2, 6, none⟩ = some (.int .i64 we2) := r1.blk.cellv 6 rfl
    have f2 := r1.blk.frozen 2
    have f5 := r1.blk.frozen 5
    have f6 := r1.blk.frozen 6
    have o0 : w4.cell? ⟨ob, 0, none⟩ = some (.pointer (some ⟨g2, 0, none⟩)) := hob4.cellv 0 rfl
    have lt1 := h14.blk.lt
    have lt2 := r1.blk.lt
    have lto := hob4.lt
    obtain ⟨t1, k1⟩ := r1.tab (i := 2) (v := .int .i64 now) (ro2 := ro) (idl2 := idl) (now2 := now) (ca2 := ca2) (we2 := we2) rfl
    obtain ⟨t2, k2⟩ := t1.tab (i := 5) (v := .int .i64 ca) (ro2 := ro) (idl2 := idl) (now2 := now) (ca2 := ca) (we2 := we2) rfl
    obtain ⟨t3, k3⟩ := t2.tab (i := 6) (v := .int .i64 we) (ro2 := ro) (idl2 := idl) (now2 := now) (ca2 := ca) (we2 := we) rfl
    have hC7 : Chg w4 _ (fun k => k = g2) := (k1.trans k2 fun _ _ q => q).trans k3 fun _ _ q => q
    replace t3 := Lib.hid t3
    replace hC7 := Lib.hid hC7
    clear t1 t2 k1 k2 k3
    go_upto_region 4 with (fail)
    go_region
    replace t3 := t3.out
    replace hC7 := hC7.out
    have hob7 := hC7.blk hob4 n2
    have h17 := h14.chg hC7 n1 (fun e => by have := hlt1.2.1; have := hnew.1; omega) (fun k hk e => by have := hlt1.2.2 k hk; have := hnew.1; omega)
    have hB7 : Below w.heap.size w _ := hB4.trans ⟨hC7.os, hC7.tape, hC7.output, hC7.size, fun k hk => hC7.block k (by have := hB4.size; omega) (fun e => by have := hnew.1; omega)⟩
    clear c2 c5 c6 d2 d5 d6 f2 f5 f6 o0 lt1 lt2 lto hob4 h14 hC7
    replace t3 := t3.fwd (Below.refl _ _).drew
    replace h17 := h17.fwd (Below.refl _ _).drew
    replace hob7 := hob7.below (Below.refl _ _).drew hob7.lt
    replace hB7 := hB7.drew
    generalize World.drew _ = w7 at *
    go_upto_region 6 with (go_at_call 188; refine (eachCopy h17 w.heap.size ob t3 hob7 (fun k hk => h10 k (h9 k hk)) hnew hB7.size).mono ?_; rintro en w8 ⟨rfl, l8, dt8, bk8, nx8, hr8, hm8, hl8, hob8, hC8⟩)
    have o0 : w8.cell? ⟨ob, 0, none⟩ = some (.pointer (some ⟨g2, 0, none⟩)) := hob8.cellv 0 rfl
    have lto := hob8.lt
    have hB8 : Below w.heap.size w w8 := hB7.trans ⟨hC8.os, hC8.tape, hC8.output, hC8.size, fun k hk => hC8.block k (by have := hB7.size; omega) (fun e => by omega)⟩
    replace hm8 := Lib.hid hm8
    replace h2 := Lib.hid h2
    go_wp2_with fail
    go_ret
    have hlt8 := hr8.lt
    refine ⟨g2, fun k => w.heap.size ≤ k ∧ k < w8.heap.size, rfl, ⟨m2, e2, ca, we, l8, dt8, bk8, nx8, hr8, hm8.out.trans h2.out, h3, h4, h5, h6, h7, h8, fun k hk => ?_, fun k hk => hk.2⟩, fun k hk => hk.1, hB8⟩
    rcases hk with hk | hk | hk
    · exact ⟨by have := hnew.1; omega, by have := hlt8.1; omega⟩
    · exact ⟨by have := hnew.2.1; omega, by have := hlt8.2.1; omega⟩
    · refine ⟨?_, hlt8.2.2 k hk⟩
      rcases List.mem_cons.1 hk with hk | hk
      · have := hnew.2.2; omega
      · exact hl8 k hk
  · skip
    go_simp
    have hd : (w.alloc (.cells #[.pointer none] 59)).drew = w.drew.alloc (.cells #[.pointer none] 59) := rfl
    have hba := (Below.refl w.heap.size w).drew.alloc (Nat.le_refl _) (.cells #[.pointer none] 59)
    have hob := Blk.new w.drew 59 #[.pointer none]
    try rw [hd]
    generalize w.drew.alloc (.cells #[.pointer none] 59) = wa at *
    clear hd
    have hs4r := hba
    refine hKQ.out _ _ hs4r ?_
    clear hKQ KQ
    try simp only [Act.put, zA, zB, zC]
    refine e_callA 8 (by rfl) (by kernel_rfl) (by rfl) (fun KQ hKQ => ?_)
    go_simp
    refine (newFX wa ro idl h5.1 h5.2 h6.1 h6.2).mono ?_
    rintro en w2 ⟨g2, X2, rfl, hT2, hX2, hb2⟩
    have hbn : Below w.heap.size w w2 := hba.trans (hb2.mono hba.size)
    have hX2w : ∀ k, X2 k → w.heap.size ≤ k := fun k q => Nat.le_trans hba.size (hX2 k q)
    have hobX : ¬ X2 w.heap.size := fun q => by have := hX2 _ q; have := hob.lt; have : w.drew.heap.size = w.heap.size := rfl; omega
    replace hob : Blk w2 w.heap.size 59 #[.pointer none] := hob.below hb2 hob.lt
    have hobw := Nat.le_refl w.heap.size
    have hs5r := hbn
    refine hKQ.out _ _ hs5r ?_
    clear hKQ KQ
    try simp only [Act.put, zA, zB, zC]
    have f0 := hob.frozen 0
    have lt0 := hob.lt
    have q0 := hob.cellv 0 rfl
    refine e_last (by rfl) (by kernel_rfl) (by rfl) (fun KQ hKQ => ?_)
    go_simp
    obtain ⟨hob4, hg4⟩ := blk_store hob 0 (.pointer (some ⟨g2, 0, none⟩))
    replace hob4 : Blk _ w.heap.size 59 #[.pointer (some ⟨g2, 0, none⟩)] := hob4
    have hB4 := below_own hbn hg4 hbn.size hobw
    have hT4 := hT2.chg (Chg.of_grown (X := fun k => k = w.heap.size) hg4 rfl) (fun k hk e => hobX (e ▸ hk))
    generalize hw4 : World.setCell _ ⟨w.heap.size, 0, none⟩ (.pointer (some ⟨g2, 0, none⟩)) = w4 at *
    refine hKQ.out _ _ ?_
    clear hKQ KQ
    try simp only [Act.put]
    refine e_done (by kernel_rfl) ?_ _
    try refine NoPanic.normal ?_
    clear hT2 hob hg4 hbn c0 c1 ltg f0 q0 lt0 hw4
    obtain ⟨m2, e2, ca2, we2, l2, dt2, bk2, nx2, r1, r2, -, -, -, -, -, -, r9, r10⟩ := hT4
    have hl2 : l2 = [] := List.map_eq_nil_iff.1 r2
    subst hl2
    have h14 := h1.fwd hB4
    have hlt1 := h1.lt
    have hnew : w.heap.size ≤ g2 ∧ w.heap.size ≤ m2 ∧ w.heap.size ≤ e2 := ⟨hX2w _ (r9 _ (.inl rfl)), hX2w _ (r9 _ (.inr (.inl rfl))), hX2w _ (r9 _ (.inr (.inr (by simp))))⟩
    have n1 : g ≠ g2 := by have := hlt1.1; omega
    have n2 : w.heap.size ≠ g2 := fun e => hobX (e ▸ r9 _ (.inl rfl))
    have c2 : w4.cell? ⟨g, 2, none⟩ = some (.int .i64 now) := h14.blk.cellv 2 rfl
    have c5 : w4.cell? ⟨g, 5, none⟩ = some (.int .i64 ca) := h14.blk.cellv 5 rfl
    have c6 : w4.cell? ⟨g, 6, none⟩ = some (.int .i64 we) := h14.blk.cellv 6 rfl
    have d2 : w4.cell? ⟨g2, 2, none⟩ = some (.int .i64 0) := r1.blk.cellv 2 rfl
    have d5 : w4.cell? ⟨g2, 5, none⟩ = some (.int .i64 ca2) := r1.blk.cellv 5 rfl
    have d6 : w4.cell? ⟨g2, 6, none⟩ = some (.int .i64 we2) := r1.blk.cellv 6 rfl
    have f2 := r1.blk.frozen 2
    have f5 := r1.blk.frozen 5
    have f6 := r1.blk.frozen 6
    have o0 : w4.cell? ⟨w.heap.size, 0, none⟩ = some (.pointer (some ⟨g2, 0, none⟩)) := hob4.cellv 0 rfl
    have lt1 := h14.blk.lt
    have lt2 := r1.blk.lt
    have lto := hob4.lt
    obtain ⟨t1, k1⟩ := r1.tab (i := 2) (v := .int .i64 now) (ro2 := ro) (idl2 := idl) (now2 := now) (ca2 := ca2) (we2 := we2) rfl
    obtain ⟨t2, k2⟩ := t1.tab (i := 5) (v := .int .i64 ca) (ro2 := ro) (idl2 := idl) (now2 := now) (ca2 := ca) (we2 := we2) rfl
    obtain ⟨t3, k3⟩ := t2.tab (i := 6) (v := .int .i64 we) (ro2 := ro) (idl2 := idl) (now2 := now) (ca2 := ca) (we2 := we) rfl
    have hC7 : Chg w4 _ (fun k => k = g2) := (k1.trans k2 fun _ _ q => q).trans k3 fun _ _ q => q
    replace t3 := Lib.hid t3
    replace hC7 := Lib.hid hC7
    clear t1 t2 k1 k2 k3
    go_upto_region 4 with (fail)
    go_region
    replace t3 := t3.out
    replace hC7 := hC7.out
    have hob7 := hC7.blk hob4 n2
    have h17 := h14.chg hC7 n1 (fun e => by have := hlt1.2.1; have := hnew.1; omega) (fun k hk e => by have := hlt1.2.2 k hk; have := hnew.1; omega)
    have hB7 : Below w.heap.size w _ := hB4.trans ⟨hC7.os, hC7.tape, hC7.output, hC7.size, fun k hk => hC7.block k (by have := hB4.size; omega) (fun e => by have := hnew.1; omega)⟩
    clear c2 c5 c6 d2 d5 d6 f2 f5 f6 o0 lt1 lt2 lto hob4 h14 hC7
    replace t3 := t3.fwd (Below.refl _ _).drew
    replace h17 := h17.fwd (Below.refl _ _).drew
    replace hob7 := hob7.below (Below.refl _ _).drew hob7.lt
    replace hB7 := hB7.drew
    generalize World.drew _ = w7 at *
    go_upto_region 6 with (go_at_call 188; refine (eachCopy h17 w.heap.size w.heap.size t3 hob7 (fun k hk => h10 k (h9 k hk)) hnew hB7.size).mono ?_; rintro en w8 ⟨rfl, l8, dt8, bk8, nx8, hr8, hm8, hl8, hob8, hC8⟩)
    have o0 : w8.cell? ⟨w.heap.size, 0, none⟩ = some (.pointer (some ⟨g2, 0, none⟩)) := hob8.cellv 0 rfl
    have lto := hob8.lt
    have hB8 : Below w.heap.size w w8 := hB7.trans ⟨hC8.os, hC8.tape, hC8.output, hC8.size, fun k hk => hC8.block k (by have := hB7.size; omega) (fun e => by omega)⟩
    replace hm8 := Lib.hid hm8
    replace h2 := Lib.hid h2
    go_wp2_with fail
    go_ret
    have hlt8 := hr8.lt
    refine ⟨g2, fun k => w.heap.size ≤ k ∧ k < w8.heap.size, rfl, ⟨m2, e2, ca, we, l8, dt8, bk8, nx8, hr8, hm8.out.trans h2.out, h3, h4, h5, h6, h7, h8, fun k hk => ?_, fun k hk => hk.2⟩, fun k hk => hk.1, hB8⟩
    rcases hk with hk | hk | hk
    · exact ⟨by have := hnew.1; omega, by have := hlt8.1; omega⟩
    · exact ⟨by have := hnew.2.1; omega, by have := hlt8.2.1; omega⟩
    · refine ⟨?_, hlt8.2.2 k hk⟩
      rcases List.mem_cons.1 hk with hk | hk
      · have := hnew.2.2; omega
      · exact hl8 k hk
end Go.Proofs.YtgdeecmhhbdjgaaGreat
