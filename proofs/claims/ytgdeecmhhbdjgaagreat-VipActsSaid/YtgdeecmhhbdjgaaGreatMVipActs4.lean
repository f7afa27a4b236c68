import Derived.Test.YtgdeecmhhbdjgaaGreatMVipActs3
import Derived.StillTailTactics
/- flows: Peek, Drop. -/
namespace Go.Proofs.YtgdeecmhhbdjgaaGreat
set_option linter.unusedVariables false
open Go Go.RowKit Go.Maps

def enA (x : EnV) : Value := .agg #[.int .i64 x.fl.pr, .int .u32 x.fl.src, .int .u32 x.fl.dst, .int .i64 x.fl.sp, .int .i64 x.fl.dp, .int .i64 x.be, .int .i64 x.la]
theorem got_entry : (Tryz.prog.info? 86).map (·.size) = some 7 := by kernel_rfl
end Go.Proofs.YtgdeecmhhbdjgaaGreat

/- flows: last of a link that is new; spare. -/
namespace Go.Proofs.YtgdeecmhhbdjgaaGreat
set_option linter.unusedVariables false
open Go Go.RowKit Go.Maps

def lnkV (e : EnV) (b n : Value) : Array Value := #[.int .i64 e.fl.pr, .int .u32 e.fl.src, .int .u32 e.fl.dst, .int .i64 e.fl.sp, .int .i64 e.fl.dp, .int .i64 e.be, .int .i64 e.la, b, n]
set_option maxRecDepth 100000 in
set_option maxHeartbeats 4000000 in
theorem last_new (w : World) (g : Nat) (room idle now : Int) (m e : Nat) (came went : Int) (hg : Blk w g 183 (tabC room idle now m e came went)) (N : List Nat) (dt : Nat → EnV) (bk nx : Nat → Nat) (h : Nod w N dt bk nx) (x : Nat) (en : EnV) (p0 p1 : Option Addr) (hx : Blk w x 186 (lnkV en (.pointer p0) (.pointer p1))) (hxN : x ∉ N) (he : e ∈ N) (hb : bk e ∈ N) :
    Calls Tryz.prog 119 #[.pointer (some ⟨g, 0, none⟩), .pointer (some ⟨x, 0, none⟩)] w fun r w' => r = .returned (.tuple #[]) ∧ Nod w' N dt (upd bk e x) (upd nx (bk e) x) ∧ Blk w' x 186 (lnkC { en with la := now } (bk e) e) ∧ Chg w w' (fun k => k = x ∨ k ∈ N) := by
  have hgN : ¬ (g = x ∨ g ∈ N) := fun q => q.elim (fun q => blk_apart hg hx (by decide) q) (fun q => blk_apart hg (h g q) (by decide) rfl)
  have c2 : w.cell? ⟨g, 2, none⟩ = some (.int .i64 now) := hg.cellv 2 rfl
  have ltg := hg.lt
  have ltx := hx.lt
  have c6 : w.cell? ⟨x, 6, none⟩ = some (.int .i64 en.la) := hx.cellv 6 rfl
  have f6 := hx.frozen 6
  obtain ⟨x1, g1⟩ := blk_store hx 6 (.int .i64 now)
  have x1' : Blk _ x 186 (lnkV { en with la := now } (.pointer p0) (.pointer p1)) := x1
  have hC1 : Chg w _ (fun k => k = x ∨ k ∈ N) := Chg.of_grown g1 (.inl rfl)
  have h1 : Nod _ N dt bk nx := h.chg (Chg.of_grown (X := fun k => k = x) g1 rfl) (fun k hk q => hxN (q ▸ hk))
  replace h1 := Lib.hid h1
  replace hC1 := Lib.hid hC1
  replace x1' := Lib.hid x1'
  clear x1
  go_enter Tryz.func119, Tryz.ntmps119
  go_upto_region 1 with (fail)
  replace h1 := h1.out
  replace hC1 := hC1.out
  replace x1' := x1'.out
  have hg1 := hC1.blk hg hgN
  clear g1 c2 c6 f6 ltg ltx h hx
  generalize w.setCell ⟨x, 6, none⟩ (.int .i64 now) = w1 at *
  have c4 : w1.cell? ⟨g, 4, none⟩ = some (.pointer (some ⟨e, 0, none⟩)) := hg1.cellv 4 rfl
  have ltg := hg1.lt
  have ltx := x1'.lt
  have lte := (h1 e he).lt
  have c7 : w1.cell? ⟨x, 7, none⟩ = some (.pointer p0) := x1'.cellv 7 rfl
  have c8 : w1.cell? ⟨x, 8, none⟩ = some (.pointer p1) := x1'.cellv 8 rfl
  have e7 : w1.cell? ⟨e, 7, none⟩ = some (.pointer (some ⟨bk e, 0, none⟩)) := (h1 e he).cellv 7 rfl
  have f7 := x1'.frozen 7
  have f8 := x1'.frozen 8
  obtain ⟨b, hbe⟩ : ∃ b, b = bk e := ⟨_, rfl⟩
  rw [← hbe] at e7 hb
  obtain ⟨x2, g2⟩ := blk_store x1' 7 (.pointer (some ⟨b, 0, none⟩))
  obtain ⟨x3, g3⟩ := blk_store x2 8 (.pointer (some ⟨e, 0, none⟩))
  have x3' : Blk _ x 186 (lnkC { en with la := now } b e) := x3
  have h3 : Nod _ N dt bk nx := (h1.chg (Chg.of_grown (X := fun k => k = x) g2 rfl) (fun k hk q => hxN (q ▸ hk))).chg (Chg.of_grown (X := fun k => k = x) g3 rfl) (fun k hk q => hxN (q ▸ hk))
  have hC3 : Chg w _ (fun k => k = x ∨ k ∈ N) := (hC1.trans (Chg.of_grown (X := fun k => k = x) g2 rfl) (fun _ _ q => .inl q)).trans (Chg.of_grown (X := fun k => k = x) g3 rfl) (fun _ _ q => .inl q)
  replace h3 := Lib.hid h3
  replace hC3 := Lib.hid hC3
  replace x3' := Lib.hid x3'
  clear x2 x3 g2 g3 hC1 hg1 h1 x1'
  replace hbe := Lib.hid hbe
  go_region
  go_upto_region 2 with (fail)
  replace h3 := h3.out.chg (Chg.of_below (X := fun _ => False) (Below.refl _ _).drew) (fun _ _ q => q)
  replace hC3 := hC3.out.trans (Chg.of_below (X := fun _ => False) (Below.refl _ _).drew) (fun _ _ q => q.elim)
  have x3 := x3'.out.below (Below.refl _ _).drew x3'.out.lt
  have hg3 := hC3.blk hg hgN
  clear c4 ltg ltx lte c7 c8 e7 f7 f8 x3'
  generalize World.drew _ = w3 at *
  have c4 : w3.cell? ⟨g, 4, none⟩ = some (.pointer (some ⟨e, 0, none⟩)) := hg3.cellv 4 rfl
  have ltg := hg3.lt
  have ltx := x3.lt
  have lte := (h3 e he).lt
  have ltb := (h3 b hb).lt
  have x7 : w3.cell? ⟨x, 7, none⟩ = some (.pointer (some ⟨b, 0, none⟩)) := x3.cellv 7 rfl
  have e7 : w3.cell? ⟨e, 7, none⟩ = some (.pointer (some ⟨bk e, 0, none⟩)) := (h3 e he).cellv 7 rfl
  have b8 : w3.cell? ⟨b, 8, none⟩ = some (.pointer (some ⟨nx b, 0, none⟩)) := (h3 b hb).cellv 8 rfl
  have f8 := (h3 b hb).frozen 8
  have f7 := (h3 e he).frozen 7
  obtain ⟨h4, g4⟩ := h3.next hb x
  obtain ⟨h5, g5⟩ := h4.back he x
  have hC5 : Chg w _ (fun k => k = x ∨ k ∈ N) := (hC3.trans (Chg.of_grown (X := fun k => k ∈ N) g4 hb) (fun _ _ q => .inr q)).trans (Chg.of_grown (X := fun k => k ∈ N) g5 he) (fun _ _ q => .inr q)
  have x5 := (x3.grown g4 (fun q => hxN (by injection q with q; exact q ▸ hb))).grown g5 (fun q => hxN (by injection q with q; exact q ▸ he))
  replace h5 := Lib.hid h5
  replace hC5 := Lib.hid hC5
  replace x5 := Lib.hid x5
  clear h4 g4 g5 hC3 hg3 h3 x3
  go_region
  go_end0
  rw [← hbe.out]
  exact ⟨rfl, h5.out.chg (Chg.of_below (X := fun _ => False) (Below.refl _ _).drew) (fun _ _ q => q), x5.out.below (Below.refl _ _).drew x5.out.lt, hC5.out.trans (Chg.of_below (X := fun _ => False) (Below.refl _ _).drew) (fun _ _ q => q.elim)⟩
theorem lenF_run {w wq : World} {g m e : Nat} {ro idl now ca we : Int} {l : List Nat} {dt : Nat → EnV} {bk nx : Nat → Nat} (h : RingV w g m e ro idl now ca we l dt bk nx) (hb : Below w.heap.size w wq) :
    ∀ ty, (Builtin.len_ #[181] ty #[.map (some m)]).run Tryz.prog wq = .ok (.int .i64 l.length) wq := by
  obtain ⟨A, ha, hp⟩ := (h.fwd hb).ent
  have hlen := fun ty => ha.len fmap_und ty
  rw [hp.length_eq, List.length_map] at hlen
  exact hlen
set_option maxRecDepth 100000 in
set_option maxHeartbeats 4000000 in
theorem spareF_no {w : World} {g m e : Nat} {ro idl now ca we : Int} {dt : Nat → EnV} {bk nx : Nat → Nat} {l : List Nat} (h : RingV w g m e ro idl now ca we l dt bk nx) (hl : (l.length : Int) < ro) :
    Calls Tryz.prog 117 #[.pointer (some ⟨g, 0, none⟩)] w fun en w' => en = .returned (.tuple #[enA ze, .bool false]) ∧ RingV w' g m e ro idl now ca we l dt bk nx ∧ Below w.heap.size w w' := by
  have hB := (Below.refl w.heap.size w).alloc (Nat.le_refl _) (.cells #[.int .i64 0, .int .u32 0, .int .u32 0, .int .i64 0, .int .i64 0, .int .i64 0, .int .i64 0] 86)
  have hq := Blk.new w 86 #[.int .i64 0, .int .u32 0, .int .u32 0, .int .i64 0, .int .i64 0, .int .i64 0, .int .i64 0]
  have h2 := h.fwd hB
  have hlt := h.lt
  go_enter Tryz.func117, Tryz.ntmps117
  go_upto_region 1 with (fail)
  generalize w.alloc (.cells #[.int .i64 0, .int .u32 0, .int .u32 0, .int .i64 0, .int .i64 0, .int .i64 0, .int .i64 0] 86) = w2 at *
  have c3 : w2.cell? ⟨g, 3, none⟩ = some (.map (some m)) := h2.blk.cellv 3 rfl
  have c0 : w2.cell? ⟨g, 0, none⟩ = some (.int .i64 ro) := h2.blk.cellv 0 rfl
  have ltg2 := h2.blk.lt
  have lte2 := hq.lt
  skip
  try refine wp_region_noPanic ?_
  have hs1r : Below w2.heap.size w2 w2.drew := (Below.refl _ _).drew
  refine wp_region_held_drew (S := fun w' => Below w2.heap.size w2 w') (by kernel_rfl) hs1r (fun _ => ?_)
  (refine held_takeA 0 (by rfl) ?_ (by kernel_rfl) (fun _ _ _ h => h) hs1r ?_ ?_; rotate_left; (focus (intro wq hSw; have hrd := zR hSw; have hlen := lenF_run h2 hSw; go_simp; try with_reducible rfl; done)); try simp only [Act.put, zA, zB, zC])
  (refine held_takeA 1 (by rfl) ?_ (by kernel_rfl) (fun _ _ _ h => h) hs1r ?_ ?_; rotate_left; (focus (intro wq hSw; have hrd := zR hSw; have hlen := lenF_run h2 hSw; go_simp; try with_reducible rfl; done)); try simp only [Act.put, zA, zB, zC])
  (refine held_takeA 2 (by rfl) ?_ (by kernel_rfl) (fun _ _ _ h => h) hs1r ?_ ?_; rotate_left; (focus (intro wq hSw; have hrd := zR hSw; have hlen := lenF_run h2 hSw; go_simp; try with_reducible rfl; done)); try simp only [Act.put, zA, zB, zC])
  (refine held_takeA 3 (by rfl) ?_ (by kernel_rfl) (fun _ _ _ h => h) hs1r ?_ ?_; rotate_left; (focus (intro wq hSw; have hrd := zR hSw; have hlen := lenF_run h2 hSw; go_simp; try with_reducible rfl; done)); try simp only [Act.put, zA, zB, zC])
  (refine held_takeA 4 (by rfl) ?_ (by kernel_rfl) (fun _ _ _ h => h) hs1r ?_ ?_; rotate_left; (focus (intro wq hSw; have hrd := zR hSw; have hlen := lenF_run h2 hSw; go_simp; try with_reducible rfl; done)); try simp only [Act.put, zA, zB, zC])
  (refine held_takeA 5 (by rfl) ?_ (by kernel_rfl) (fun _ _ _ h => h) hs1r ?_ ?_; rotate_left; (focus (intro wq hSw; have hrd := zR hSw; have hlen := lenF_run h2 hSw; go_simp; try with_reducible rfl; done)); try simp only [Act.put, zA, zB, zC])
  (refine held_takeA 6 (by rfl) ?_ (by kernel_rfl) (fun _ _ _ h => h) hs1r ?_ ?_; rotate_left; (focus (intro wq hSw; have hrd := zR hSw; have hlen := lenF_run h2 hSw; go_simp; try with_reducible rfl; done)); try simp only [Act.put, zA, zB, zC])
  (refine held_takeA 7 (by rfl) ?_ (by kernel_rfl) (fun _ _ _ h => h) hs1r ?_ ?_; rotate_left; (focus (intro wq hSw; have hrd := zR hSw; have hlen := lenF_run h2 hSw; go_simp; try with_reducible rfl; done)); try simp only [Act.put, zA, zB, zC])
  (refine held_takeA 8 (by rfl) ?_ (by kernel_rfl) (fun _ _ _ h => h) hs1r ?_ ?_; rotate_left; (focus (intro wq hSw; have hrd := zR hSw; have hlen := lenF_run h2 hSw; go_simp; try with_reducible rfl; done)); try simp only [Act.put, zA, zB, zC])
  (refine held_takeA 9 (by rfl) ?_ (by kernel_rfl) (fun _ _ _ h => h) hs1r ?_ ?_; rotate_left; (focus (intro wq hSw; have hrd := zR hSw; have hlen := lenF_run h2 hSw; go_simp; try with_reducible rfl; done)); try simp only [Act.put, zA, zB, zC])
  refine wpAnyH_done (by kernel_rfl) ?_ _
  try refine NoPanic.normal ?_
  have h3 := h2.fwd (Below.refl _ _).drew
  have hq3 := hq.below (Below.refl w2.heap.size w2).drew lte2
  have hB3 := hB.drew
  clear hB h2 hq c3 c0 ltg2 lte2
  generalize w2.drew = w3 at *
  go_wp2_with (refine wpList_store_blk rfl hq3 86 (.tmp 2) (.tmp 15) rfl rfl rfl rfl got_entry (by simp [Value.oneCell']) ?_; intro w4 hq4 hg4)
  try rw [Exit.noGoto_ret]
  refine bodyPost_ret (results_ct rfl _ rfl (load_blk hq4 Tryz.underlying86 rfl got_entry)) rfl ?_
  have hB4 := below_own hB3 hg4 hB3.size (Nat.le_refl _)
  exact ⟨rfl, h.fwd hB4, hB4⟩
set_option maxRecDepth 100000 in
set_option maxHeartbeats 4000000 in
theorem spareF_yes {w : World} {g m e : Nat} {ro idl now ca we : Int} {dt : Nat → EnV} {bk nx : Nat → Nat} {q : List Nat} {x : Nat} (h : RingV w g m e ro idl now ca we (x :: q) dt bk nx) (hl : ro ≤ ((x :: q).length : Int)) (hwe : 0 ≤ we ∧ we ≤ 1000000) :
    Calls Tryz.prog 117 #[.pointer (some ⟨g, 0, none⟩)] w fun en w' => en = .returned (.tuple #[enA (dt x), .bool true]) ∧ RingV w' g m e ro idl now ca (we + 1) q dt (upd bk (nx x) (bk x)) (upd nx (bk x) (nx x)) ∧ Chg w w' (fun k => k = g ∨ k = m ∨ k ∈ e :: x :: q) := by
  have hB := (Below.refl w.heap.size w).alloc (Nat.le_refl _) (.cells #[.int .i64 0, .int .u32 0, .int .u32 0, .int .i64 0, .int .i64 0, .int .i64 0, .int .i64 0] 86)
  have hq := Blk.new w 86 #[.int .i64 0, .int .u32 0, .int .u32 0, .int .i64 0, .int .i64 0, .int .i64 0, .int .i64 0]
  have h2 := h.fwd hB
  have hlt := h.lt
  go_enter Tryz.func117, Tryz.ntmps117
  go_upto_region 1 with (fail)
  generalize w.alloc (.cells #[.int .i64 0, .int .u32 0, .int .u32 0, .int .i64 0, .int .i64 0, .int .i64 0, .int .i64 0] 86) = w2 at *
  have c3 : w2.cell? ⟨g, 3, none⟩ = some (.map (some m)) := h2.blk.cellv 3 rfl
  have c0 : w2.cell? ⟨g, 0, none⟩ = some (.int .i64 ro) := h2.blk.cellv 0 rfl
  have ltg2 := h2.blk.lt
  have lte2 := hq.lt
  have dl : ro ≤ (q.length : Int) + 1 := by simp at hl; omega
  replace hl := Lib.hid hl
  try refine wp_region_noPanic ?_
  have hs2r : Below w2.heap.size w2 w2.drew := (Below.refl _ _).drew
  refine wp_region_held_drew (S := fun w' => Below w2.heap.size w2 w') (by kernel_rfl) hs2r (fun _ => ?_)
  (refine held_takeA 0 (by rfl) ?_ (by kernel_rfl) (fun _ _ _ h => h) hs2r ?_ ?_; rotate_left; (focus (intro wq hSw; have hrd := zR hSw; have hlen := lenF_run h2 hSw; go_simp; try with_reducible rfl; done)); try simp only [Act.put, zA, zB, zC])
  (refine held_takeA 1 (by rfl) ?_ (by kernel_rfl) (fun _ _ _ h => h) hs2r ?_ ?_; rotate_left; (focus (intro wq hSw; have hrd := zR hSw; have hlen := lenF_run h2 hSw; go_simp; try with_reducible rfl; done)); try simp only [Act.put, zA, zB, zC])
  (refine held_takeA 2 (by rfl) ?_ (by kernel_rfl) (fun _ _ _ h => h) hs2r ?_ ?_; rotate_left; (focus (intro wq hSw; have hrd := zR hSw; have hlen := lenF_run h2 hSw; go_simp; try with_reducible rfl; done)); try simp only [Act.put, zA, zB, zC])
  (refine held_takeA 3 (by rfl) ?_ (by kernel_rfl) (fun _ _ _ h => h) hs2r ?_ ?_; rotate_left; (focus (intro wq hSw; have hrd := zR hSw; have hlen := lenF_run h2 hSw; go_simp; try with_reducible rfl; done)); try simp only [Act.put, zA, zB, zC])
  (refine held_takeA 4 (by rfl) ?_ (by kernel_rfl) (fun _ _ _ h => h) hs2r ?_ ?_; rotate_left; (focus (intro wq hSw; have hrd := zR hSw; have hlen := lenF_run h2 hSw; go_simp; try with_reducible rfl; done)); try simp only [Act.put, zA, zB, zC])
  (refine held_takeA 5 (by rfl) ?_ (by kernel_rfl) (fun _ _ _ h => h) hs2r ?_ ?_; rotate_left; (focus (intro wq hSw; have hrd := zR hSw; have hlen := lenF_run h2 hSw; go_simp; try with_reducible rfl; done)); try simp only [Act.put, zA, zB, zC])
  (refine held_takeA 6 (by rfl) ?_ (by kernel_rfl) (fun _ _ _ h => h) hs2r ?_ ?_; rotate_left; (focus (intro wq hSw; have hrd := zR hSw; have hlen := lenF_run h2 hSw; go_simp; try with_reducible rfl; done)); try simp only [Act.put, zA, zB, zC])
  (refine held_takeA 7 (by rfl) ?_ (by kernel_rfl) (fun _ _ _ h => h) hs2r ?_ ?_; rotate_left; (focus (intro wq hSw; have hrd := zR hSw; have hlen := lenF_run h2 hSw; go_simp; try with_reducible rfl; done)); try simp only [Act.put, zA, zB, zC])
  (refine held_takeA 8 (by rfl) ?_ (by kernel_rfl) (fun _ _ _ h => h) hs2r ?_ ?_; rotate_left; (focus (intro wq hSw; have hrd := zR hSw; have hlen := lenF_run h2 hSw; go_simp; try with_reducible rfl; done)); try simp only [Act.put, zA, zB, zC])
  (refine held_takeA 9 (by rfl) ?_ (by kernel_rfl) (fun _ _ _ h => h) hs2r ?_ ?_; rotate_left; (focus (intro wq hSw; have hrd := zR hSw; have hlen := lenF_run h2 hSw; go_simp; try with_reducible rfl; done)); try simp only [Act.put, zA, zB, zC])
  refine wpAnyH_done (by kernel_rfl) ?_ _
  try refine NoPanic.normal ?_
  have h3 := h2.fwd (Below.refl _ _).drew
  have hq3 := hq.below (Below.refl w2.heap.size w2).drew lte2
  have hB3 := hB.drew
  clear hB h2 hq c3 c0 ltg2 lte2
  generalize w2.drew = w3 at *
  have hnx : nx e = x := h3.cyc.1
  have kw : IntKind.i64.wrap (we + 1) = we + 1 := IntWalk.i64_in _ (by omega)
  have c4 : w3.cell? ⟨g, 4, none⟩ = some (.pointer (some ⟨e, 0, none⟩)) := h3.blk.cellv 4 rfl
  have e8 : w3.cell? ⟨e, 8, none⟩ = some (.pointer (some ⟨x, 0, none⟩)) := by
    have q1 := (h3.nod e (by simp)).cellv 8 (v := .pointer (some ⟨nx e, 0, none⟩)) rfl
    rw [hnx] at q1
    exact q1
  have ltg3 := h3.blk.lt
  have lte3 := (h3.nod e (by simp)).lt
  clear hnx
  go_upto_region 5 with (go_at_call 192; refine (goneF_any (p := []) h3).mono ?_; rintro en w4 ⟨rfl, h4, hC4, hx4⟩)
  have hxg : x ≠ g := fun q1 => h3.gN (q1 ▸ by simp)
  have c6 : w4.cell? ⟨g, 6, none⟩ = some (.int .i64 we) := h4.blk.cellv 6 rfl
  have f6 := h4.blk.frozen 6
  have ltg4 := h4.blk.lt
  obtain ⟨h5, hC5⟩ := h4.tab (i := 6) (v := .int .i64 (we + 1)) (ro2 := ro) (idl2 := idl) (now2 := now) (ca2 := ca) (we2 := we + 1) rfl
  replace h5 := Lib.hid h5
  replace hC5 := Lib.hid hC5
  go_upto_region 6 with (fail)
  replace h5 := h5.out
  replace hC5 := hC5.out
  have hx5 := hC5.blk hx4 hxg
  have hgq : w.heap.size ≠ g := by omega
  have hmq : w.heap.size ≠ m := by have := hlt.2.1; omega
  have hNq : ∀ k ∈ e :: x :: q, k ≠ w.heap.size := fun k hk => by have := hlt.2.2 k hk; omega
  have hq4 := hC4.blk hq3 (fun q1 => q1.elim hmq fun q1 => hNq _ q1 rfl)
  have hq5 := hC5.blk hq4 hgq
  clear c6 f6 ltg4 h4 hx4 hq4 hq3
  generalize w4.setCell ⟨g, 6, none⟩ (.int .i64 (we + 1)) = w5 at *
  have x0 : w5.cell? ⟨x, 0, none⟩ = some (.int .i64 (dt x).fl.pr) := hx5.cellv 0 rfl
  have x1 : w5.cell? ⟨x, 1, none⟩ = some (.int .u32 (dt x).fl.src) := hx5.cellv 1 rfl
  have x2 : w5.cell? ⟨x, 2, none⟩ = some (.int .u32 (dt x).fl.dst) := hx5.cellv 2 rfl
  have x3 : w5.cell? ⟨x, 3, none⟩ = some (.int .i64 (dt x).fl.sp) := hx5.cellv 3 rfl
  have x4 : w5.cell? ⟨x, 4, none⟩ = some (.int .i64 (dt x).fl.dp) := hx5.cellv 4 rfl
  have x5 : w5.cell? ⟨x, 5, none⟩ = some (.int .i64 (dt x).be) := hx5.cellv 5 rfl
  have x6 : w5.cell? ⟨x, 6, none⟩ = some (.int .i64 (dt x).la) := hx5.cellv 6 rfl
  have ltx := hx5.lt
  go_wp2_with (refine wpList_store_blk rfl hq5 86 (.tmp 2) (.tmp 36) rfl rfl rfl rfl got_entry (by simp [Value.oneCell']) ?_; intro w6 hq6 hg6)
  try rw [Exit.noGoto_ret]
  refine bodyPost_ret (results_ct rfl _ rfl (load_blk hq6 Tryz.underlying86 rfl got_entry)) rfl ?_
  have hC6 : Chg w5 w6 (fun k => k = w.heap.size) := Chg.of_grown hg6 rfl
  refine ⟨rfl, h5.chg hC6 hgq.symm hmq.symm (fun k hk => ?_), ?_⟩
  · refine hNq k ?_
    rcases List.mem_cons.1 hk with q1 | q1
    · rw [q1]; simp
    · exact List.mem_cons_of_mem _ (List.mem_cons_of_mem _ (by simpa using q1))
  · have hCa : Chg w w3 (fun k => k = g ∨ k = m ∨ k ∈ e :: x :: q) := Chg.of_below hB3
    exact ((hCa.trans hC4 (fun i hi q1 => .inr q1)).trans hC5 (fun i hi q1 => .inl q1)).trans hC6 (fun i hi q1 => by omega)
end Go.Proofs.YtgdeecmhhbdjgaaGreat
