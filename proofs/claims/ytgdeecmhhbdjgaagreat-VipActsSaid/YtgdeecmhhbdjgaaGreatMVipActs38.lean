import Derived.Test.YtgdeecmhhbdjgaaGreatMVipActs23
import Derived.Test.YtgdeecmhhbdjgaaGreatMVipActs37
import Derived.Test.YtgdeecmhhbdjgaaGreatMVipActs12
/- vip: the document's vip: Prefix, Copy. -/
namespace Go.Proofs.YtgdeecmhhbdjgaaGreat
set_option linter.unusedVariables false
open Go Go.RowKit Go.Maps

theorem seen_apart {α : Type} {R : RK α} {w : World} {S : Nat → Prop} {A : Option Addr} {n g : Nat} {l : List α} {T : TypeId} {cs : Array Value} (h : Seen R w S A n l) (hb : Blk w g T cs) (hs : cs.size < R.size) (hok : ∀ S a, R.ok w S a) : Seen R w (fun b => S b ∧ b ≠ g) A n l := by
  obtain ⟨h1, h2, h3⟩ := h
  refine ⟨h1, fun a _ => hok _ a, fun hn => ?_⟩
  · obtain ⟨b, off, e, hS, hc⟩ := h3 hn
    refine ⟨b, off, e, ⟨hS, fun q => ?_⟩, hc⟩
    subst q
    obtain ⟨a, ha⟩ : ∃ a, l[0]? = some a := ⟨_, List.getElem?_eq_getElem (by omega)⟩
    have hp := R.pos
    have := hc 0 a ha (R.size - 1) (by omega)
    rw [hb.cell, Array.getElem?_eq_none (by omega), List.getElem?_eq_getElem (by rw [R.len]; omega)] at this
    exact absurd this (by simp)
theorem refin_sharp {w : World} {X : Nat → Prop} {p : Nat} {pc : Int} {L : List Mem} (h : RefIn w X p pc L) : RefIn w (fun b => X b ∧ b < w.heap.size ∧ b ≠ p) p pc L := by
  obtain ⟨A, n, c, k1, k2, q1, q2⟩ := h
  exact ⟨A, n, c, k1, k2, q1, (seen_apart q2 q1 (by show 2 < 5; omega) (fun _ _ => trivial)).more fun b q => ⟨⟨q.1.1, q.1.2, q.2⟩, q.1.2⟩⟩
theorem reff_sharp {w : World} {X : Nat → Prop} {d N : Nat} {ro idl now : Int} {E : List EnV} (h : RefF w X d ro idl now N E) : RefF w (fun b => X b ∧ b < w.heap.size ∧ b ≠ d) d ro idl now N E := by
  obtain ⟨A, n, c, ca, we, k1, k2, k3, k4, q1, q2⟩ := h
  exact ⟨A, n, c, ca, we, k1, k2, k3, k4, q1, (seen_apart q2 q1 (by show 6 < 7; omega) (fun _ _ => trivial)).more fun b q => ⟨⟨q.1.1, q.1.2, q.2⟩, q.1.2⟩⟩
theorem refin_mono {w : World} {X X' : Nat → Prop} {p : Nat} {pc : Int} {L : List Mem} (h : RefIn w X p pc L) (hX : ∀ b, X b → X' b) : RefIn w X' p pc L := by
  obtain ⟨A, n, c, k1, k2, q1, q2⟩ := h
  exact ⟨A, n, c, k1, k2, q1, q2.more fun b q => ⟨hX b q.1, q.2⟩⟩
theorem reff_mono {w : World} {X X' : Nat → Prop} {d N : Nat} {ro idl now : Int} {E : List EnV} (h : RefF w X d ro idl now N E) (hX : ∀ b, X b → X' b) : RefF w X' d ro idl now N E := by
  obtain ⟨A, n, c, ca, we, k1, k2, k3, k4, q1, q2⟩ := h
  exact ⟨A, n, c, ca, we, k1, k2, k3, k4, q1, q2.more fun b q => ⟨hX b q.1, q.2⟩⟩
theorem ct_lit (w : World) : Rows ctK (w.alloc (.cells #[] 176)) w.heap.size w.heap.size 176 (.slice (some ⟨w.heap.size, 0, none⟩) 0 0) [] :=
  ⟨by have := Own1.lit (base := w.heap.size) (et := 176) (size := 4) w #[] 0 (Nat.le_refl _) (Nat.zero_le _) rfl; exact this, by simp⟩
theorem got_pfx : (Tryz.prog.info? 57).map (·.size) = some 2 := by kernel_rfl
set_option maxRecDepth 100000 in
set_option maxHeartbeats 16000000 in
theorem rvPrefix {w : World} {Y D : Nat → Prop} {g p f c : Nat} {A : Option Addr} {s : RvS} (h : RvR w Y D g p f A c s) : Calls Tryz.prog 129 #[.pointer (some ⟨g, 0, none⟩)] w fun e w' => e = .returned (.agg #[.int .u32 s.ad, .int .i64 32]) ∧ Below w.heap.size w w' := by
  have hb := (Below.refl w.heap.size w).alloc (Nat.le_refl _) (.cells #[.int .u32 0, .int .i64 0] 57)
  have hq := Blk.new w 57 #[.int .u32 0, .int .i64 0]
  have h1 := h.blk.below hb h.blk.lt
  go_enter Tryz.func129, Tryz.ntmps129
  go_upto_region 1 with (fail)
  generalize w.alloc (.cells #[.int .u32 0, .int .i64 0] 57) = w1 at *
  have c6 : w1.cell? ⟨g, 12, none⟩ = some (.int .u32 s.ad) := h1.cellv 12 rfl
  have ltg := h1.lt
  go_wp2_with (refine wpList_store_blk rfl hq 57 (.tmp 2) (.tmp 7) rfl rfl rfl rfl got_pfx (by simp [Value.oneCell']) ?_; intro w7 hq7 hg7)
  try rw [Exit.noGoto_ret]
  refine bodyPost_ret (results_c rfl _ rfl (load_blk hq7 Tryz.underlying57 rfl got_pfx)) rfl ?_
  exact ⟨rfl, below_own hb hg7 hb.size (Nat.le_refl _)⟩
set_option maxRecDepth 100000 in
set_option maxHeartbeats 16000000 in
theorem rvCopy {w : World} {Y D : Nat → Prop} {g p f c : Nat} {A : Option Addr} {s : RvS} (h : RvR w Y D g p f A c s) (hG : GoodR s) (hE : s.E.length ≤ 100000) (Y0 : Nat → Prop) (hY0 : ∀ k, Y0 k → k < w.heap.size) :
    Calls Tryz.prog 43 #[.pointer (some ⟨g, 0, none⟩)] w fun e w' => ∃ g2 D2, e = .returned (.pointer (some ⟨g2, 0, none⟩)) ∧ RvT w' (fun k => Y0 k ∨ D2 k) D2 g2 s ∧ (∀ k, D2 k → w.heap.size ≤ k) ∧ Below w.heap.size w w' := by
  have hB := (Below.refl w.heap.size w).alloc (Nat.le_refl _) (.cells #[.pointer (some ⟨p, 0, none⟩), .slice A s.C.length c, .pointer (some ⟨f, 0, none⟩), .int .i64 s.dF, .int .i64 s.dS, .int .i64 s.dR, .int .i64 s.dC, .int .i64 s.dH, .int .i64 s.pe, .bool s.hd, .bool s.on, .int .i64 s.lv, .int .u32 s.ad] 97)
  have hq := Blk.new w 97 #[.pointer (some ⟨p, 0, none⟩), .slice A s.C.length c, .pointer (some ⟨f, 0, none⟩), .int .i64 s.dF, .int .i64 s.dS, .int .i64 s.dR, .int .i64 s.dC, .int .i64 s.dH, .int .i64 s.pe, .bool s.hd, .bool s.on, .int .i64 s.lv, .int .u32 s.ad]
  have h1 := h.nx hB
  have hLn := hG.mem.1
  have hCl := Lib.hid hG.len
  have c0 : w.cell? ⟨g, 0, none⟩ = some (.pointer (some ⟨p, 0, none⟩)) := h.blk.cellv 0 rfl
  have c1 : w.cell? ⟨g, 1, none⟩ = some (.slice A s.C.length c) := h.blk.cellv 1 rfl
  have c2 : w.cell? ⟨g, 2, none⟩ = some (.pointer (some ⟨f, 0, none⟩)) := h.blk.cellv 2 rfl
  have c3 : w.cell? ⟨g, 3, none⟩ = some (.int .i64 s.dF) := h.blk.cellv 3 rfl
  have c4 : w.cell? ⟨g, 4, none⟩ = some (.int .i64 s.dS) := h.blk.cellv 4 rfl
  have c5 : w.cell? ⟨g, 5, none⟩ = some (.int .i64 s.dR) := h.blk.cellv 5 rfl
  have c6 : w.cell? ⟨g, 6, none⟩ = some (.int .i64 s.dC) := h.blk.cellv 6 rfl
  have c7 : w.cell? ⟨g, 7, none⟩ = some (.int .i64 s.dH) := h.blk.cellv 7 rfl
  have c8 : w.cell? ⟨g, 8, none⟩ = some (.int .i64 s.pe) := h.blk.cellv 8 rfl
  have c9 : w.cell? ⟨g, 9, none⟩ = some (.bool s.hd) := h.blk.cellv 9 rfl
  have c10 : w.cell? ⟨g, 10, none⟩ = some (.bool s.on) := h.blk.cellv 10 rfl
  have c11 : w.cell? ⟨g, 11, none⟩ = some (.int .i64 s.lv) := h.blk.cellv 11 rfl
  have c12 : w.cell? ⟨g, 12, none⟩ = some (.int .u32 s.ad) := h.blk.cellv 12 rfl
  have ltg := h.blk.lt
  go_enter Tryz.func43, Tryz.ntmps43
  go_upto_region 2 with (fail)
  clear c0 c1 c2 c3 c4 c5 c6 c7 c8 c9 c10 c11 c12
  generalize w.alloc (.cells #[.pointer (some ⟨p, 0, none⟩), .slice A s.C.length c, .pointer (some ⟨f, 0, none⟩), .int .i64 s.dF, .int .i64 s.dS, .int .i64 s.dR, .int .i64 s.dC, .int .i64 s.dH, .int .i64 s.pe, .bool s.hd, .bool s.on, .int .i64 s.lv, .int .u32 s.ad] 97) = w1 at *
  have ltx := hq.lt
  have ltg1 := h1.blk.lt
  have c0 : w1.cell? ⟨g, 0, none⟩ = some (.pointer (some ⟨p, 0, none⟩)) := h1.blk.cellv 0 rfl
  have c2 : w1.cell? ⟨g, 2, none⟩ = some (.pointer (some ⟨f, 0, none⟩)) := h1.blk.cellv 2 rfl
  have hgx : g ≠ w.heap.size := by omega
  try refine wp_region_noPanic ?_
  have hs1r : w1.grownBy w1.drew (some w.heap.size) := grown_drew (grown_refl _ _)
  refine wp_region_held_drew (S := fun w' => w1.grownBy w' (some w.heap.size)) (by kernel_rfl) hs1r (fun _ => ?_)
  (refine held_takeA 0 (by rfl) ?_ (by kernel_rfl) (fun _ _ _ h => h) hs1r ?_ ?_; rotate_left; (focus (intro wq hSw; have hrd := zG hSw; go_simp; try with_reducible rfl; done)); try simp only [Act.put, zA, zB, zC])
  (refine held_takeA 1 (by rfl) ?_ (by kernel_rfl) (fun _ _ _ h => h) hs1r ?_ ?_; rotate_left; (focus (intro wq hSw; have hrd := zG hSw; go_simp; try with_reducible rfl; done)); try simp only [Act.put, zA, zB, zC])
  (refine held_takeA 2 (by rfl) ?_ (by kernel_rfl) (fun _ _ _ h => h) hs1r ?_ ?_; rotate_left; (focus (intro wq hSw; have hrd := zG hSw; go_simp; try with_reducible rfl; done)); try simp only [Act.put, zA, zB, zC])
  (refine held_takeA 3 (by rfl) ?_ (by kernel_rfl) (fun _ _ _ h => h) hs1r ?_ ?_; rotate_left; (focus (intro wq hSw; have hrd := zG hSw; go_simp; try with_reducible rfl; done)); try simp only [Act.put, zA, zB, zC])
  (refine held_takeA 5 (by rfl) ?_ (by kernel_rfl) (fun _ _ _ h => h) hs1r ?_ ?_; rotate_left; (focus (intro wq hSw; have hrd := zG hSw; go_simp; try with_reducible rfl; done)); try simp only [Act.put, zA, zB, zC])
  (refine held_takeA 6 (by rfl) ?_ (by kernel_rfl) (fun _ _ _ h => h) hs1r ?_ ?_; rotate_left; (focus (intro wq hSw; have hrd := zG hSw; go_simp; try with_reducible rfl; done)); try simp only [Act.put, zA, zB, zC])
  (refine held_takeA 7 (by rfl) ?_ (by kernel_rfl) (fun _ _ _ h => h) hs1r ?_ ?_; rotate_left; (focus (intro wq hSw; have hrd := zG hSw; go_simp; try with_reducible rfl; done)); try simp only [Act.put, zA, zB, zC])
  (refine held_takeA 8 (by rfl) ?_ (by kernel_rfl) (fun _ _ _ h => h) hs1r ?_ ?_; rotate_left; (focus (intro wq hSw; have hrd := zG hSw; go_simp; try with_reducible rfl; done)); try simp only [Act.put, zA, zB, zC])
  refine held_callA 4 (by rfl) (by kernel_rfl) (by rfl) (fun KQ hKQ => ?_)
  go_simp
  refine (refCopy25 w1.drew _ (fun b => w1.heap.size ≤ b) p s.pc s.L (h1.pol.nx (Below.refl _ _).drew) (by omega) (fun b q => q)).mono ?_
  rintro en w2 ⟨p2, rfl, hP2, hp2, hb2⟩
  replace hp2 : w1.heap.size ≤ p2 := hp2
  replace hb2 : Below w1.heap.size w1 w2 := (Below.refl _ _).drew.trans hb2
  have hS2 : w1.grownBy w2 (some w.heap.size) := grown_of_below hb2 (Nat.le_refl _) _
  have hs2r := hS2
  refine hKQ.out _ _ hs2r ?_
  clear hKQ KQ
  refine held_callA 9 (by rfl) (by kernel_rfl) (by rfl) (fun KQ hKQ => ?_)
  go_simp
  refine (rfCopy w2 _ (fun b => w2.heap.size < b) f s.ro s.idl s.now s.N s.E (h1.flw.nx hb2) hE (fun b q => q)).mono ?_
  rintro en w3 ⟨rfl, hF3, hb3⟩
  have hb23 := hb2.trans (hb3.mono hb2.size)
  have hS3 : w1.grownBy w3 (some w.heap.size) := grown_of_below hb23 (Nat.le_refl _) _
  have hq3 := hq.below hb23 ltx
  have lt3 := hq3.lt
  have f0 := hq3.frozen 0
  have q0 : w3.cell? ⟨w.heap.size, 0, none⟩ = some (.pointer (some ⟨p, 0, none⟩)) := hq3.cellv 0 rfl
  have hs3r := hS3
  refine hKQ.out _ _ hs3r ?_
  clear hKQ KQ
  (refine held_takeA 10 (by rfl) ?_ (by kernel_rfl) (fun _ _ _ h => h) hs3r ?_ ?_; rotate_left; (focus (intro wq hSw; have hrd := zG hSw; go_simp; try with_reducible rfl; done)); try simp only [Act.put, zA, zB, zC])
  refine held_callA 11 (by rfl) (by kernel_rfl) (by rfl) (fun KQ hKQ => ?_)
  go_simp
  obtain ⟨hq4, hg4⟩ := blk_store hq3 0 (.pointer (some ⟨p2, 0, none⟩))
  generalize hw4 : w3.setCell ⟨w.heap.size, 0, none⟩ (.pointer (some ⟨p2, 0, none⟩)) = w4 at *
  have hS4 : w1.grownBy w4 (some w.heap.size) := grown_trans hS3 hg4
  have lt4 := hq4.lt
  have f2 := hq4.frozen 2
  have q2 : w4.cell? ⟨w.heap.size, 2, none⟩ = some (.pointer (some ⟨f, 0, none⟩)) := hq4.cellv 2 rfl
  have hs4r := hS4
  refine hKQ.out _ _ hs4r ?_
  clear hKQ KQ
  (refine held_takeA 12 (by rfl) ?_ (by kernel_rfl) (fun _ _ _ h => h) hs4r ?_ ?_; rotate_left; (focus (intro wq hSw; have hrd := zG hSw; go_simp; try with_reducible rfl; done)); try simp only [Act.put, zA, zB, zC])
  refine held_callA 13 (by rfl) (by kernel_rfl) (by rfl) (fun KQ hKQ => ?_)
  go_simp
  obtain ⟨hq5, hg5⟩ := blk_store hq4 2 (.pointer (some ⟨w2.heap.size, 0, none⟩))
  generalize hw5 : w4.setCell ⟨w.heap.size, 2, none⟩ (.pointer (some ⟨w2.heap.size, 0, none⟩)) = w5 at *
  have hS5 : w1.grownBy w5 (some w.heap.size) := grown_trans hS4 hg5
  have hs5r := hS5
  refine hKQ.out _ _ hs5r ?_
  clear hKQ KQ
  refine wpAnyH_done (by kernel_rfl) ?_ _
  try refine NoPanic.normal ?_
  clear hw4 hw5 f0 f2 q0 q2 c0 c2
  have hz3 := hb23.size
  have hg35 := grown_trans hg4 hg5
  have hP5 : RefIn w5 (fun b => w1.heap.size ≤ b ∧ b < w2.heap.size ∧ b ≠ p2) p2 s.pc s.L := by
    have h9 := (refin_sharp hP2).nx hb3
    exact h9.grown hg35 (by omega) fun b q => by omega
  have hF5 : RefF w5 (fun b => w2.heap.size < b ∧ b < w3.heap.size ∧ b ≠ w2.heap.size) w2.heap.size s.ro s.idl s.now s.N s.E := (reff_sharp hF3).chg (Chg.of_grown (X := fun b => b = w.heap.size) hg35 rfl) (by have := hb2.size; omega) fun b q => by have := hb2.size; omega
  replace hq5 : Blk w5 w.heap.size 97 #[.pointer (some ⟨p2, 0, none⟩), .slice A s.C.length c, .pointer (some ⟨w2.heap.size, 0, none⟩), .int .i64 s.dF, .int .i64 s.dS, .int .i64 s.dR, .int .i64 s.dC, .int .i64 s.dH, .int .i64 s.pe, .bool s.hd, .bool s.on, .int .i64 s.lv, .int .u32 s.ad] := hq5
  have hC5 : Chg w1 w5 (fun b => b = w.heap.size) := (Chg.of_below (X := fun b => b = w.heap.size) hb23).trans (Chg.of_grown (X := fun b => b = w.heap.size) hg35 rfl) fun _ _ q => q
  have hgb := hC5.blk h1.blk hgx
  have hrow5 := rowC_chg h1.row hC5 fun k hk e => by
    have := h.lim k (h.dY k (h.own.2.2.2 k hk))
    omega
  obtain ⟨A', c', e', -, -, hSc⟩ := hrow5.seen (Nat.le_refl _)
  injection e' with eA eB eC
  subst eA; subst eC
  clear eB
  have c1 : w5.cell? ⟨g, 1, none⟩ = some (.slice A s.C.length c) := hgb.cellv 1 rfl
  have ltg5 := hgb.lt
  have hb6 := (Below.refl w5.heap.size w5).alloc (Nat.le_refl _) (.cells #[] 176)
  have hrow6 := ct_lit w5
  have hS6 := hSc.below hb6 fun b q => q.2
  have hz6 := hb6.size
  have c1b : (w5.alloc (.cells #[] 176)).cell? ⟨g, 1, none⟩ = some (.slice A s.C.length c) := (hgb.below hb6 ltg5).cellv 1 rfl
  have lt5 := hq5.lt
  have hCm : s.C.length ≤ 100000 := by have := hCl.out; omega
  have hpl := hP2.lt
  have hz32 := hb3.size
  have hflt := hF5.lt
  have hz35 := hg35.size
  have hB3 := hB.trans (hb23.mono hB.size)
  have hB5 : Below w.heap.size w w5 := below_own hB3 hg35 hB3.size (Nat.le_refl _)
  clear hP2 hF3 hrow5 h1 hq hq3 hq4 hg4 hg5 hS2 hS3 hS4 hS5 hB hb2 hb3 lt3 lt4
  go_upto_region 4 with (at_builtin; refine wpList_rows ctE_ok rfl (.tmp 19) (.tmp 23) rfl hrow6 rfl rfl hS6 (fun _ _ => trivial) (by unfold maxLen; simp; omega) (by simp; omega) hz6 ?_; intro v7 w7 hrow7 hg7; rw [List.nil_append] at hrow7; obtain ⟨A9, c9, e9, -, -, -⟩ := hrow7.seen (Nat.le_refl _); subst e9; have hb7 := hb6.trans (hrow6.below_app hg7 hz6); have hq7 := hq5.below hb7 lt5; have f7 := hq7.frozen 1; have lt7 := hq7.lt; have c7 : w7.cell? ⟨w.heap.size, 1, none⟩ = some (.slice A s.C.length c) := hq7.cellv 1 rfl)
  obtain ⟨hq8, hg8⟩ := blk_store hq7 1 (.slice A9 s.C.length c9)
  replace hq8 : Blk (w7.setCell ⟨w.heap.size, 1, none⟩ (.slice A9 s.C.length c9)) w.heap.size 97 (rvC s p2 w2.heap.size A9 c9) := hq8
  generalize hw8 : w7.setCell ⟨w.heap.size, 1, none⟩ (.slice A9 s.C.length c9) = w8 at *
  have hC8 : Chg w7 w8 (fun b => b = w.heap.size) := Chg.of_grown hg8 rfl
  have hol : ∀ k, (Value.slice A9 s.C.length c9).ownBlock = some k → w5.heap.size ≤ k ∧ k < w7.heap.size := fun k q => hrow7.1.lt k q
  have hrow8 := rowC_chg (hrow7.less (Nat.zero_le _) (Nat.zero_le _)) hC8 fun k q e => by have := hol k q; omega
  have hP8 := refin_chg (hP5.nx hb7) hC8 (by omega) fun b q e => by omega
  have hF8 := (hF5.nx hb7).chg hC8 (by omega) fun b q e => by omega
  have hz7 := hb7.size
  have hz8 := hC8.size
  have hB8 : Below w.heap.size w w8 := below_own (hB5.trans (hb7.mono hB5.size)) hg8 (by omega) (Nat.le_refl _)
  replace hq8 := Lib.hid hq8
  go_wp2_with fail
  go_ret
  refine ⟨w.heap.size, fun k => k = w.heap.size ∨ k = p2 ∨ k = w2.heap.size ∨ (Value.slice A9 s.C.length c9).ownBlock = some k, rfl, ⟨p2, w2.heap.size, A9, c9, hq8.out, refin_mono hP8 fun b q y => ?_, reff_mono hF8 fun b q y => ?_, hrow8, ⟨.inl rfl, .inr (.inl rfl), .inr (.inr (.inl rfl)), fun k q => .inr (.inr (.inr q))⟩, fun k q => .inr q, ⟨by omega, by omega, by omega, fun k q => by have := hol k q; omega⟩, fun k q => ?_⟩, fun k q => ?_, hB8⟩
  · rcases y with y | y | y | y | y
    · have := hY0 b y; omega
    · omega
    · omega
    · omega
    · have := hol b y; omega
  · rcases y with y | y | y | y | y
    · have := hY0 b y; omega
    · omega
    · omega
    · omega
    · have := hol b y; omega
  · rcases q with y | y | y | y | y
    · have := hY0 k y; omega
    · omega
    · omega
    · omega
    · have := hol k y; omega
  · rcases q with y | y | y | y
    · omega
    · omega
    · omega
    · have := hol k y; omega
end Go.Proofs.YtgdeecmhhbdjgaaGreat
