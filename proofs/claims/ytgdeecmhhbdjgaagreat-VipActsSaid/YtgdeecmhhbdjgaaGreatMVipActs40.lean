import Derived.Test.YtgdeecmhhbdjgaaGreatMVipActs36
import Derived.Test.YtgdeecmhhbdjgaaGreatMVipActs38
import Derived.Test.YtgdeecmhhbdjgaaGreatMVipActs39
import Derived.Test.YtgdeecmhhbdjgaaGreatMVipActs24
import Derived.Test.YtgdeecmhhbdjgaaGreatMVipActs30
/- vip: do both tell the same? -/
namespace Go.Proofs.YtgdeecmhhbdjgaaGreat
set_option linter.unusedVariables false
open Go Go.RowKit Go.Maps

structure Like (s : VpS) (r : RvS) : Prop where
  ad : s.ad = r.ad
  on : s.on = r.on
  lv : s.lv = r.lv
  dF : s.dF = r.dF
  dS : s.dS = r.dS
  dR : s.dR = r.dR
  dC : s.dC = r.dC
  dH : s.dH = r.dH
  pe : s.pe = r.pe
  hd : s.hd = r.hd
  pc : s.pc = r.pc
  rel : Rel s.M r.L
  ro : s.ro = r.ro
  now : s.now = 0
  now2 : r.now = 0
  E : s.E = r.E
  C : r.C = r.L.map fun m => ⟨s.ri, s.fa, (s.K m.id).1, (s.K m.id).2⟩
theorem Like.srv {s : VpS} {r : RvS} (h : Like s r) (b : Bool) : srvS s b = srvR r b := by
  unfold srvS srvR quoS quoR
  rw [h.on, h.pc, rel_sum h.rel soUp, rel_sum h.rel soAll]
set_option maxRecDepth 100000 in
set_option maxHeartbeats 16000000 in
theorem alike33 {w : World} {Y D : Nat → Prop} {g d p pb f m gr pr fr cr : Nat} {XF : Nat → Prop} {kb : Int → Nat} {A : Option Addr} {s : VpS} {r : RvS} (h : VipR w g d p pb f m XF kb s) (hm : RvR w Y D gr pr fr A cr r) (hL : Like s r) (hG : GoodV s) (hH : GoodR r) (hE : r.E.length ≤ 100000) (b : Bool) :
    Calls Tryz.prog 42 #[.pointer (some ⟨g, 0, none⟩), .pointer (some ⟨gr, 0, none⟩), .bool b] w fun e w' => e = .returned (.bool true) ∧ Below w.heap.size w w' := by
  obtain ⟨R9, hR9e⟩ : ∃ R9, R9 = selB soAll r.L := ⟨_, rfl⟩
  have hln : R9.length ≤ 16 := by rw [hR9e, selB_ln]; exact hH.mem.1
  have hids := Lib.hid (selB_ids r.L)
  have hR9 : ∀ x ∈ R9, (Lit.int .i64 x.1).wf = true := fun x hx => by
    rw [hR9e] at hx
    obtain ⟨m, hm, rfl⟩ := List.mem_map.1 hx
    have := (hH.mem.2 m (List.mem_filter.1 hm).1).1
    exact wf_i64 (by show _ ≤ m.id; omega) (by show m.id ≤ _; omega)
  replace hR9e := Lib.hid hR9e
  have c0 : w.cell? ⟨gr, 0, none⟩ = some (.pointer (some ⟨pr, 0, none⟩)) := hm.blk.cellv 0 rfl
  have lgr := hm.blk.lt
  go_enter Tryz.func42, Tryz.ntmps42
  go_upto_region 3 with (go_at_call 127; refine (refAll25 w _ pr r.pc r.L hm.pol hH.mem).mono ?_; rintro en w2 ⟨v, rfl, hv, hb2⟩; rw [← hR9e.out] at hv; obtain ⟨VA, vc, rfl, hvc1, hvc2, hS⟩ := hv.seen (Nat.le_refl _))
  clear c0 lgr
  go_wp2_with fail
  replace hR9 := Lib.hid hR9
  go_loopw [7, 9, 16] (fun v _ i wr => ∃ k : Nat, k ≤ R9.length ∧ i = .int .i64 (k : Int) ∧ Rows intK wr w2.heap.size w2.heap.size 3 v ((R9.take k).map fun x => x.1) ∧ Below w2.heap.size w2 wr) (fun _ _ i _ => R9.length - (intOf i).toNat)
  case atStart => exact ⟨0, Nat.zero_le _, rfl, Rows.nil _ _ _ _, Below.refl _ _⟩
  case round =>
  obtain ⟨k, hk, rfl, hrow, hB⟩ := hrel
  have hz := hB.size
  by_cases hlt : k < R9.length
  · obtain ⟨bx, hbx⟩ : ∃ bx, R9[k]? = some bx := ⟨_, List.getElem?_eq_getElem hlt⟩
    obtain ⟨b, off, rfl, hb, hc⟩ := (hS.below hB fun _ q => q.2).cell hbx
    have e0 : wr.cell? ⟨b, off + k * 3, none⟩ = some (.int .i64 bx.1) := hc 0 (by decide)
    have e1 : wr.cell? ⟨b, off + k * 3 + 1, none⟩ = some (.int .u32 bx.2.1) := hc 1 (by decide)
    have e2 : wr.cell? ⟨b, off + k * 3 + 2, none⟩ = some (.int .i64 bx.2.2) := hc 2 (by decide)
    have ltb : b < wr.heap.size := Nat.lt_of_lt_of_le hb.2 hz
    have hki : (k : Int) < R9.length := by omega
    have hft : ((R9.take (k + 1)).map fun x => x.1) = ((R9.take k).map fun x => x.1) ++ [bx.1] := by
      rw [List.take_add_one, hbx, List.map_append]; rfl
    replace hft := Lib.hid hft
    have hb2 := (Below.refl wr.heap.size wr).alloc (Nat.le_refl _) (.cells #[.int .i64 bx.1, .int .u32 bx.2.1, .int .i64 bx.2.2] 120)
    have hq2 := Blk.new wr 120 #[.int .i64 bx.1, .int .u32 bx.2.1, .int .i64 bx.2.2]
    have hrow2 := hrow.alloc (.cells #[.int .i64 bx.1, .int .u32 bx.2.1, .int .i64 bx.2.2] 120)
    have hB2 := hB.alloc hz (.cells #[.int .i64 bx.1, .int .u32 bx.2.1, .int .i64 bx.2.2] 120)
    have hml : ((R9.take k).map fun x => x.1).length = k := by rw [List.length_map, List.length_take]; omega
    have hwf := hR9.out bx (List.mem_of_getElem? hbx)
    go_upto_region 5 with (fail)
    clear e0 e1 e2 hbx hc
    generalize wr.alloc (.cells #[.int .i64 bx.1, .int .u32 bx.2.1, .int .i64 bx.2.2] 120) = w3 at *
    have x0 : w3.cell? ⟨wr.heap.size, 0, none⟩ = some (.int .i64 bx.1) := hq2.cellv 0 rfl
    have lt3 := hq2.lt
    have hz3 := hB2.size
    have hone : Seen intK (w3.alloc (.cells #[.int .i64 bx.1] 3)) (fun _ => True) (some ⟨w3.heap.size, 0, none⟩) 1 [bx.1] := seen_one (R := intK) (S := fun _ => False) (S' := fun _ => True) w3 3 bx.1 #[.int .i64 bx.1] rfl hwf (fun _ h => h.elim) trivial (fun _ h => h.elim)
    have hrow3 := hrow2.alloc (.cells #[.int .i64 bx.1] 3)
    have hB3 := hB2.alloc hz3 (.cells #[.int .i64 bx.1] 3)
    have hz4 := hB3.size
    go_wp2_with (at_builtin; refine wpList_rows int_ok rfl (.tmp 20) (.tmp 23) rfl hrow3 rfl rfl hone (fun x hx => by simp at hx; subst hx; exact hwf) (by unfold maxLen; omega) (by omega) hz4 ?_; intro v6 w6 hrow6 hg6)
    exact ⟨⟨k + 1, by omega, by go_num, by rw [hft.out]; exact hrow6, hB3.grown hg6 hz4 (fun j e => (hrow3.1.lt j e).1)⟩, by simp [intOf]; omega⟩
  · obtain rfl : k = R9.length := by omega
    rw [List.take_length] at hrow
    rw [hR9e.out, hids.out] at hrow
    have hBw := hb2.trans (hB.mono hb2.size)
    replace h := h.nx hBw
    replace hm := hm.nx hBw
    obtain ⟨VI, vic, rfl, -, -, hSI⟩ := hrow.seen (Nat.le_refl _)
    have hrel := hL.rel
    have v1 := hL.lv
    have v2 := hL.hd
    have v3 := hL.pe
    have v4 := hL.on
    have v5 := hL.srv b
    have v6 := hL.ad
    have v7 := rel_sum hrel soUp
    have v8 := hL.E
    have hLL : (idsM r.L).length ≤ 100000000 := by unfold idsM; rw [List.length_map]; have := hH.mem.1; omega
    have hSI2 : ∀ b, 0 ≤ b → b < wr.heap.size → b < wr.heap.size := fun _ _ q => q
    clear hB hlt hR9 hln hS hv
    replace hids := True.intro
    replace hR9e := True.intro
    have c0 : wr.cell? ⟨gr, 0, none⟩ = some (.pointer (some ⟨pr, 0, none⟩)) := hm.blk.cellv 0 rfl
    have c2 : wr.cell? ⟨gr, 2, none⟩ = some (.pointer (some ⟨fr, 0, none⟩)) := hm.blk.cellv 2 rfl
    have c8 : wr.cell? ⟨gr, 8, none⟩ = some (.int .i64 r.pe) := hm.blk.cellv 8 rfl
    have c9 : wr.cell? ⟨gr, 9, none⟩ = some (.bool r.hd) := hm.blk.cellv 9 rfl
    have c10 : wr.cell? ⟨gr, 10, none⟩ = some (.bool r.on) := hm.blk.cellv 10 rfl
    have c11 : wr.cell? ⟨gr, 11, none⟩ = some (.int .i64 r.lv) := hm.blk.cellv 11 rfl
    obtain ⟨FA, fn, fc, fca, fwe, -, -, -, -, hqf, hSf⟩ := hm.flw
    have hfn := hSf.1
    have f3 : wr.cell? ⟨fr, 3, none⟩ = some (.slice FA fn fc) := hqf.cellv 3 rfl
    have ltf := hqf.lt
    have lgr := hm.blk.lt
    have hpool := h.pol
    have hML := hrel.2.2
    have k1 := fun w (q : VipR w g d p pb f m XF kb s) => vpLevel q
    have k2 := fun w (q : VipR w g d p pb f m XF kb s) => vpHeld q hG
    have k3 := fun w (q : VipR w g d p pb f m XF kb s) => vpPenalty q hG
    have k4 := fun w (q : VipR w g d p pb f m XF kb s) => vpEnabled q
    have k5 := fun w (q : VipR w g d p pb f m XF kb s) => vpServable q hG b
    have k6 := fun w (q : RvR w Y D gr pr fr A cr r) => rvServable q hH b
    have k7 := fun w (q : VipR w g d p pb f m XF kb s) => vpPrefix q
    have k8 := fun w (q : RvR w Y D gr pr fr A cr r) => rvPrefix q
    have k9 := fun w (q : VipR w g d p pb f m XF kb s) => pHealthy w p pb s.pc s.M q.pol hML
    have k10 := fun w (q : RvR w Y D gr pr fr A cr r) => refHealthy25 w _ pr r.pc r.L q.pol hH.mem
    have k11 := fun w (q : VipR w g d p pb f m XF kb s) => lenFX q.flw
    rw [v1] at k1
    rw [v2] at k2
    rw [v3] at k3
    rw [v4] at k4
    rw [v5] at k5
    rw [v6] at k7
    rw [v7] at k9
    rw [v8, hfn] at k11
    clear v1 v2 v3 v4 v5 v6 v7 v8 hfn
    generalize srvR r b = sv at *
    generalize sumW soUp r.L = su at *
    go_upto_region 7 with (fail)
    try refine wp_region_noPanic ?_
    refine wp_region_lat (by kernel_rfl) ?_
    (refine lat_now 0 (by rfl) ?_ (by kernel_rfl) (fun _ _ _ h => h) ?_ ?_; rotate_left; (focus (intro wq hSw; have hrd := zR hSw; go_simp; try with_reducible rfl; done)); try simp only [Act.put, zA, zB, zC])
    (refine lat_now 2 (by rfl) ?_ (by kernel_rfl) (fun _ _ _ h => h) ?_ ?_; rotate_left; (focus (intro wq hSw; have hrd := zR hSw; go_simp; try with_reducible rfl; done)); try simp only [Act.put, zA, zB, zC])
    (refine lat_now 3 (by rfl) ?_ (by kernel_rfl) (fun _ _ _ h => h) ?_ ?_; rotate_left; (focus (intro wq hSw; have hrd := zR hSw; go_simp; try with_reducible rfl; done)); try simp only [Act.put, zA, zB, zC])
    (refine lat_now 4 (by rfl) ?_ (by kernel_rfl) (fun _ _ _ h => h) ?_ ?_; rotate_left; (focus (intro wq hSw; have hrd := zR hSw; go_simp; try with_reducible rfl; done)); try simp only [Act.put, zA, zB, zC])
    (refine lat_now 5 (by rfl) ?_ (by kernel_rfl) (fun _ _ _ h => h) ?_ ?_; rotate_left; (focus (intro wq hSw; have hrd := zR hSw; go_simp; try with_reducible rfl; done)); try simp only [Act.put, zA, zB, zC])
    (refine lat_late 1 (by rfl) (.int .i64 r.lv) (by kernel_rfl) (fun _ _ _ h => h) (fun wq hSw => ⟨_, _, ?_, ((k1 wq (h.nx hSw)).mono fun _ _ q => ⟨q.1, q.2 ▸ Below.refl _ _⟩)⟩) ?_; focus (go_simp; try with_reducible rfl; done); try simp only [Act.put, zA, zB, zC])
    (refine lat_now 6 (by rfl) ?_ (by kernel_rfl) (fun _ _ _ h => h) ?_ ?_; rotate_left; (focus (intro wq hSw; have hrd := zR hSw; go_simp; try with_reducible rfl; done)); try simp only [Act.put, zA, zB, zC])
    (refine lat_now 7 (by rfl) ?_ (by kernel_rfl) (fun _ _ _ h => h) ?_ ?_; rotate_left; (focus (intro wq hSw; have hrd := zR hSw; go_simp; try with_reducible rfl; done)); try simp only [Act.put, zA, zB, zC])
    (refine lat_now 8 (by rfl) ?_ (by kernel_rfl) (fun _ _ _ h => h) ?_ ?_; rotate_left; (focus (intro wq hSw; have hrd := zR hSw; go_simp; try with_reducible rfl; done)); try simp only [Act.put, zA, zB, zC])
    (refine lat_now 10 (by rfl) ?_ (by kernel_rfl) (fun _ _ _ h => h) ?_ ?_; rotate_left; (focus (intro wq hSw; have hrd := zR hSw; go_simp; try with_reducible rfl; done)); try simp only [Act.put, zA, zB, zC])
    (refine lat_now 11 (by rfl) ?_ (by kernel_rfl) (fun _ _ _ h => h) ?_ ?_; rotate_left; (focus (intro wq hSw; have hrd := zR hSw; go_simp; try with_reducible rfl; done)); try simp only [Act.put, zA, zB, zC])
    (refine lat_now 12 (by rfl) ?_ (by kernel_rfl) (fun _ _ _ h => h) ?_ ?_; rotate_left; (focus (intro wq hSw; have hrd := zR hSw; go_simp; try with_reducible rfl; done)); try simp only [Act.put, zA, zB, zC])
    (refine lat_now 13 (by rfl) ?_ (by kernel_rfl) (fun _ _ _ h => h) ?_ ?_; rotate_left; (focus (intro wq hSw; have hrd := zR hSw; go_simp; try with_reducible rfl; done)); try simp only [Act.put, zA, zB, zC])
    (refine lat_now 14 (by rfl) ?_ (by kernel_rfl) (fun _ _ _ h => h) ?_ ?_; rotate_left; (focus (intro wq hSw; have hrd := zR hSw; go_simp; try with_reducible rfl; done)); try simp only [Act.put, zA, zB, zC])
    (refine lat_late 9 (by rfl) (.bool r.hd) (by kernel_rfl) (fun _ _ _ h => h) (fun wq hSw => ⟨_, _, ?_, ((k2 wq (h.nx hSw)).mono fun _ _ q => ⟨q.1, q.2 ▸ Below.refl _ _⟩)⟩) ?_; focus (go_simp; try with_reducible rfl; done); try simp only [Act.put, zA, zB, zC])
    (refine lat_now 15 (by rfl) ?_ (by kernel_rfl) (fun _ _ _ h => h) ?_ ?_; rotate_left; (focus (intro wq hSw; have hrd := zR hSw; go_simp; try with_reducible rfl; done)); try simp only [Act.put, zA, zB, zC])
    (refine lat_now 16 (by rfl) ?_ (by kernel_rfl) (fun _ _ _ h => h) ?_ ?_; rotate_left; (focus (intro wq hSw; have hrd := zR hSw; go_simp; try with_reducible rfl; done)); try simp only [Act.put, zA, zB, zC])
    (refine lat_now 17 (by rfl) ?_ (by kernel_rfl) (fun _ _ _ h => h) ?_ ?_; rotate_left; (focus (intro wq hSw; have hrd := zR hSw; go_simp; try with_reducible rfl; done)); try simp only [Act.put, zA, zB, zC])
    (refine lat_now 18 (by rfl) ?_ (by kernel_rfl) (fun _ _ _ h => h) ?_ ?_; rotate_left; (focus (intro wq hSw; have hrd := zR hSw; go_simp; try with_reducible rfl; done)); try simp only [Act.put, zA, zB, zC])
    (refine lat_now 20 (by rfl) ?_ (by kernel_rfl) (fun _ _ _ h => h) ?_ ?_; rotate_left; (focus (intro wq hSw; have hrd := zR hSw; go_simp; try with_reducible rfl; done)); try simp only [Act.put, zA, zB, zC])
    (refine lat_now 21 (by rfl) ?_ (by kernel_rfl) (fun _ _ _ h => h) ?_ ?_; rotate_left; (focus (intro wq hSw; have hrd := zR hSw; go_simp; try with_reducible rfl; done)); try simp only [Act.put, zA, zB, zC])
    (refine lat_now 22 (by rfl) ?_ (by kernel_rfl) (fun _ _ _ h => h) ?_ ?_; rotate_left; (focus (intro wq hSw; have hrd := zR hSw; go_simp; try with_reducible rfl; done)); try simp only [Act.put, zA, zB, zC])
    (refine lat_now 23 (by rfl) ?_ (by kernel_rfl) (fun _ _ _ h => h) ?_ ?_; rotate_left; (focus (intro wq hSw; have hrd := zR hSw; go_simp; try with_reducible rfl; done)); try simp only [Act.put, zA, zB, zC])
    (refine lat_now 24 (by rfl) ?_ (by kernel_rfl) (fun _ _ _ h => h) ?_ ?_; rotate_left; (focus (intro wq hSw; have hrd := zR hSw; go_simp; try with_reducible rfl; done)); try simp only [Act.put, zA, zB, zC])
    (refine lat_late 19 (by rfl) (.int .i64 r.pe) (by kernel_rfl) (fun _ _ _ h => h) (fun wq hSw => ⟨_, _, ?_, ((k3 wq (h.nx hSw)).mono fun _ _ q => ⟨q.1, q.2 ▸ Below.refl _ _⟩)⟩) ?_; focus (go_simp; try with_reducible rfl; done); try simp only [Act.put, zA, zB, zC])
    (refine lat_now 25 (by rfl) ?_ (by kernel_rfl) (fun _ _ _ h => h) ?_ ?_; rotate_left; (focus (intro wq hSw; have hrd := zR hSw; go_simp; try with_reducible rfl; done)); try simp only [Act.put, zA, zB, zC])
    (refine lat_now 26 (by rfl) ?_ (by kernel_rfl) (fun _ _ _ h => h) ?_ ?_; rotate_left; (focus (intro wq hSw; have hrd := zR hSw; go_simp; try with_reducible rfl; done)); try simp only [Act.put, zA, zB, zC])
    (refine lat_now 27 (by rfl) ?_ (by kernel_rfl) (fun _ _ _ h => h) ?_ ?_; rotate_left; (focus (intro wq hSw; have hrd := zR hSw; go_simp; try with_reducible rfl; done)); try simp only [Act.put, zA, zB, zC])
    (refine lat_now 28 (by rfl) ?_ (by kernel_rfl) (fun _ _ _ h => h) ?_ ?_; rotate_left; (focus (intro wq hSw; have hrd := zR hSw; go_simp; try with_reducible rfl; done)); try simp only [Act.put, zA, zB, zC])
    (refine lat_now 30 (by rfl) ?_ (by kernel_rfl) (fun _ _ _ h => h) ?_ ?_; rotate_left; (focus (intro wq hSw; have hrd := zR hSw; go_simp; try with_reducible rfl; done)); try simp only [Act.put, zA, zB, zC])
    (refine lat_now 31 (by rfl) ?_ (by kernel_rfl) (fun _ _ _ h => h) ?_ ?_; rotate_left; (focus (intro wq hSw; have hrd := zR hSw; go_simp; try with_reducible rfl; done)); try simp only [Act.put, zA, zB, zC])
    (refine lat_now 32 (by rfl) ?_ (by kernel_rfl) (fun _ _ _ h => h) ?_ ?_; rotate_left; (focus (intro wq hSw; have hrd := zR hSw; go_simp; try with_reducible rfl; done)); try simp only [Act.put, zA, zB, zC])
    (refine lat_now 33 (by rfl) ?_ (by kernel_rfl) (fun _ _ _ h => h) ?_ ?_; rotate_left; (focus (intro wq hSw; have hrd := zR hSw; go_simp; try with_reducible rfl; done)); try simp only [Act.put, zA, zB, zC])
    (refine lat_late 29 (by rfl) (.bool r.on) (by kernel_rfl) (fun _ _ _ h => h) (fun wq hSw => ⟨_, _, ?_, ((k4 wq (h.nx hSw)).mono fun _ _ q => ⟨q.1, q.2 ▸ Below.refl _ _⟩)⟩) ?_; focus (go_simp; try with_reducible rfl; done); try simp only [Act.put, zA, zB, zC])
    (refine lat_now 34 (by rfl) ?_ (by kernel_rfl) (fun _ _ _ h => h) ?_ ?_; rotate_left; (focus (intro wq hSw; have hrd := zR hSw; go_simp; try with_reducible rfl; done)); try simp only [Act.put, zA, zB, zC])
    (refine lat_now 35 (by rfl) ?_ (by kernel_rfl) (fun _ _ _ h => h) ?_ ?_; rotate_left; (focus (intro wq hSw; have hrd := zR hSw; go_simp; try with_reducible rfl; done)); try simp only [Act.put, zA, zB, zC])
    (refine lat_now 36 (by rfl) ?_ (by kernel_rfl) (fun _ _ _ h => h) ?_ ?_; rotate_left; (focus (intro wq hSw; have hrd := zR hSw; go_simp; try with_reducible rfl; done)); try simp only [Act.put, zA, zB, zC])
    (refine lat_now 37 (by rfl) ?_ (by kernel_rfl) (fun _ _ _ h => h) ?_ ?_; rotate_left; (focus (intro wq hSw; have hrd := zR hSw; go_simp; try with_reducible rfl; done)); try simp only [Act.put, zA, zB, zC])
    (refine lat_now 38 (by rfl) ?_ (by kernel_rfl) (fun _ _ _ h => h) ?_ ?_; rotate_left; (focus (intro wq hSw; have hrd := zR hSw; go_simp; try with_reducible rfl; done)); try simp only [Act.put, zA, zB, zC])
    (refine lat_now 40 (by rfl) ?_ (by kernel_rfl) (fun _ _ _ h => h) ?_ ?_; rotate_left; (focus (intro wq hSw; have hrd := zR hSw; go_simp; try with_reducible rfl; done)); try simp only [Act.put, zA, zB, zC])
    (refine lat_now 41 (by rfl) ?_ (by kernel_rfl) (fun _ _ _ h => h) ?_ ?_; rotate_left; (focus (intro wq hSw; have hrd := zR hSw; go_simp; try with_reducible rfl; done)); try simp only [Act.put, zA, zB, zC])
    (refine lat_late 39 (by rfl) (.bool sv) (by kernel_rfl) (fun _ _ _ h => h) (fun wq hSw => ⟨_, _, ?_, (k5 wq (h.nx hSw))⟩) ?_; focus (go_simp; try with_reducible rfl; done); try simp only [Act.put, zA, zB, zC])
    (refine lat_late 42 (by rfl) (.bool sv) (by kernel_rfl) (fun _ _ _ h => h) (fun wq hSw => ⟨_, _, ?_, (k6 wq (hm.nx hSw))⟩) ?_; focus (go_simp; try with_reducible rfl; done); try simp only [Act.put, zA, zB, zC])
    (refine lat_now 43 (by rfl) ?_ (by kernel_rfl) (fun _ _ _ h => h) ?_ ?_; rotate_left; (focus (intro wq hSw; have hrd := zR hSw; go_simp; try with_reducible rfl; done)); try simp only [Act.put, zA, zB, zC])
    (refine lat_now 44 (by rfl) ?_ (by kernel_rfl) (fun _ _ _ h => h) ?_ ?_; rotate_left; (focus (intro wq hSw; have hrd := zR hSw; go_simp; try with_reducible rfl; done)); try simp only [Act.put, zA, zB, zC])
    (refine lat_now 45 (by rfl) ?_ (by kernel_rfl) (fun _ _ _ h => h) ?_ ?_; rotate_left; (focus (intro wq hSw; have hrd := zR hSw; go_simp; try with_reducible rfl; done)); try simp only [Act.put, zA, zB, zC])
    (refine lat_now 46 (by rfl) ?_ (by kernel_rfl) (fun _ _ _ h => h) ?_ ?_; rotate_left; (focus (intro wq hSw; have hrd := zR hSw; go_simp; try with_reducible rfl; done)); try simp only [Act.put, zA, zB, zC])
    (refine lat_now 48 (by rfl) ?_ (by kernel_rfl) (fun _ _ _ h => h) ?_ ?_; rotate_left; (focus (intro wq hSw; have hrd := zR hSw; go_simp; try with_reducible rfl; done)); try simp only [Act.put, zA, zB, zC])
    (refine lat_late 47 (by rfl) (.agg #[.int .u32 r.ad, .int .i64 32]) (by kernel_rfl) (fun _ _ _ h => h) (fun wq hSw => ⟨_, _, ?_, (k7 wq (h.nx hSw))⟩) ?_; focus (go_simp; try with_reducible rfl; done); try simp only [Act.put, zA, zB, zC])
    (refine lat_late 49 (by rfl) (.agg #[.int .u32 r.ad, .int .i64 32]) (by kernel_rfl) (fun _ _ _ h => h) (fun wq hSw => ⟨_, _, ?_, (k8 wq (hm.nx hSw))⟩) ?_; focus (go_simp; try with_reducible rfl; done); try simp only [Act.put, zA, zB, zC])
    (refine lat_now 50 (by rfl) ?_ (by kernel_rfl) (fun _ _ _ h => h) ?_ ?_; rotate_left; (focus (intro wq hSw; have hrd := zR hSw; go_simp; try with_reducible rfl; done)); try simp only [Act.put, zA, zB, zC])
    (refine lat_now 51 (by rfl) ?_ (by kernel_rfl) (fun _ _ _ h => h) ?_ ?_; rotate_left; (focus (intro wq hSw; have hrd := zR hSw; go_simp; try with_reducible rfl; done)); try simp only [Act.put, zA, zB, zC])
    (refine lat_now 52 (by rfl) ?_ (by kernel_rfl) (fun _ _ _ h => h) ?_ ?_; rotate_left; (focus (intro wq hSw; have hrd := zR hSw; go_simp; try with_reducible rfl; done)); try simp only [Act.put, zA, zB, zC])
    (refine lat_now 53 (by rfl) ?_ (by kernel_rfl) (fun _ _ _ h => h) ?_ ?_; rotate_left; (focus (intro wq hSw; have hrd := zR hSw; go_simp; try with_reducible rfl; done)); try simp only [Act.put, zA, zB, zC])
    (refine lat_now 55 (by rfl) ?_ (by kernel_rfl) (fun _ _ _ h => h) ?_ ?_; rotate_left; (focus (intro wq hSw; have hrd := zR hSw; go_simp; try with_reducible rfl; done)); try simp only [Act.put, zA, zB, zC])
    refine lat_call 54 (by rfl) (by kernel_rfl) (by rfl) (fun wx hlx KQ hKQ => ?_)
    go_simp
    refine (vpIds (h.nx hlx) hG r.L hrel.1 hrel.2.1).mono ?_
    rintro e w3 ⟨v3, rfl, hv3, hb3⟩
    obtain ⟨VJ, vjc, rfl, -, -, hSJ⟩ := hv3.seen (Nat.le_refl _)
    refine hKQ.out _ _ hb3 ?_
    clear hKQ KQ
    try simp only [Act.put, zA, zB, zC]
    refine lat_call 56 (by rfl) (by kernel_rfl) (by rfl) (fun wy hly KQ hKQ => ?_)
    go_simp
    refine (ints13_any wy _ _ VJ _ vjc (idsM r.L) VI _ vic (idsM r.L) (hSJ.below hly fun b q => q.2) (hSI.below (Lat.trans (Lat.trans hlx hb3) hly) fun b q => q.2) (fun b q => Nat.lt_of_lt_of_le q.2 hly.size) (fun b q => Nat.lt_of_lt_of_le q.2 (Nat.le_trans hlx.size (Nat.le_trans hb3.size hly.size))) hLL).mono ?_
    rintro e w4 ⟨e9, hb4⟩
    rw [decide_eq_true rfl] at e9
    subst e9
    have hw4 : Below wr.heap.size wr w4 := Lat.trans (Lat.trans (Lat.trans hlx hb3) hly) hb4
    replace h := h.nx hw4
    replace hm := hm.nx hw4
    have d0 : w4.cell? ⟨gr, 0, none⟩ = some (.pointer (some ⟨pr, 0, none⟩)) := hm.blk.cellv 0 rfl
    have d2 : w4.cell? ⟨gr, 2, none⟩ = some (.pointer (some ⟨fr, 0, none⟩)) := hm.blk.cellv 2 rfl
    have d3 : w4.cell? ⟨fr, 3, none⟩ = some (.slice FA fn fc) := (hqf.below hw4 hqf.lt).cellv 3 rfl
    have ltf4 := (hqf.below hw4 hqf.lt).lt
    have lgr4 := hm.blk.lt
    refine hKQ.out _ _ hb4 ?_
    clear hKQ KQ
    try simp only [Act.put, zA, zB, zC]
    (refine lat_now 57 (by rfl) ?_ (by kernel_rfl) (fun _ _ _ h => h) ?_ ?_; rotate_left; (focus (intro wq hSw; have hrd := zR hSw; go_simp; try with_reducible rfl; done)); try simp only [Act.put, zA, zB, zC])
    (refine lat_now 58 (by rfl) ?_ (by kernel_rfl) (fun _ _ _ h => h) ?_ ?_; rotate_left; (focus (intro wq hSw; have hrd := zR hSw; go_simp; try with_reducible rfl; done)); try simp only [Act.put, zA, zB, zC])
    (refine lat_now 59 (by rfl) ?_ (by kernel_rfl) (fun _ _ _ h => h) ?_ ?_; rotate_left; (focus (intro wq hSw; have hrd := zR hSw; go_simp; try with_reducible rfl; done)); try simp only [Act.put, zA, zB, zC])
    (refine lat_now 62 (by rfl) ?_ (by kernel_rfl) (fun _ _ _ h => h) ?_ ?_; rotate_left; (focus (intro wq hSw; have hrd := zR hSw; go_simp; try with_reducible rfl; done)); try simp only [Act.put, zA, zB, zC])
    (refine lat_now 63 (by rfl) ?_ (by kernel_rfl) (fun _ _ _ h => h) ?_ ?_; rotate_left; (focus (intro wq hSw; have hrd := zR hSw; go_simp; try with_reducible rfl; done)); try simp only [Act.put, zA, zB, zC])
    (refine lat_now 64 (by rfl) ?_ (by kernel_rfl) (fun _ _ _ h => h) ?_ ?_; rotate_left; (focus (intro wq hSw; have hrd := zR hSw; go_simp; try with_reducible rfl; done)); try simp only [Act.put, zA, zB, zC])
    (refine lat_now 65 (by rfl) ?_ (by kernel_rfl) (fun _ _ _ h => h) ?_ ?_; rotate_left; (focus (intro wq hSw; have hrd := zR hSw; go_simp; try with_reducible rfl; done)); try simp only [Act.put, zA, zB, zC])
    (refine lat_late 60 (by rfl) (.pointer (some ⟨p, 0, none⟩)) (by kernel_rfl) (fun _ _ _ h => h) (fun wq hSw => ⟨_, _, ?_, ((vpPool (h.nx hSw)).mono fun _ _ q => ⟨q.1, q.2 ▸ Below.refl _ _⟩)⟩) ?_; focus (go_simp; try with_reducible rfl; done); try simp only [Act.put, zA, zB, zC])
    (refine lat_late 61 (by rfl) (.int .i64 su) (by kernel_rfl) (fun _ _ _ h => h) (fun wq hSw => ⟨_, _, ?_, (k9 wq (h.nx hSw))⟩) ?_; focus (go_simp; try with_reducible rfl; done); try simp only [Act.put, zA, zB, zC])
    (refine lat_late 66 (by rfl) (.int .i64 su) (by kernel_rfl) (fun _ _ _ h => h) (fun wq hSw => ⟨_, _, ?_, (k10 wq (hm.nx hSw))⟩) ?_; focus (go_simp; try with_reducible rfl; done); try simp only [Act.put, zA, zB, zC])
    (refine lat_now 67 (by rfl) ?_ (by kernel_rfl) (fun _ _ _ h => h) ?_ ?_; rotate_left; (focus (intro wq hSw; have hrd := zR hSw; go_simp; try with_reducible rfl; done)); try simp only [Act.put, zA, zB, zC])
    (refine lat_now 68 (by rfl) ?_ (by kernel_rfl) (fun _ _ _ h => h) ?_ ?_; rotate_left; (focus (intro wq hSw; have hrd := zR hSw; go_simp; try with_reducible rfl; done)); try simp only [Act.put, zA, zB, zC])
    (refine lat_now 69 (by rfl) ?_ (by kernel_rfl) (fun _ _ _ h => h) ?_ ?_; rotate_left; (focus (intro wq hSw; have hrd := zR hSw; go_simp; try with_reducible rfl; done)); try simp only [Act.put, zA, zB, zC])
    (refine lat_now 70 (by rfl) ?_ (by kernel_rfl) (fun _ _ _ h => h) ?_ ?_; rotate_left; (focus (intro wq hSw; have hrd := zR hSw; go_simp; try with_reducible rfl; done)); try simp only [Act.put, zA, zB, zC])
    (refine lat_now 73 (by rfl) ?_ (by kernel_rfl) (fun _ _ _ h => h) ?_ ?_; rotate_left; (focus (intro wq hSw; have hrd := zR hSw; go_simp; try with_reducible rfl; done)); try simp only [Act.put, zA, zB, zC])
    (refine lat_now 74 (by rfl) ?_ (by kernel_rfl) (fun _ _ _ h => h) ?_ ?_; rotate_left; (focus (intro wq hSw; have hrd := zR hSw; go_simp; try with_reducible rfl; done)); try simp only [Act.put, zA, zB, zC])
    (refine lat_now 75 (by rfl) ?_ (by kernel_rfl) (fun _ _ _ h => h) ?_ ?_; rotate_left; (focus (intro wq hSw; have hrd := zR hSw; go_simp; try with_reducible rfl; done)); try simp only [Act.put, zA, zB, zC])
    (refine lat_now 76 (by rfl) ?_ (by kernel_rfl) (fun _ _ _ h => h) ?_ ?_; rotate_left; (focus (intro wq hSw; have hrd := zR hSw; go_simp; try with_reducible rfl; done)); try simp only [Act.put, zA, zB, zC])
    (refine lat_now 77 (by rfl) ?_ (by kernel_rfl) (fun _ _ _ h => h) ?_ ?_; rotate_left; (focus (intro wq hSw; have hrd := zR hSw; go_simp; try with_reducible rfl; done)); try simp only [Act.put, zA, zB, zC])
    (refine lat_now 78 (by rfl) ?_ (by kernel_rfl) (fun _ _ _ h => h) ?_ ?_; rotate_left; (focus (intro wq hSw; have hrd := zR hSw; go_simp; try with_reducible rfl; done)); try simp only [Act.put, zA, zB, zC])
    (refine lat_now 79 (by rfl) ?_ (by kernel_rfl) (fun _ _ _ h => h) ?_ ?_; rotate_left; (focus (intro wq hSw; have hrd := zR hSw; go_simp; try with_reducible rfl; done)); try simp only [Act.put, zA, zB, zC])
    (refine lat_now 80 (by rfl) ?_ (by kernel_rfl) (fun _ _ _ h => h) ?_ ?_; rotate_left; (focus (intro wq hSw; have hrd := zR hSw; go_simp; try with_reducible rfl; done)); try simp only [Act.put, zA, zB, zC])
    (refine lat_late 71 (by rfl) (.pointer (some ⟨f, 0, none⟩)) (by kernel_rfl) (fun _ _ _ h => h) (fun wq hSw => ⟨_, _, ?_, ((vpFlows (h.nx hSw)).mono fun _ _ q => ⟨q.1, q.2 ▸ Below.refl _ _⟩)⟩) ?_; focus (go_simp; try with_reducible rfl; done); try simp only [Act.put, zA, zB, zC])
    (refine lat_late 72 (by rfl) (.int .i64 fn) (by kernel_rfl) (fun _ _ _ h => h) (fun wq hSw => ⟨_, _, ?_, ((k11 wq (h.nx hSw)).mono fun _ _ q => ⟨q.1, q.2 ▸ Below.refl _ _⟩)⟩) ?_; focus (go_simp; try with_reducible rfl; done); try simp only [Act.put, zA, zB, zC])
    (refine lat_now 81 (by rfl) ?_ (by kernel_rfl) (fun _ _ _ h => h) ?_ ?_; rotate_left; (focus (intro wq hSw; have hrd := zR hSw; go_simp; try with_reducible rfl; done)); try simp only [Act.put, zA, zB, zC])
    (refine lat_now 82 (by rfl) ?_ (by kernel_rfl) (fun _ _ _ h => h) ?_ ?_; rotate_left; (focus (intro wq hSw; have hrd := zR hSw; go_simp; try with_reducible rfl; done)); try simp only [Act.put, zA, zB, zC])
    (refine lat_now 83 (by rfl) ?_ (by kernel_rfl) (fun _ _ _ h => h) ?_ ?_; rotate_left; (focus (intro wq hSw; have hrd := zR hSw; go_simp; try with_reducible rfl; done)); try simp only [Act.put, zA, zB, zC])
    refine lat_done (by kernel_rfl) (fun wz hz => ?_) _
    try refine NoPanic.normal ?_
    go_wp2_with fail
    go_ret
    exact ⟨rfl, hBw.trans ((hw4.trans (hz.mono hw4.size)).mono hBw.size)⟩
end Go.Proofs.YtgdeecmhhbdjgaaGreat

/- vip: what is done to both keeps them alike. -/
namespace Go.Proofs.YtgdeecmhhbdjgaaGreat
set_option linter.unusedVariables false
open Go Go.RowKit Go.Maps

theorem Like.quo {s : VpS} {r : RvS} (h : Like s r) : quoS s = quoR r := by
  unfold quoS quoR
  rw [h.pc, rel_sum h.rel soUp, rel_sum h.rel soAll]
theorem Like.want {s : VpS} {r : RvS} (h : Like s r) (b : Bool) : wantS s b = wantR r b := by
  unfold wantS wantR
  rw [h.srv, h.hd, h.quo]
theorem Like.tick {s : VpS} {r : RvS} (h : Like s r) : Like (tickD s) (tickR r) := by
  obtain ⟨h1, h2, h3, h4, h5, h6, h7, h8, h9, h10, h11, h12, h13, h14, h15, h16, h17⟩ := h
  refine ⟨h1, h2, h3, h4, h5, h6, h7, h8, ?_, ?_, h11, h12, h13, h14, h15, h16, h17⟩
  · show dm.decay s.pe s.dH = dm.decay r.pe r.dH
    rw [h9, h8]
  · show (s.hd && decide (s.dR < dm.decay s.pe s.dH)) = (r.hd && decide (r.dR < dm.decay r.pe r.dH))
    rw [h10, h6, h9, h8]
theorem Like.look {s : VpS} {r : RvS} (h : Like s r) (b : Bool) : Like (lookS s b) (lookR r b) := by
  have hw := h.want b
  obtain ⟨h1, h2, h3, h4, h5, h6, h7, h8, h9, h10, h11, h12, h13, h14, h15, h16, h17⟩ := h
  unfold lookS lookR
  rw [hw, h3]
  split
  · refine ⟨h1, h2, rfl, h4, h5, h6, h7, h8, ?_, ?_, h11, h12, h13, h14, h15, h16, h17⟩
    · show dm.lowest (s.pe + s.dF) s.dC = dm.lowest (r.pe + r.dF) r.dC
      rw [h9, h4, h7]
    · show (s.hd || decide (s.dS ≤ dm.lowest (s.pe + s.dF) s.dC)) = (r.hd || decide (r.dS ≤ dm.lowest (r.pe + r.dF) r.dC))
      rw [h10, h5, h9, h4, h7]
  · exact ⟨h1, h2, rfl, h4, h5, h6, h7, h8, h9, h10, h11, h12, h13, h14, h15, h16, h17⟩
theorem set_map {α β : Type} [DecidableEq α] (f : α → β) (y : β) : ∀ (l : List α) (k : Nat) (i : α), l.Nodup → l[k]? = some i → (l.map f).set k y = l.map fun j => if j = i then y else f j
  | [], k, i, _, h => by simp at h
  | a :: l, 0, i, hn, h => by
    simp at h
    subst h
    rw [List.nodup_cons] at hn
    simp only [List.map_cons, List.set_cons_zero, if_pos]
    congr 1
    exact List.map_congr_left fun j hj => by rw [if_neg fun e : j = a => hn.1 (e ▸ hj)]
  | a :: l, k + 1, i, hn, h => by
    rw [List.getElem?_cons_succ] at h
    rw [List.nodup_cons] at hn
    have hai : a ≠ i := fun e => hn.1 (e ▸ List.mem_of_getElem? h)
    rw [List.map_cons, List.set_cons_succ, List.map_cons, if_neg hai, set_map f y l k i hn.2 h]
theorem map_ids {L : List Mem} {β : Type} (f : Int → β) : (L.map fun m => f m.id) = (idsM L).map f := by
  unfold idsM
  rw [List.map_map]; rfl
theorem drop_set {s : VpS} {r : RvS} {M L : List Mem} (h : Like s r) (hr : Rel M L) (hi : idsM L = idsM r.L) : Like { s with M := M } { r with L := L } := by
  obtain ⟨h1, h2, h3, h4, h5, h6, h7, h8, h9, h10, h11, h12, h13, h14, h15, h16, h17⟩ := h
  refine ⟨h1, h2, h3, h4, h5, h6, h7, h8, h9, h10, h11, hr, h13, h14, h15, h16, ?_⟩
  show r.C = L.map fun m => ⟨s.ri, s.fa, (s.K m.id).1, (s.K m.id).2⟩
  rw [h17, map_ids (fun i => (⟨s.ri, s.fa, (s.K i).1, (s.K i).2⟩ : CtV)), map_ids (fun i => (⟨s.ri, s.fa, (s.K i).1, (s.K i).2⟩ : CtV)), hi]
theorem Like.res {s : VpS} {r : RvS} (h : Like s r) (i : Int) (ok : Bool) : (resS s i ok).1 = (resR r i ok).1 ∧ Like (resS s i ok).2 (resR r i ok).2 := by
  have hC := h.C
  rw [map_ids (fun i => (⟨s.ri, s.fa, (s.K i).1, (s.K i).2⟩ : CtV))] at hC
  rcases rel_find h.rel i with ⟨hM, hL⟩ | ⟨k, j, m, hM, hL, hk, hj, he⟩
  · have hno : i ∉ idsM s.M := fun q => by
      obtain ⟨m, hm, e⟩ := List.mem_map.1 q
      exact findF_no hM m hm e
    unfold resS resR
    rw [if_neg hno, hL]
    exact ⟨rfl, h⟩
  · have hin : i ∈ idsM s.M := List.mem_map.2 ⟨m, List.mem_of_getElem? hk, he⟩
    have hji : (idsM r.L)[j]? = some i := by unfold idsM; rw [List.getElem?_map, hj, ← he]; rfl
    have hnd : (idsM r.L).Nodup := (byId_ids.1 h.rel.2.1).imp fun q => by omega
    have hct : ctAt r.C j = ⟨s.ri, s.fa, (s.K i).1, (s.K i).2⟩ := by
      unfold ctAt
      rw [hC, List.getElem?_map, hji]; rfl
    have hnote : notC (ctAt r.C j) ok = noteK s.ri s.fa (s.K i) ok := by rw [hct]; rfl
    have hset : r.C.set j ⟨(ctAt r.C j).r, (ctAt r.C j).f, (notC (ctAt r.C j) ok).2.1, (notC (ctAt r.C j) ok).2.2⟩ = (idsM r.L).map fun i' => (⟨s.ri, s.fa, (putK s.K i (noteK s.ri s.fa (s.K i) ok).2 i').1, (putK s.K i (noteK s.ri s.fa (s.K i) ok).2 i').2⟩ : CtV) := by
      rw [hnote, hct, hC, set_map _ _ _ _ _ hnd hji]
      refine List.map_congr_left fun q _ => ?_
      unfold putK
      split <;> rfl
    unfold resS resR
    rw [if_pos hin, hL]
    simp only
    rw [hset, hnote]
    have hmk := rel_mark h.rel i (noteK s.ri s.fa (s.K i) ok).2.1
    have hids := mark_ids r.L i (noteK s.ri s.fa (s.K i) ok).2.1
    obtain ⟨h1, h2, h3, h4, h5, h6, h7, h8, h9, h10, h11, h12, h13, h14, h15, h16, h17⟩ := h
    split
    · refine ⟨rfl, h1, h2, h3, h4, h5, h6, h7, h8, h9, h10, h11, hmk.2, h13, h14, h15, ?_, ?_⟩
      · simp only [h16]
      · simp only
        rw [map_ids (fun i' => (⟨s.ri, s.fa, (putK s.K i (noteK s.ri s.fa (s.K i) ok).2 i').1, (putK s.K i (noteK s.ri s.fa (s.K i) ok).2 i').2⟩ : CtV)), hids]
    · refine ⟨rfl, h1, h2, h3, h4, h5, h6, h7, h8, h9, h10, h11, h12, h13, h14, h15, h16, ?_⟩
      simp only
      rw [map_ids (fun i' => (⟨s.ri, s.fa, (putK s.K i (noteK s.ri s.fa (s.K i) ok).2 i').1, (putK s.K i (noteK s.ri s.fa (s.K i) ok).2 i').2⟩ : CtV))]
theorem like_act {s : VpS} {r : RvS} (h : Like s r) (a : ActW) : actQ s r a = true ∧ Like (actS s a) (actRv r a) := by
  unfold actQ actS actRv
  split
  · have := h.res a.id a.on
    exact ⟨by simp [this.1], this.2⟩
  · split
    · have := h.res a.id false
      exact ⟨by simp [this.1], this.2⟩
    · split
      · exact ⟨by simp [h.tick.want], h.tick.look _⟩
      · split
        · exact ⟨by simp [h.want], h.look _⟩
        · split
          · have := rel_drain h.rel a.id a.on
            exact ⟨by simp [this.1], drop_set h this.2 (drain_ids _ _ _)⟩
          · split
            · have := rel_weigh h.rel a.id a.n
              exact ⟨by simp [this.1], drop_set h this.2 (weigh_ids _ _ _)⟩
            · split
              · refine ⟨by simp [h.on], ?_⟩
                obtain ⟨h1, h2, h3, h4, h5, h6, h7, h8, h9, h10, h11, h12, h13, h14, h15, h16, h17⟩ := h
                exact ⟨h1, rfl, h3, h4, h5, h6, h7, h8, h9, h10, h11, h12, h13, h14, h15, h16, h17⟩
              · exact ⟨rfl, h⟩
theorem put_eq {ro : Int} {E : List EnV} {f : Flo} {b t : Int} (hn : (E.map EnV.fl).Nodup) (hro : 1 ≤ ro) : (putN ro E f b t).2.2 = putE ro E f b t := by
  unfold putE cutE putN
  cases hf : E.findIdx? (isF f) with
  | none =>
    have hno : ∀ y ∈ E, y.fl ≠ f := fun y hy e => by
      have := List.findIdx?_eq_none_iff.1 hf y hy
      rw [isF_yes e] at this
      cases this
    rw [if_neg (by rw [(find_none hno).2]; simp)]
    by_cases h1 : (E.length : Int) < ro
    · rw [if_pos h1]
      simp only
      rw [if_neg (by omega)]
    · rw [if_neg h1]
      simp only
      rw [if_pos (by omega), List.eraseIdx_zero]
  | some k =>
    obtain ⟨hk, h1, h2⟩ := List.findIdx?_eq_some_iff_getElem.1 hf
    have hx : E[k].fl = f := of_decide_eq_true h1
    have hE : E = E.take k ++ E[k] :: E.drop (k + 1) := by
      rw [← List.drop_eq_getElem_cons hk, List.take_append_drop]
    have hn2 := hn
    rw [hE, List.map_append, List.map_cons, List.nodup_append, List.nodup_cons] at hn2
    obtain ⟨n1, ⟨n2, n3⟩, n4⟩ := hn2
    have hp : ∀ y ∈ E.take k, y.fl ≠ f := fun y hy e => n4 _ (List.mem_map.2 ⟨y, hy, rfl⟩) _ List.mem_cons_self (e.trans hx.symm)
    have hq : ∀ y ∈ E.drop (k + 1), y.fl ≠ f := fun y hy e => n2 (List.mem_map.2 ⟨y, hy, e.trans hx.symm⟩)
    obtain ⟨m1, m2, m3⟩ := mid_find hx hp hq
    rw [← hE] at m2 m3
    rw [if_pos m3]
    simp only
    rw [m2, en_td]
end Go.Proofs.YtgdeecmhhbdjgaaGreat

/- vip: whether a configuration is small; acts as an argument. -/
namespace Go.Proofs.YtgdeecmhhbdjgaaGreat
set_option linter.unusedVariables false
open Go Go.RowKit Go.Maps

structure ActWOk (a : ActW) : Prop where
  i0 : -9223372036854775808 ≤ a.id
  i1 : a.id ≤ 9223372036854775807
  n0 : (Lit.int .i64 a.n).wf = true
def actWK : RK ActW where
  size := 5
  cel a := [.int .i64 a.k, .int .i64 a.id, .int .i64 a.n, .bool a.on, .bool a.sm]
  ok _ _ a := ActWOk a
  pos := by omega
  len _ := rfl
  one _ u hu := by simp at hu; rcases hu with rfl | rfl | rfl | rfl | rfl <;> rfl
  keep h _ := h
  more h _ := h
theorem actW_cells {w : World} {S : Nat → Prop} {A : Option Addr} {n : Nat} {L : List ActW} {k : Nat} (h : Seen actWK w S A n L) (hk : k < n) :
    ∃ b off a, A = some ⟨b, off, none⟩ ∧ S b ∧ L[k]? = some a ∧ ActWOk a ∧ w.cell? ⟨b, off + k * 5, none⟩ = some (.int .i64 a.k) ∧ w.cell? ⟨b, off + k * 5 + 1, none⟩ = some (.int .i64 a.id) ∧ w.cell? ⟨b, off + k * 5 + 2, none⟩ = some (.int .i64 a.n) ∧
      w.cell? ⟨b, off + k * 5 + 3, none⟩ = some (.bool a.on) ∧ w.cell? ⟨b, off + k * 5 + 4, none⟩ = some (.bool a.sm) := by
  have hlt : k < L.length := by rw [h.1]; exact hk
  have hr := List.getElem?_eq_getElem hlt
  obtain ⟨b, off, e, hb, hc⟩ := h.cell hr
  exact ⟨b, off, _, e, hb, hr, h.2.1 _ (List.getElem_mem hlt), hc 0 (by decide), hc 1 (by decide), hc 2 (by decide), hc 3 (by decide), hc 4 (by decide)⟩
set_option maxRecDepth 100000 in
theorem open_actsW {H : Type} {enc : TypeId × Value → H} {W : World} {base b0 : Nat} {spare : Nat → Bool} {held : Bool} {r : Reach} {v : Value} {d : DataW H} {p : List MemPlace}
    (hv : Value.okWide Tryz.prog W r b0 79 v) (h : DataW.Trod enc Tryz.prog W base spare held 79 v d p) :
    ∃ A len cap rs, v = .slice A len cap ∧ len ≤ cap ∧ cap ≤ maxLen ∧ Seen actWK W (fun b => b < W.heap.size) A len rs := by
  obtain ⟨A, len, cap, vs, rfl, h1, h2, h3, h4⟩ := open_flat Tryz.underlying79 (show Tryz.prog.cellsOf 52 = 5 by kernel_rfl) (by omega) hv h
  obtain ⟨rs, hrs⟩ := seen_of_flat (R := actWK) h3 fun i hi => by
    obtain ⟨n0, y0, hy⟩ := h4 i hi
    replace hy : DataW.trod enc Tryz.prog W base spare held n0 52 [vs (i * 5 + 0), vs (i * 5 + 1), vs (i * 5 + 2), vs (i * 5 + 3), vs (i * 5 + 4)] = some y0 := hy
    obtain ⟨m0, z0, t0⟩ := trod_field (off := 0) (k := 1) (T := 3) Tryz.underlying52 hy 0 rfl rfl rfl (by kernel_rfl)
    replace t0 : DataW.trod enc Tryz.prog W base spare held m0 3 [vs (i * 5 + 0)] = some z0 := t0
    obtain ⟨m1, z1, t1⟩ := trod_field (off := 1) (k := 1) (T := 3) Tryz.underlying52 hy 1 rfl rfl rfl (by kernel_rfl)
    replace t1 : DataW.trod enc Tryz.prog W base spare held m1 3 [vs (i * 5 + 1)] = some z1 := t1
    obtain ⟨m2, z2, t2⟩ := trod_field (off := 2) (k := 1) (T := 3) Tryz.underlying52 hy 2 rfl rfl rfl (by kernel_rfl)
    replace t2 : DataW.trod enc Tryz.prog W base spare held m2 3 [vs (i * 5 + 2)] = some z2 := t2
    obtain ⟨m3, z3, t3⟩ := trod_field (off := 3) (k := 1) (T := 4) Tryz.underlying52 hy 3 rfl rfl rfl (by kernel_rfl)
    replace t3 : DataW.trod enc Tryz.prog W base spare held m3 4 [vs (i * 5 + 3)] = some z3 := t3
    obtain ⟨m4, z4, t4⟩ := trod_field (off := 4) (k := 1) (T := 4) Tryz.underlying52 hy 4 rfl rfl rfl (by kernel_rfl)
    replace t4 : DataW.trod enc Tryz.prog W base spare held m4 4 [vs (i * 5 + 4)] = some z4 := t4
    obtain ⟨x0, e0, w0⟩ := field_int Tryz.underlying3 t0
    obtain ⟨x1, e1, w1⟩ := field_int Tryz.underlying3 t1
    obtain ⟨x2, e2, w2⟩ := field_int Tryz.underlying3 t2
    obtain ⟨x3, e3⟩ := field_bool Tryz.underlying4 t3
    obtain ⟨x4, e4⟩ := field_bool Tryz.underlying4 t4
    refine ⟨⟨x0, x1, x2, x3, x4⟩, fun j hj => ?_, ?_⟩
    · show [.int .i64 x0, .int .i64 x1, .int .i64 x2, Value.bool x3, Value.bool x4][j]? = some (vs (i * 5 + j))
      match j, hj with
      | 0, _ => rw [e0]; rfl
      | 1, _ => rw [e1]; rfl
      | 2, _ => rw [e2]; rfl
      | 3, _ => rw [e3]; rfl
      | 4, _ => rw [e4]; rfl
    · exact ⟨(isI_wf w1).1, (isI_wf w1).2, w2⟩
  exact ⟨A, len, cap, rs, rfl, h1, h2, hrs⟩
set_option maxRecDepth 100000 in
set_option maxHeartbeats 8000000 in
theorem small33_any (w : World) (c : CfgV) (h : CfgIn w c) : Calls Tryz.prog 35 #[.agg (cfgC c)] w fun e w' => e = .returned (.bool (smallB c)) ∧ Below w.heap.size w w' := by
  have hB := (Below.refl w.heap.size w).alloc (Nat.le_refl _) (.cells (cfgC c) 29)
  have hq := Blk.new w 29 (cfgC c)
  have hVl := Lib.hid h.vips.1
  obtain ⟨A, hA⟩ : ∃ A, A = c.vA := ⟨_, rfl⟩
  have hSv := h.vips
  rw [← hA] at hSv
  go_enter Tryz.func35, Tryz.ntmps35
  go_upto_region 1 with (fail)
  generalize w.alloc (.cells (cfgC c) 29) = w1 at *
  have q3 : w1.cell? ⟨w.heap.size, 3, none⟩ = some (.slice c.pA c.pn c.pc) := hq.cellv 3 rfl
  have q4 : w1.cell? ⟨w.heap.size, 4, none⟩ = some (.slice A c.vn c.vc) := by rw [hA]; exact hq.cellv 4 rfl
  have q5 : w1.cell? ⟨w.heap.size, 5, none⟩ = some (.slice c.sA c.sn c.sc) := hq.cellv 5 rfl
  have ql := hq.lt
  replace hA := Lib.hid hA
  by_cases h0 : c.pn ≤ 20 ∧ c.vn ≤ 40 ∧ c.sn ≤ 40
  rotate_left
  · have ev := Lib.hid (show smallB c = false by unfold smallB; rw [Bool.eq_false_iff]; simp only [ne_eq, Bool.and_eq_true, decide_eq_true_eq]; exact fun q => h0 ⟨q.1, q.2.1, q.2.2.1⟩)
    by_cases k1 : c.pn ≤ 20
    · have d1 : decide ((20 : Int) < c.pn) = false := by simp; omega
      by_cases k2 : c.vn ≤ 40
      · have d2 : decide ((40 : Int) < c.vn) = false := by simp; omega
        have d3 : decide ((40 : Int) < c.sn) = true := by simp; omega
        clear h0
        go_wp2_with fail
        go_ret
        exact ⟨ret_bool ev.out.symm, hB⟩
      · have d2 : decide ((40 : Int) < c.vn) = true := by simp; omega
        clear h0
        go_wp2_with fail
        go_ret
        exact ⟨ret_bool ev.out.symm, hB⟩
    · have d1 : decide ((20 : Int) < c.pn) = true := by simp; omega
      clear h0
      go_wp2_with fail
      go_ret
      exact ⟨ret_bool ev.out.symm, hB⟩
  obtain ⟨k1, k2, k3⟩ := h0
  have d1 : decide ((20 : Int) < c.pn) = false := by simp; omega
  have d2 : decide ((40 : Int) < c.vn) = false := by simp; omega
  have d3 : decide ((40 : Int) < c.sn) = false := by simp; omega
  go_upto_region 4 with (fail)
  clear q3 q4 q5 ql d1 d2 d3
  go_loopw [24] (fun i wr => ∃ k : Nat, k ≤ c.vn ∧ i = .int .i64 (k : Int) ∧ (∀ j a, j < k → c.V[j]? = some a → a.n ≤ 40) ∧ Below w.heap.size w wr) (fun i _ => c.vn - (intOf i).toNat)
  case atStart => exact ⟨0, Nat.zero_le _, rfl, fun j a hj => absurd hj (by omega), hB⟩
  case round =>
  clear hq hB
  obtain ⟨k, hk, rfl, hall, hB⟩ := hrel
  replace hall := Lib.hid hall
  by_cases hlt : k < c.vn
  · have hki : (k : Int) < c.vn := by omega
    have hk0 : (0 : Int) ≤ k := by omega
    have hk40 : (k : Int) ≤ 40 := by omega
    obtain ⟨b, off, v, e1, hb, hv, hok, r0, r1, r2⟩ := vip_cells (seen_nx hSv hB) hlt
    subst e1
    have hv9 := Lib.hid hv
    have hbx := (Below.refl wr.heap.size wr).alloc (Nat.le_refl _) (.cells #[.int .u32 v.ad, .int .i64 v.pct, .slice v.A v.n v.c] 109)
    have h5 := Blk.new wr 109 #[.int .u32 v.ad, .int .i64 v.pct, .slice v.A v.n v.c]
    replace hB := hB.trans (hbx.mono hB.size)
    clear hv
    go_upto_region 6 with (fail)
    generalize wr.alloc (.cells #[.int .u32 v.ad, .int .i64 v.pct, .slice v.A v.n v.c] 109) = w3 at *
    generalize wr.heap.size = g5 at *
    have s2 : w3.cell? ⟨g5, 2, none⟩ = some (.slice v.A v.n v.c) := h5.cellv 2 rfl
    have sl := h5.lt
    clear r0 r1 r2 hbx hb
    by_cases hn : v.n ≤ 40
    · have d1 : decide ((40 : Int) < v.n) = false := by simp; omega
      have hall2 := Lib.hid (show ∀ j a, j < k + 1 → c.V[j]? = some a → a.n ≤ 40 from fun j a hj ha => by
        by_cases hjk : j < k
        · exact hall.out j a hjk ha
        · obtain rfl : j = k := by omega
          rw [hv9.out] at ha; injection ha with ha; subst ha
          exact hn)
      go_wp2_with fail
      exact ⟨⟨k + 1, by omega, by go_num, hall2.out, hB⟩, by simp [intOf]; omega⟩
    · have d1 : decide ((40 : Int) < v.n) = true := by simp; omega
      have ev := Lib.hid (show smallB c = false by unfold smallB; rw [all_no hv9.out (by simp; omega)]; simp)
      go_wp2_with fail
      go_ret
      exact ⟨ret_bool ev.out.symm, hB⟩
  · obtain rfl : k = c.vn := by omega
    have ev := Lib.hid (show smallB c = true by
      unfold smallB
      rw [all_yes fun j a ha => by simpa using hall.out j a (by have := (List.getElem?_eq_some_iff.1 ha).1; have := hVl.out; omega) ha]
      simp [k1, k2, k3])
    go_wp2_with fail
    go_ret
    exact ⟨ret_bool ev.out.symm, hB⟩
end Go.Proofs.YtgdeecmhhbdjgaaGreat
