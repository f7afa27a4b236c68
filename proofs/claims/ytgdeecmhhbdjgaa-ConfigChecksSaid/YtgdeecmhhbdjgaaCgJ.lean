/- config: part 4. -/
import Derived.Test.YtgdeecmhhbdjgaaCgI
import Derived.Test.YtgdeecmhhbdjgaaPqB
namespace Go.Proofs.Ytgdeecmhhbdjgaa
set_option linter.unusedVariables false
open Go Go.RowKit Go.Maps

set_option maxRecDepth 100000 in
set_option maxHeartbeats 4000000 in
theorem pool1_any (w : World) (gp g b : Nat) (pc : Int) (M : List Mem) (a : BndV) (h : PoolIn w g b pc M) (hp : Blk w gp 133 #[.pointer (some ⟨g, 0, none⟩)]) (hne : gp ≠ b) : Calls Try.prog 65 #[.agg #[.int .i64 a.id, .int .u32 a.ad, .int .i64 a.wt], .pointer (some ⟨gp, 0, none⟩)] w fun e w' => e = .returned (.bool ((addP M a.id a.ad a.wt).1 != 0)) ∧ PoolIn w' g b pc (addP M a.id a.ad a.wt).2 ∧ Blk w' gp 133 #[.pointer (some ⟨g, 0, none⟩)] ∧ w.grownBy w' (some b) := by
  have hB := (Below.refl w.heap.size w).alloc (Nat.le_refl _) (.cells #[.int .i64 a.id, .int .u32 a.ad, .int .i64 a.wt] 114)
  have hq := Blk.new w 114 #[.int .i64 a.id, .int .u32 a.ad, .int .i64 a.wt]
  replace h := h.nx hB
  replace hp := hp.below hB hp.lt
  go_enter Try.func65, Try.ntmps65
  go_upto_region 1 with (fail)
  generalize w.alloc (.cells #[.int .i64 a.id, .int .u32 a.ad, .int .i64 a.wt] 114) = w1 at *
  have q0 : w1.cell? ⟨w.heap.size, 0, none⟩ = some (.int .i64 a.id) := hq.cellv 0 rfl
  have q1 : w1.cell? ⟨w.heap.size, 1, none⟩ = some (.int .u32 a.ad) := hq.cellv 1 rfl
  have q2 : w1.cell? ⟨w.heap.size, 2, none⟩ = some (.int .i64 a.wt) := hq.cellv 2 rfl
  have ql := hq.lt
  have p0 : w1.cell? ⟨gp, 0, none⟩ = some (.pointer (some ⟨g, 0, none⟩)) := hp.cellv 0 rfl
  have pl := hp.lt
  have hc := pAddS w1 g b pc M h a.id a.ad a.wt
  have hw : ∀ w', w1.grownBy w' (some b) → w.grownBy w' (some b) := fun w' hg => grown_trans (grown_of_below hB (Nat.le_refl _) _) hg
  go_wp2_with fail
  refine hc.mono ?_
  rintro e w2 ⟨rfl, h2, hg⟩
  go_wp2_with fail
  go_ret
  exact ⟨rfl, h2, hp.grown hg (by intro e; injection e with e; exact hne e), hw _ hg⟩
set_option maxRecDepth 100000 in
set_option maxHeartbeats 4000000 in
theorem vipPool_any (w : World) (v : VipV) (h : vipK.ok w (fun b => b < w.heap.size) v) (hbig : v.n ≤ 1000000) : Calls Try.prog 45 #[.agg #[.int .u32 v.ad, .int .i64 v.pct, .slice v.A v.n v.c]] w fun e w' => e = .returned (.bool (poolB v)) ∧ Below w.heap.size w w' := by
  obtain ⟨hU, hI, hnc, hcm, hS⟩ := h
  have hl := Lib.hid hS.1
  have hB := (Below.refl w.heap.size w).alloc (Nat.le_refl _) (.cells #[.int .u32 v.ad, .int .i64 v.pct, .slice v.A v.n v.c] 60)
  have hq := Blk.new w 60 #[.int .u32 v.ad, .int .i64 v.pct, .slice v.A v.n v.c]
  go_enter Try.func45, Try.ntmps45
  go_upto_region 1 with (fail)
  generalize w.alloc (.cells #[.int .u32 v.ad, .int .i64 v.pct, .slice v.A v.n v.c] 60) = w1 at *
  have q1 : w1.cell? ⟨w.heap.size, 1, none⟩ = some (.int .i64 v.pct) := hq.cellv 1 rfl
  have ql := hq.lt
  by_cases hp : v.pct < 1 ∨ 100 < v.pct
  · have ev := Lib.hid (show poolB v = false by unfold poolB rngB; rcases hp with hp | hp <;> simp <;> intros <;> omega)
    go_wp2_with fail
    refine (new_no w1 v.pct hp).mono ?_
    rintro e w2 ⟨rfl, rfl⟩
    go_wp2_with fail
    go_ret
    exact ⟨ret_bool ev.out.symm, hB.alloc hB.size _⟩
  have hp1 : rngB 1 100 v.pct = true := by unfold rngB; simp; omega
  go_wp2_with fail
  refine (new_in w1 v.pct (by omega) (by omega)).mono ?_
  rintro e w2 ⟨g, b, rfl, hP, hg1, hb1, hb⟩
  clear q1 ql
  have hz0 := hB.size
  replace hq := hq.below hb hq.lt
  replace hB := hB.trans (hb.mono hB.size)
  have hg0 : w.heap.size ≤ g := by omega
  have hb0 : w.heap.size ≤ b := by omega
  have hbx := (Below.refl w2.heap.size w2).alloc (Nat.le_refl _) (.cells #[.pointer (some ⟨g, 0, none⟩)] 133)
  have h5 := Blk.new w2 133 #[.pointer (some ⟨g, 0, none⟩)]
  replace hq := hq.below hbx hq.lt
  have hb5 : w2.heap.size ≠ b := by have := hP.ltb; omega
  replace hP := hP.nx hbx
  have hz5 := hB.size
  replace hB := hB.trans (hbx.mono hB.size)
  clear hg1 hb1 hb hbx hz0
  go_upto_region 3 with (fail)
  generalize w2.alloc (.cells #[.pointer (some ⟨g, 0, none⟩)] 133) = w3 at *
  generalize w2.heap.size = gp at *
  have q2 : w3.cell? ⟨w.heap.size, 2, none⟩ = some (.slice v.A v.n v.c) := hq.cellv 2 rfl
  have ql := hq.lt
  have p0 : w3.cell? ⟨gp, 0, none⟩ = some (.pointer (some ⟨g, 0, none⟩)) := h5.cellv 0 rfl
  have pl := h5.lt
  by_cases hn0 : v.n = 0
  · have ev := Lib.hid (show poolB v = false by unfold poolB; rw [hl.out, hn0]; simp)
    have d0 : decide ((0 : Int) < v.n) = false := by simp; omega
    have d1 : decide (0 < v.n) = false := by simp; omega
    replace hn0 := Lib.hid hn0
    go_wp2_with fail
    go_ret
    exact ⟨ret_bool ev.out.symm, hB⟩
  have d0 : decide ((0 : Int) < v.n) = true := by simp; omega
  have d1 : decide (0 < v.n) = true := by simp; omega
  have hcon := contains_bnd w3 v.A v.n v.c v.L (.pointer (some ⟨gp, 0, none⟩))
    (fun k wr => ∃ M, addsM [] (v.L.take k) = some M ∧ PoolIn wr g b v.pct M ∧ Blk wr gp 133 #[.pointer (some ⟨g, 0, none⟩)] ∧ Below w.heap.size w wr)
    (fun wr => addsM [] v.L = none ∧ Below w.heap.size w wr) hbig hS.1
    (fun k wr hI => by obtain ⟨M, _, _, _, hb⟩ := hI; exact seen_nx hS hb)
    ⟨[], rfl, hP, h5, hB⟩
    (fun k a wr hI ha => by
      obtain ⟨M, hM, hPw, h5w, hb⟩ := hI
      refine (pool1_any wr gp g b v.pct M a hPw h5w hb5).mono ?_
      rintro e w' ⟨rfl, h1, h2, hg⟩
      obtain ⟨t1, t2⟩ := addsM_take hM ha
      have hb' := hb.trans (Below.of_grown (B := w.heap.size) hg hb.size hb0)
      refine ⟨_, rfl, fun hr => ⟨t2 (by simpa using hr), hb'⟩, fun hr => ?_⟩
      have hr0 : (addP M a.id a.ad a.wt).1 = 0 := by simpa using hr
      rw [if_pos hr0] at t1
      exact ⟨_, t1, h1, h2, hb'⟩)
  go_wp2_with fail
  refine hcon.mono ?_
  rintro e w4 ⟨r, rfl, h1, h2⟩
  cases r
  · obtain ⟨M, hM, _, _, hb⟩ := h2 rfl
    rw [List.take_of_length_le (by rw [hl.out]; exact Nat.le_refl _)] at hM
    have ev := Lib.hid (show poolB v = true by unfold poolB; rw [hp1, hl.out, hM]; simp; omega)
    clear h1 h2 hcon
    go_wp2_with fail
    go_ret
    exact ⟨ret_bool ev.out.symm, hb⟩
  · obtain ⟨hM, hb⟩ := h1 rfl
    have ev := Lib.hid (show poolB v = false by unfold poolB; rw [hM]; simp)
    clear h1 h2 hcon
    go_wp2_with fail
    go_ret
    exact ⟨ret_bool ev.out.symm, hb⟩
set_option maxRecDepth 100000 in
set_option maxHeartbeats 4000000 in
theorem pools1_any (w : World) (v : VipV) (h : vipK.ok w (fun b => b < w.heap.size) v) (hbig : v.n ≤ 1000000) : Calls Try.prog 44 #[.agg #[.int .u32 v.ad, .int .i64 v.pct, .slice v.A v.n v.c]] w fun e w' => e = .returned (.bool (!poolB v)) ∧ Below w.heap.size w w' := by
  have hB := (Below.refl w.heap.size w).alloc (Nat.le_refl _) (.cells #[.int .u32 v.ad, .int .i64 v.pct, .slice v.A v.n v.c] 60)
  have hq := Blk.new w 60 #[.int .u32 v.ad, .int .i64 v.pct, .slice v.A v.n v.c]
  have h1 : vipK.ok (w.alloc (.cells #[.int .u32 v.ad, .int .i64 v.pct, .slice v.A v.n v.c] 60)) (fun b => b < (w.alloc (.cells #[.int .u32 v.ad, .int .i64 v.pct, .slice v.A v.n v.c] 60)).heap.size) v := vipK.more (vipK.keep h fun p hp => hB.cell hp) fun b hb => Nat.lt_of_lt_of_le hb hB.size
  go_enter Try.func44, Try.ntmps44
  go_upto_region 1 with (fail)
  generalize w.alloc (.cells #[.int .u32 v.ad, .int .i64 v.pct, .slice v.A v.n v.c] 60) = w1 at *
  have q0 : w1.cell? ⟨w.heap.size, 0, none⟩ = some (.int .u32 v.ad) := hq.cellv 0 rfl
  have q1 : w1.cell? ⟨w.heap.size, 1, none⟩ = some (.int .i64 v.pct) := hq.cellv 1 rfl
  have q2 : w1.cell? ⟨w.heap.size, 2, none⟩ = some (.slice v.A v.n v.c) := hq.cellv 2 rfl
  have ql := hq.lt
  go_wp2_with fail
  refine (vipPool_any w1 v h1 hbig).mono ?_
  rintro e w2 ⟨rfl, hb⟩
  go_wp2_with fail
  go_ret
  exact ⟨rfl, hB.trans (hb.mono hB.size)⟩
/-- not greater than is looked at. -/
structure CfgSm (c : CfgV) : Prop where
  p : c.pn ≤ 20
  v : c.vn ≤ 40
  s : c.sn ≤ 40
  b : ∀ x ∈ c.V, x.n ≤ 40
set_option maxRecDepth 100000 in
set_option maxHeartbeats 4000000 in
theorem poolsC_any (w : World) (c : CfgV) (h : CfgIn w c) (hs : CfgSm c) : Calls Try.prog 25 #[.agg (cfgC c)] w fun e w' => e = .returned (.bool (poolsB c)) ∧ Below w.heap.size w w' := by
  have hB := (Below.refl w.heap.size w).alloc (Nat.le_refl _) (.cells (cfgC c) 29)
  have hq := Blk.new w 29 (cfgC c)
  have hVl := Lib.hid h.vips.1
  go_enter Try.func25, Try.ntmps25
  go_upto_region 1 with (fail)
  generalize w.alloc (.cells (cfgC c) 29) = w1 at *
  have q4 : w1.cell? ⟨w.heap.size, 4, none⟩ = some (.slice c.vA c.vn c.vc) := hq.cellv 4 rfl
  have ql := hq.lt
  have hcon := contains_vip w1 c.vA c.vn c.vc c.V
    (fun k wr => (∀ j a, j < k → c.V[j]? = some a → poolB a = true) ∧ Below w.heap.size w wr)
    (fun wr => poolsB c = false ∧ Below w.heap.size w wr) (by have := hs.v; omega) h.vips.1
    (fun k wr hI => seen_nx h.vips hI.2)
    ⟨fun j a hj => absurd hj (by omega), hB⟩
    (fun k a wr hI ha => by
      obtain ⟨hall, hb⟩ := hI
      have hS := seen_nx h.vips hb
      refine (pools1_any wr a (hS.2.1 a (List.mem_of_getElem? ha)) (by have := hs.b a (List.mem_of_getElem? ha); omega)).mono ?_
      rintro e w' ⟨rfl, hb2⟩
      have hb' := hb.trans (hb2.mono hb.size)
      refine ⟨_, rfl, fun hr => ⟨?_, hb'⟩, fun hr => ⟨fun j x hj hx => ?_, hb'⟩⟩
      · unfold poolsB
        exact all_no ha (by simpa using hr)
      · by_cases hjk : j < k
        · exact hall j x hjk hx
        · obtain rfl : j = k := by omega
          rw [ha] at hx; injection hx with hx; subst hx
          simpa using hr)
  go_wp2_with fail
  refine hcon.mono ?_
  rintro e w4 ⟨r, rfl, h1, h2⟩
  cases r
  · obtain ⟨hall, hb⟩ := h2 rfl
    have ev := Lib.hid (show poolsB c = true from all_yes fun j a ha => hall j a (by have := (List.getElem?_eq_some_iff.1 ha).1; have := hVl.out; omega) ha)
    clear h1 h2 hcon hall
    go_wp2_with fail
    go_ret
    exact ⟨ret_bool ev.out.symm, hb⟩
  · obtain ⟨hM, hb⟩ := h1 rfl
    replace hM := Lib.hid hM
    clear h1 h2 hcon
    go_wp2_with fail
    go_ret
    exact ⟨ret_bool hM.out.symm, hb⟩
end Go.Proofs.Ytgdeecmhhbdjgaa
