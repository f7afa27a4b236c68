import Derived.Laws.StructEq
import Derived.BigGuardPart
import Derived.Deep.DeepCutAuto
import Derived.Test.YtecmhakapomepaaGreatMConfigForms14
import Derived.Test.YtecmhakapomepaaGreatMConfigForms21
import Derived.Test.YtecmhakapomepaaGreatMConfigForms2
/- config: configurations that are alike. -/
namespace Go.Proofs.YtecmhakapomepaaGreat
set_option linter.unusedVariables false
open Go Go.RowKit

set_option maxHeartbeats 2000000 in
theorem arr9_eq (d : Nat) (a0 a1 a2 a3 a4 a5 a6 a7 a8 b0 b1 b2 b3 b4 b5 b6 b7 b8 : Int) (w : World) : (Op.equalIn (d + 1 + 1) 96 (.agg #[.int .i64 a0, .int .i64 a1, .int .i64 a2, .int .i64 a3, .int .i64 a4, .int .i64 a5, .int .i64 a6, .int .i64 a7, .int .i64 a8]) (.agg #[.int .i64 b0, .int .i64 b1, .int .i64 b2, .int .i64 b3, .int .i64 b4, .int .i64 b5, .int .i64 b6, .int .i64 b7, .int .i64 b8])).run Tryz.prog w = .ok (a0 == b0 && (a1 == b1 && (a2 == b2 && (a3 == b3 && (a4 == b4 && (a5 == b5 && (a6 == b6 && (a7 == b7 && (a8 == b8 && true))))))))) w := by
  rw [Op.equalIn]
  have hs : ∀ w : World, (sizeOf 3).run Tryz.prog w = .ok 1 w := fun w => by kernel_rfl
  simp only [Sem.run_bind, run_underlying Tryz.underlying96, Result.andThen_ok, hs]
  rw [Std.Legacy.Range.forIn_eq_forIn_range']
  simp only [Std.Legacy.Range.size, List.range', List.forIn_cons, List.forIn_nil]
  by_cases h0 : a0 = b0
  case neg =>
    have e0 : (a0 == b0) = false := by simpa using h0
    go_simp
  subst h0
  by_cases h1 : a1 = b1
  case neg =>
    have e1 : (a1 == b1) = false := by simpa using h1
    go_simp
  subst h1
  by_cases h2 : a2 = b2
  case neg =>
    have e2 : (a2 == b2) = false := by simpa using h2
    go_simp
  subst h2
  by_cases h3 : a3 = b3
  case neg =>
    have e3 : (a3 == b3) = false := by simpa using h3
    go_simp
  subst h3
  by_cases h4 : a4 = b4
  case neg =>
    have e4 : (a4 == b4) = false := by simpa using h4
    go_simp
  subst h4
  by_cases h5 : a5 = b5
  case neg =>
    have e5 : (a5 == b5) = false := by simpa using h5
    go_simp
  subst h5
  by_cases h6 : a6 = b6
  case neg =>
    have e6 : (a6 == b6) = false := by simpa using h6
    go_simp
  subst h6
  by_cases h7 : a7 = b7
  case neg =>
    have e7 : (a7 == b7) = false := by simpa using h7
    go_simp
  subst h7
  by_cases h8 : a8 = b8
  case neg =>
    have e8 : (a8 == b8) = false := by simpa using h8
    go_simp
  subst h8
  go_simp
theorem eqlN (a0 a1 a2 a3 a4 a5 a6 a7 a8 b0 b1 b2 b3 b4 b5 b6 b7 b8 : Int) (w : World) : (binOp .eql 96 (.agg #[.int .i64 a0, .int .i64 a1, .int .i64 a2, .int .i64 a3, .int .i64 a4, .int .i64 a5, .int .i64 a6, .int .i64 a7, .int .i64 a8]) (.agg #[.int .i64 b0, .int .i64 b1, .int .i64 b2, .int .i64 b3, .int .i64 b4, .int .i64 b5, .int .i64 b6, .int .i64 b7, .int .i64 b8])).run Tryz.prog w = .ok (.bool (a0 == b0 && (a1 == b1 && (a2 == b2 && (a3 == b3 && (a4 == b4 && (a5 == b5 && (a6 == b6 && (a7 == b7 && (a8 == b8 && true)))))))))) w := by
  have h : (Op.equalIn 10000 96 (.agg #[.int .i64 a0, .int .i64 a1, .int .i64 a2, .int .i64 a3, .int .i64 a4, .int .i64 a5, .int .i64 a6, .int .i64 a7, .int .i64 a8]) (.agg #[.int .i64 b0, .int .i64 b1, .int .i64 b2, .int .i64 b3, .int .i64 b4, .int .i64 b5, .int .i64 b6, .int .i64 b7, .int .i64 b8])).run Tryz.prog w = .ok (a0 == b0 && (a1 == b1 && (a2 == b2 && (a3 == b3 && (a4 == b4 && (a5 == b5 && (a6 == b6 && (a7 == b7 && (a8 == b8 && true))))))))) w := arr9_eq 9998 a0 a1 a2 a3 a4 a5 a6 a7 a8 b0 b1 b2 b3 b4 b5 b6 b7 b8 w
  go_simp
theorem vipw_eq (u v : VipV) : decide (u.w = v.w) = (decide (u.ad = v.ad) && decide (u.pct = v.pct) && decide (u.L = v.L)) := by
  rw [Bool.eq_iff_iff]
  simp [VipV.w, and_assoc]
theorem eqlD (a0 a1 a2 a3 a4 b0 b1 b2 b3 b4 : Int) (w : World) : (binOp .eql 27 (.agg #[.int .i64 a0, .int .i64 a1, .int .i64 a2, .int .i64 a3, .int .i64 a4]) (.agg #[.int .i64 b0, .int .i64 b1, .int .i64 b2, .int .i64 b3, .int .i64 b4])).run Tryz.prog w = .ok (.bool ((a0 == b0 && a1 == b1 && a2 == b2 && a3 == b3 && a4 == b4))) w := by
  by_cases h0 : a0 = b0
  case neg =>
    have e0 : (a0 == b0) = false := by simpa using h0
    go_simp
  subst h0
  by_cases h1 : a1 = b1
  case neg =>
    have e1 : (a1 == b1) = false := by simpa using h1
    go_simp
  subst h1
  by_cases h2 : a2 = b2
  case neg =>
    have e2 : (a2 == b2) = false := by simpa using h2
    go_simp
  subst h2
  by_cases h3 : a3 = b3
  case neg =>
    have e3 : (a3 == b3) = false := by simpa using h3
    go_simp
  subst h3
  by_cases h4 : a4 = b4
  case neg =>
    have e4 : (a4 == b4) = false := by simpa using h4
    go_simp
  subst h4
  go_simp
set_option maxRecDepth 100000 in
set_option maxHeartbeats 8000000 in
theorem sameVip_any (w : World) (u v : VipV) (hu : vipK.ok w (fun b => b < w.heap.size) u) (hv : vipK.ok w (fun b => b < w.heap.size) v) (hn : u.n ≤ 1000000) : Calls Tryz.prog 47 #[.agg #[.int .u32 u.ad, .int .i64 u.pct, .slice u.A u.n u.c], .agg #[.int .u32 v.ad, .int .i64 v.pct, .slice v.A v.n v.c]] w fun e w' => e = .returned (.bool (decide (u.w = v.w))) ∧ Below w.heap.size w w' := by
  rw [vipw_eq]
  have hb1 := (Below.refl w.heap.size w).alloc (Nat.le_refl _) (.cells #[.int .u32 u.ad, .int .i64 u.pct, .slice u.A u.n u.c] 53)
  have hb2 := hb1.alloc hb1.size (.cells #[.int .u32 v.ad, .int .i64 v.pct, .slice v.A v.n v.c] 53)
  have h2 := (Blk.new w 53 #[.int .u32 u.ad, .int .i64 u.pct, .slice u.A u.n u.c]).alloc (.cells #[.int .u32 v.ad, .int .i64 v.pct, .slice v.A v.n v.c] 53)
  have h3 := Blk.new (w.alloc (.cells #[.int .u32 u.ad, .int .i64 u.pct, .slice u.A u.n u.c] 53)) 53 #[.int .u32 v.ad, .int .i64 v.pct, .slice v.A v.n v.c]
  rw [World.size_alloc] at h3
  have hSu := (hu.2.2.2.2.below hb2 fun _ q => q)
  have hSv := (hv.2.2.2.2.below hb2 fun _ q => q)
  have hz := hb2.size
  go_enter Tryz.func47, Tryz.ntmps47
  go_upto_region 1 with (fail)
  generalize (w.alloc (.cells #[.int .u32 u.ad, .int .i64 u.pct, .slice u.A u.n u.c] 53)).alloc (.cells #[.int .u32 v.ad, .int .i64 v.pct, .slice v.A v.n v.c] 53) = w2 at *
  have a0 : w2.cell? ⟨w.heap.size, 0, none⟩ = some (.int .u32 u.ad) := h2.cellv 0 rfl
  have a1 : w2.cell? ⟨w.heap.size, 1, none⟩ = some (.int .i64 u.pct) := h2.cellv 1 rfl
  have a2 : w2.cell? ⟨w.heap.size, 2, none⟩ = some (.slice u.A u.n u.c) := h2.cellv 2 rfl
  have b0 : w2.cell? ⟨w.heap.size + 1, 0, none⟩ = some (.int .u32 v.ad) := h3.cellv 0 rfl
  have b1 : w2.cell? ⟨w.heap.size + 1, 1, none⟩ = some (.int .i64 v.pct) := h3.cellv 1 rfl
  have b2 : w2.cell? ⟨w.heap.size + 1, 2, none⟩ = some (.slice v.A v.n v.c) := h3.cellv 2 rfl
  have l2 := h2.lt
  have l3 := h3.lt
  by_cases e0 : u.ad = v.ad
  · have d0 : (u.ad == v.ad) = true := by simpa using e0
    by_cases e1 : u.pct = v.pct
    · have d1 : (u.pct == v.pct) = true := by simpa using e1
      have ev := Lib.hid (show (decide (u.ad = v.ad) && decide (u.pct = v.pct) && decide (u.L = v.L)) = decide (u.L = v.L) by simp [e0, e1])
      replace e0 := Lib.hid e0
      replace e1 := Lib.hid e1
      go_wp2_with fail
      refine (eqBC_any w2 _ _ u.A u.n u.c u.L v.A v.n v.c v.L hSu hSv (fun b q => Nat.lt_of_lt_of_le q hz) (fun b q => Nat.lt_of_lt_of_le q hz) hn).mono ?_
      rintro e w3 ⟨rfl, hb3⟩
      go_wp2_with fail
      go_ret
      exact ⟨ret_bool ev.out.symm, hb2.trans (hb3.mono hz)⟩
    · have d1 : (u.pct == v.pct) = false := by simpa using e1
      have ev := Lib.hid (show (decide (u.ad = v.ad) && decide (u.pct = v.pct) && decide (u.L = v.L)) = false by simp [e1])
      replace e0 := Lib.hid e0
      replace e1 := Lib.hid e1
      go_wp2_with fail
      go_ret
      exact ⟨ret_bool ev.out.symm, hb2⟩
  · have d0 : (u.ad == v.ad) = false := by simpa using e0
    have ev := Lib.hid (show (decide (u.ad = v.ad) && decide (u.pct = v.pct) && decide (u.L = v.L)) = false by simp [e0])
    replace e0 := Lib.hid e0
    go_wp2_with fail
    go_ret
    exact ⟨ret_bool ev.out.symm, hb2⟩
set_option maxRecDepth 100000 in
set_option maxHeartbeats 8000000 in
theorem equalV_any (w : World) (A A' : Option Addr) (n c n' c' : Nat) (xs ys : List VipV) (hx : Seen vipK w (fun b => b < w.heap.size) A n xs) (hy : Seen vipK w (fun b => b < w.heap.size) A' n' ys) (hn : n ≤ 1000000) (hb : ∀ x ∈ xs, x.n ≤ 1000000) :
    Calls Tryz.prog 46 #[.slice A n c, .slice A' n' c', .func (.func 47) #[] #[]] w fun e w' => e = .returned (.bool (decide (xs.map VipV.w = ys.map VipV.w))) ∧ Below w.heap.size w w' := by
  have hl := Lib.hid hx.1
  have hl' := Lib.hid hy.1
  go_enter Tryz.func46, Tryz.ntmps46
  by_cases hne : n ≠ n'
  · have hb : ((n : Int) != n') = true := by rw [bne_iff_ne]; omega
    have e := Lib.hid (show decide (xs.map VipV.w = ys.map VipV.w) = false by
      rw [decide_eq_false_iff_not]
      intro e
      have := congrArg List.length e
      rw [List.length_map, List.length_map] at this
      exact hne (hl.out.symm.trans (this.trans hl'.out)))
    go_wp2_with fail
    go_ret
    exact ⟨ret_bool e.out.symm, Below.refl _ _⟩
  have hnn : n = n' := by omega
  subst hnn
  have hb2 : ((n : Int) != n) = false := by simp
  go_wp2_with fail
  go_loopw [7, 8, 17] (fun _ _ i wr => ∃ k : Nat, k ≤ n ∧ i = .int .i64 (k : Int) ∧ (xs.map VipV.w).take k = (ys.map VipV.w).take k ∧ Below w.heap.size w wr) (fun _ _ i _ => n - (intOf i).toNat)
  case atStart => exact ⟨0, Nat.zero_le _, rfl, rfl, Below.refl _ _⟩
  case round =>
  obtain ⟨k, hk, rfl, hkey, hB⟩ := hrel
  replace hkey := Lib.hid hkey
  have hz := hB.size
  by_cases hlt : k < n
  · obtain ⟨b, off, p, rfl, hb1, hxk, hokp, c0, c1, c2⟩ := vip_cells (hx.below hB fun _ q => q) hlt
    obtain ⟨b', off', q, rfl, hb2, hyk, hokq, d0, d1, d2⟩ := vip_cells (hy.below hB fun _ q => q) hlt
    have lb1 : b < wr.heap.size := Nat.lt_of_lt_of_le hb1 hz
    have lb2 : b' < wr.heap.size := Nat.lt_of_lt_of_le hb2 hz
    have hki : (k : Int) < n := by omega
    have hk0 : (0 : Int) ≤ k := by omega
    have hpn := hb p (List.mem_of_getElem? hxk)
    have hxw : (xs.map VipV.w)[k]? = some p.w := by rw [List.getElem?_map, hxk]; rfl
    have hyw : (ys.map VipV.w)[k]? = some q.w := by rw [List.getElem?_map, hyk]; rfl
    have hbx := (Below.refl wr.heap.size wr).alloc (Nat.le_refl _) (.cells #[.int .u32 p.ad, .int .i64 p.pct, .slice p.A p.n p.c] 53)
    have hqx := Blk.new wr 53 #[.int .u32 p.ad, .int .i64 p.pct, .slice p.A p.n p.c]
    generalize hx1 : wr.alloc (.cells #[.int .u32 p.ad, .int .i64 p.pct, .slice p.A p.n p.c] 53) = x1 at hbx hqx
    have hby := hbx.alloc hbx.size (.cells #[.int .u32 q.ad, .int .i64 q.pct, .slice q.A q.n q.c] 53)
    have hqy := Blk.new x1 53 #[.int .u32 q.ad, .int .i64 q.pct, .slice q.A q.n q.c]
    have hqxy := hqx.alloc (.cells #[.int .u32 q.ad, .int .i64 q.pct, .slice q.A q.n q.c] 53)
    have ltx := hqx.lt
    have d0x : x1.cell? ⟨b', off' + k * 3, none⟩ = some (.int .u32 q.ad) := (hbx.cell (p := ⟨b', off' + k * 3, none⟩) lb2).trans d0
    have d1x : x1.cell? ⟨b', off' + k * 3 + 1, none⟩ = some (.int .i64 q.pct) := (hbx.cell (p := ⟨b', off' + k * 3 + 1, none⟩) lb2).trans d1
    have d2x : x1.cell? ⟨b', off' + k * 3 + 2, none⟩ = some (.slice q.A q.n q.c) := (hbx.cell (p := ⟨b', off' + k * 3 + 2, none⟩) lb2).trans d2
    have lb3 : b' < x1.heap.size := Nat.lt_of_lt_of_le lb2 hbx.size
    go_upto_region 6 with (fail)
    clear hx1
    go_upto_region 7 with (fail)
    have hz2 := hby.size
    generalize hx2 : x1.alloc (.cells #[.int .u32 q.ad, .int .i64 q.pct, .slice q.A q.n q.c] 53) = x2 at *
    have ok1 : vipK.ok x2 (fun b => b < x2.heap.size) p := vipK.more (vipK.keep hokp fun a ha => hby.cell (Nat.lt_of_lt_of_le ha hz)) fun b q => by omega
    have ok2 : vipK.ok x2 (fun b => b < x2.heap.size) q := vipK.more (vipK.keep hokq fun a ha => hby.cell (Nat.lt_of_lt_of_le ha hz)) fun b q => by omega
    have lty := hqy.lt
    have ltx := hqxy.lt
    clear c0 c1 c2 d0 d1 d2 d0x d1x d2x hokp hokq hxk hyk
    have hi3 : (Tryz.prog.info? 53).map (·.size) = some (3 : Nat) := by kernel_rfl
    go_wp2_with (first
      | (refine wpList_load_blk rfl hqxy 53 (.tmp 8) rfl rfl Tryz.underlying53 rfl hi3 ?_)
      | (refine wpList_load_blk rfl hqy 53 (.tmp 9) rfl rfl Tryz.underlying53 rfl hi3 ?_))
    refine (sameVip_any x2 p q ok1 ok2 hpn).mono ?_
    rintro e x3 ⟨rfl, hb3⟩
    have hall := hB.trans ((hby.trans (hb3.mono hz2)).mono hz)
    cases hsm : decide (p.w = q.w)
    · have e := Lib.hid (show decide (xs.map VipV.w = ys.map VipV.w) = false by rw [decide_eq_false_iff_not]; intro e; rw [e, hyw] at hxw; injection hxw with hxw; exact (of_decide_eq_false hsm) hxw.symm)
      go_wp2_with fail
      go_ret
      exact ⟨ret_bool e.out.symm, hall⟩
    · have e0 : p.w = q.w := of_decide_eq_true hsm
      rw [← e0] at hyw
      have e := Lib.hid (take_nextF hkey.out hxw hyw)
      go_wp2_with fail
      exact ⟨⟨k + 1, by omega, by go_num, e.out, hall⟩, by simp [intOf]; omega⟩
  · obtain rfl : k = n := by omega
    have e : decide (xs.map VipV.w = ys.map VipV.w) = true := by
      have := hkey.out
      rw [List.take_of_length_le (by rw [List.length_map]; have := hl.out; omega), List.take_of_length_le (by rw [List.length_map]; have := hl'.out; omega)] at this
      simpa using this
    replace e := Lib.hid e
    go_wp2_with fail
    go_ret
    exact ⟨ret_bool e.out.symm, hB⟩
end Go.Proofs.YtecmhakapomepaaGreat
