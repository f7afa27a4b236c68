/- ports: the document's Good, ports, packet, summed, Back, Bytes. -/
import Derived.Test.YthbfnppgaaeilaaDoorPrtH
import Derived.Test.YthbfnppgaaeilaaDoorPrtK
import Derived.Test.YthbfnppgaaeilaaDoorLate
import Derived.BigGuardPart
import Derived.Deep.Cut
namespace Go.Proofs.YthbfnppgaaeilaaDoor
set_option linter.unusedVariables false
open Go Go.RowKit

theorem refFGood_any (p s d sp dp : Int) (w : World) : Calls Tryd.prog 19 #[.agg #[.int .i64 p, .int .u32 s, .int .u32 d, .int .i64 sp, .int .i64 dp]] w fun e w' => e = .returned (.bool (goodF p sp dp)) ∧ Below w.heap.size w w' := by
  have hB := (Below.refl w.heap.size w).alloc (Nat.le_refl _) (.cells (flowV p s d sp dp) 42)
  unfold flowV at hB
  go_enter Tryd.func19, Tryd.ntmps19
  go_wp2_with fail
  all_goals go_ret
  all_goals refine ⟨ret_bool ?_, (Below.refl _ _).alloc (Nat.le_refl _) _⟩
  all_goals first | (simp [goodF, portB]; done) | (unfold goodF portB; rw [Bool.eq_iff_iff]; simp_all; done) | (unfold goodF portB; rw [Bool.eq_iff_iff]; simp_all; omega) | (go_show; sorry)
theorem refBack_any (p s d sp dp : Int) (w : World) : Calls Tryd.prog 23 #[.agg #[.int .i64 p, .int .u32 s, .int .u32 d, .int .i64 sp, .int .i64 dp]] w fun e w' => e = .returned (.agg #[.int .i64 p, .int .u32 d, .int .u32 s, .int .i64 dp, .int .i64 sp]) ∧ Below w.heap.size w w' := by
  have hi : (Tryd.prog.info? 42).map (·.size) = some 5 := by kernel_rfl
  go_enter Tryd.func23, Tryd.ntmps23
  go_wp2_with fail
  have hk : Blk ((w.alloc (.cells (flowV p s d sp dp) 42)).alloc (.cells (flowV p d s dp sp) 42)) (w.heap.size + 1) 42 (flowV p d s dp sp) := by
    have := Blk.new (w.alloc (.cells (flowV p s d sp dp) 42)) 42 (flowV p d s dp sp)
    simpa using this
  exact bodyPost_ret (results_c rfl _ rfl (load_blk hk Tryd.underlying42 rfl hi)) rfl ⟨rfl, ((Below.refl w.heap.size w).alloc (Nat.le_refl _) _).alloc (by simp) _⟩
set_option maxRecDepth 100000 in
set_option maxHeartbeats 8000000 in
theorem refBoth_any (p s d sp dp : Int) (w : World) : Calls Tryd.prog 38 #[.agg #[.int .i64 p, .int .u32 s, .int .u32 d, .int .i64 sp, .int .i64 dp]] w fun e w' => ∃ v, e = .returned v ∧ OwnB w' w.heap.size v 4 (bothL sp dp) ∧ Below w.heap.size w w' := by
  have hB := (Below.refl w.heap.size w).alloc (Nat.le_refl _) (.cells #[.int .i64 p, .int .u32 s, .int .u32 d, .int .i64 sp, .int .i64 dp] 42)
  have hq := Blk.new w 42 #[.int .i64 p, .int .u32 s, .int .u32 d, .int .i64 sp, .int .i64 dp]
  go_enter Tryd.func38, Tryd.ntmps38
  go_upto_region 1 with (fail)
  generalize w.alloc (.cells #[.int .i64 p, .int .u32 s, .int .u32 d, .int .i64 sp, .int .i64 dp] 42) = w1 at *
  have lt0 := hq.lt
  have q0 : w1.cell? ⟨w.heap.size, 0, none⟩ = some (.int .i64 p) := hq.cellv 0 rfl
  have q1 : w1.cell? ⟨w.heap.size, 1, none⟩ = some (.int .u32 s) := hq.cellv 1 rfl
  have q2 : w1.cell? ⟨w.heap.size, 2, none⟩ = some (.int .u32 d) := hq.cellv 2 rfl
  have q3 : w1.cell? ⟨w.heap.size, 3, none⟩ = some (.int .i64 sp) := hq.cellv 3 rfl
  have q4 : w1.cell? ⟨w.heap.size, 4, none⟩ = some (.int .i64 dp) := hq.cellv 4 rfl
  -- region 1: 0 1 2 3C 4 5 6 7C 8
  try refine wp_region_noPanic ?_
  refine wp_region_lat (by kernel_rfl) ?_
  (refine lat_now 0 (by rfl) ?_ (by kernel_rfl) (fun _ _ _ h => h) ?_ ?_; rotate_left; (focus (intro wq hSw; have hrd : ∀ b o, b < w1.heap.size → wq.cell? ⟨b, o, none⟩ = w1.cell? ⟨b, o, none⟩ := (fun b o h => Below.cell hSw (p := ⟨b, o, none⟩) h); go_simp; try with_reducible rfl; done)); try simp only [Act.put, List.setIfInBounds_toArray, List.set_cons_zero, List.set_cons_succ])
  (refine lat_now 1 (by rfl) ?_ (by kernel_rfl) (fun _ _ _ h => h) ?_ ?_; rotate_left; (focus (intro wq hSw; have hrd : ∀ b o, b < w1.heap.size → wq.cell? ⟨b, o, none⟩ = w1.cell? ⟨b, o, none⟩ := (fun b o h => Below.cell hSw (p := ⟨b, o, none⟩) h); go_simp; try with_reducible rfl; done)); try simp only [Act.put, List.setIfInBounds_toArray, List.set_cons_zero, List.set_cons_succ])
  (refine lat_now 2 (by rfl) ?_ (by kernel_rfl) (fun _ _ _ h => h) ?_ ?_; rotate_left; (focus (intro wq hSw; have hrd : ∀ b o, b < w1.heap.size → wq.cell? ⟨b, o, none⟩ = w1.cell? ⟨b, o, none⟩ := (fun b o h => Below.cell hSw (p := ⟨b, o, none⟩) h); go_simp; try with_reducible rfl; done)); try simp only [Act.put, List.setIfInBounds_toArray, List.set_cons_zero, List.set_cons_succ])
  (refine lat_now 4 (by rfl) ?_ (by kernel_rfl) (fun _ _ _ h => h) ?_ ?_; rotate_left; (focus (intro wq hSw; have hrd : ∀ b o, b < w1.heap.size → wq.cell? ⟨b, o, none⟩ = w1.cell? ⟨b, o, none⟩ := (fun b o h => Below.cell hSw (p := ⟨b, o, none⟩) h); go_simp; try with_reducible rfl; done)); try simp only [Act.put, List.setIfInBounds_toArray, List.set_cons_zero, List.set_cons_succ])
  (refine lat_now 5 (by rfl) ?_ (by kernel_rfl) (fun _ _ _ h => h) ?_ ?_; rotate_left; (focus (intro wq hSw; have hrd : ∀ b o, b < w1.heap.size → wq.cell? ⟨b, o, none⟩ = w1.cell? ⟨b, o, none⟩ := (fun b o h => Below.cell hSw (p := ⟨b, o, none⟩) h); go_simp; try with_reducible rfl; done)); try simp only [Act.put, List.setIfInBounds_toArray, List.set_cons_zero, List.set_cons_succ])
  (refine lat_now 6 (by rfl) ?_ (by kernel_rfl) (fun _ _ _ h => h) ?_ ?_; rotate_left; (focus (intro wq hSw; have hrd : ∀ b o, b < w1.heap.size → wq.cell? ⟨b, o, none⟩ = w1.cell? ⟨b, o, none⟩ := (fun b o h => Below.cell hSw (p := ⟨b, o, none⟩) h); go_simp; try with_reducible rfl; done)); try simp only [Act.put, List.setIfInBounds_toArray, List.set_cons_zero, List.set_cons_succ])
  refine lat_call 3 (by rfl) (by kernel_rfl) (by rfl) (fun wx hx KQ hKQ => ?_)
  go_simp
  replace hB := hB.trans (hx.mono hB.size)
  refine (refPut2w_any wx none 0 0 [] 0 Byt.none_ (by omega) (by omega) sp).mono ?_
  rintro e w2 ⟨v2, rfl, own2, hb⟩
  rw [List.nil_append, Nat.zero_add] at own2
  obtain ⟨A2, c2, rfl, hc2, by2, _⟩ := own2.any
  refine hKQ.out _ _ hb ?_
  clear hKQ KQ
  replace hB := hB.trans (hb.mono hB.size)
  try simp only [Act.put, List.setIfInBounds_toArray, List.set_cons_zero, List.set_cons_succ]
  clear hb
  refine lat_call 7 (by rfl) (by kernel_rfl) (by rfl) (fun wy hy KQ hKQ => ?_)
  go_simp
  replace hB := hB.trans (hy.mono hB.size)
  replace by2 := by2.nx hy
  have hBy := hB
  refine (refPut2w_any wy A2 2 c2 (be (sp % 18446744073709551616) 2) wy.heap.size by2 (by omega) (by omega) dp).mono ?_
  rintro e w3 ⟨v3, rfl, own3, hb⟩
  obtain ⟨A3, c3, rfl, hc3, _, _⟩ := own3.any
  refine hKQ.out _ _ hb ?_
  clear hKQ KQ
  replace hB := hB.trans (hb.mono hB.size)
  try simp only [Act.put, List.setIfInBounds_toArray, List.set_cons_zero, List.set_cons_succ]
  (refine lat_now 8 (by rfl) ?_ (by kernel_rfl) (fun _ _ _ h => h) ?_ ?_; rotate_left; (focus (intro wq hSw; have hrd : ∀ b o, b < w3.heap.size → wq.cell? ⟨b, o, none⟩ = w3.cell? ⟨b, o, none⟩ := (fun b o h => Below.cell hSw (p := ⟨b, o, none⟩) h); go_simp; try with_reducible rfl; done)); try simp only [Act.put, List.setIfInBounds_toArray, List.set_cons_zero, List.set_cons_succ])
  refine lat_done (by kernel_rfl) (fun wz hz => ?_) _
  try refine NoPanic.normal ?_
  go_wp2_with fail
  go_ret
  exact ⟨_, rfl, (own3.below hz).less hBy.size, hB.trans (hz.mono hB.size)⟩
set_option maxRecDepth 100000 in
set_option maxHeartbeats 8000000 in
theorem refPkt_any (p s d sp dp pr : Int) (X : Option Addr) (m k : Nat) (pl : List UInt8) (w : World) (hm : m ≤ 12000) (hP : Byt w w.heap.size X m pl) (s0 : 0 ≤ s) (s1 : s ≤ 4294967295) (d0 : 0 ≤ d) (d1 : d ≤ 4294967295) :
    Calls Tryd.prog 39 #[.agg #[.int .i64 p, .int .u32 s, .int .u32 d, .int .i64 sp, .int .i64 dp], .int .i64 pr, .slice X m k] w fun e w' => ∃ v, e = .returned v ∧ OwnB w' w.heap.size v (buildL 0 0 0 0 64 pr s d [] pl).length (buildL 0 0 0 0 64 pr s d [] pl) ∧ Below w.heap.size w w' := by
  have hB := (Below.refl w.heap.size w).alloc (Nat.le_refl _) (.cells #[.int .i64 p, .int .u32 s, .int .u32 d, .int .i64 sp, .int .i64 dp] 42)
  have hq := Blk.new w 42 #[.int .i64 p, .int .u32 s, .int .u32 d, .int .i64 sp, .int .i64 dp]
  go_enter Tryd.func39, Tryd.ntmps39
  go_upto_region 1 with (fail)
  generalize w.alloc (.cells #[.int .i64 p, .int .u32 s, .int .u32 d, .int .i64 sp, .int .i64 dp] 42) = w1 at *
  have lt0 := hq.lt
  have q0 : w1.cell? ⟨w.heap.size, 0, none⟩ = some (.int .i64 p) := hq.cellv 0 rfl
  have q1 : w1.cell? ⟨w.heap.size, 1, none⟩ = some (.int .u32 s) := hq.cellv 1 rfl
  have q2 : w1.cell? ⟨w.heap.size, 2, none⟩ = some (.int .u32 d) := hq.cellv 2 rfl
  have q3 : w1.cell? ⟨w.heap.size, 3, none⟩ = some (.int .i64 sp) := hq.cellv 3 rfl
  have q4 : w1.cell? ⟨w.heap.size, 4, none⟩ = some (.int .i64 dp) := hq.cellv 4 rfl
  replace hP := hP.nx hB
  go_wp2_with fail
  refine (refBuild_any 0 0 0 0 64 pr s d none 0 0 [] X m k pl w1 (by omega) hm Byt.none_ hP s0 s1 d0 d1).mono ?_
  rintro e w2 ⟨v2, rfl, own2, hb⟩
  go_wp2_with fail
  go_ret
  exact ⟨_, rfl, own2.less hB.size, hB.trans (hb.mono hB.size)⟩
set_option maxRecDepth 100000 in
set_option maxHeartbeats 8000000 in
theorem refFBytes_any (p s d sp dp : Int) (w : World) (s0 : 0 ≤ s) (s1 : s ≤ 4294967295) (d0 : 0 ≤ d) (d1 : d ≤ 4294967295) : Calls Tryd.prog 21 #[.agg #[.int .i64 p, .int .u32 s, .int .u32 d, .int .i64 sp, .int .i64 dp]] w fun e w' => ∃ v, e = .returned v ∧ OwnB w' w.heap.size v (flowL p s d sp dp).length (flowL p s d sp dp) ∧ Below w.heap.size w w' := by
  have hB := (Below.refl w.heap.size w).alloc (Nat.le_refl _) (.cells #[.int .i64 p, .int .u32 s, .int .u32 d, .int .i64 sp, .int .i64 dp] 42)
  have hq := Blk.new w 42 #[.int .i64 p, .int .u32 s, .int .u32 d, .int .i64 sp, .int .i64 dp]
  go_enter Tryd.func21, Tryd.ntmps21
  go_upto_region 1 with (fail)
  generalize w.alloc (.cells #[.int .i64 p, .int .u32 s, .int .u32 d, .int .i64 sp, .int .i64 dp] 42) = w1 at *
  have lt0 := hq.lt
  have q0 : w1.cell? ⟨w.heap.size, 0, none⟩ = some (.int .i64 p) := hq.cellv 0 rfl
  have q1 : w1.cell? ⟨w.heap.size, 1, none⟩ = some (.int .u32 s) := hq.cellv 1 rfl
  have q2 : w1.cell? ⟨w.heap.size, 2, none⟩ = some (.int .u32 d) := hq.cellv 2 rfl
  have q3 : w1.cell? ⟨w.heap.size, 3, none⟩ = some (.int .i64 sp) := hq.cellv 3 rfl
  have q4 : w1.cell? ⟨w.heap.size, 4, none⟩ = some (.int .i64 dp) := hq.cellv 4 rfl
  -- region 1: 0 1 2 3M 4 5 6 7C 8 9 10 11C 12
  try refine wp_region_noPanic ?_
  refine wp_region_lat (by kernel_rfl) ?_
  (refine lat_now 0 (by rfl) ?_ (by kernel_rfl) (fun _ _ _ h => h) ?_ ?_; rotate_left; (focus (intro wq hSw; have hrd : ∀ b o, b < w1.heap.size → wq.cell? ⟨b, o, none⟩ = w1.cell? ⟨b, o, none⟩ := (fun b o h => Below.cell hSw (p := ⟨b, o, none⟩) h); go_simp; try with_reducible rfl; done)); try simp only [Act.put, List.setIfInBounds_toArray, List.set_cons_zero, List.set_cons_succ])
  (refine lat_now 1 (by rfl) ?_ (by kernel_rfl) (fun _ _ _ h => h) ?_ ?_; rotate_left; (focus (intro wq hSw; have hrd : ∀ b o, b < w1.heap.size → wq.cell? ⟨b, o, none⟩ = w1.cell? ⟨b, o, none⟩ := (fun b o h => Below.cell hSw (p := ⟨b, o, none⟩) h); go_simp; try with_reducible rfl; done)); try simp only [Act.put, List.setIfInBounds_toArray, List.set_cons_zero, List.set_cons_succ])
  (refine lat_now 2 (by rfl) ?_ (by kernel_rfl) (fun _ _ _ h => h) ?_ ?_; rotate_left; (focus (intro wq hSw; have hrd : ∀ b o, b < w1.heap.size → wq.cell? ⟨b, o, none⟩ = w1.cell? ⟨b, o, none⟩ := (fun b o h => Below.cell hSw (p := ⟨b, o, none⟩) h); go_simp; try with_reducible rfl; done)); try simp only [Act.put, List.setIfInBounds_toArray, List.set_cons_zero, List.set_cons_succ])
  (refine lat_now 4 (by rfl) ?_ (by kernel_rfl) (fun _ _ _ h => h) ?_ ?_; rotate_left; (focus (intro wq hSw; have hrd : ∀ b o, b < w1.heap.size → wq.cell? ⟨b, o, none⟩ = w1.cell? ⟨b, o, none⟩ := (fun b o h => Below.cell hSw (p := ⟨b, o, none⟩) h); go_simp; try with_reducible rfl; done)); try simp only [Act.put, List.setIfInBounds_toArray, List.set_cons_zero, List.set_cons_succ])
  (refine lat_now 5 (by rfl) ?_ (by kernel_rfl) (fun _ _ _ h => h) ?_ ?_; rotate_left; (focus (intro wq hSw; have hrd : ∀ b o, b < w1.heap.size → wq.cell? ⟨b, o, none⟩ = w1.cell? ⟨b, o, none⟩ := (fun b o h => Below.cell hSw (p := ⟨b, o, none⟩) h); go_simp; try with_reducible rfl; done)); try simp only [Act.put, List.setIfInBounds_toArray, List.set_cons_zero, List.set_cons_succ])
  (refine lat_now 6 (by rfl) ?_ (by kernel_rfl) (fun _ _ _ h => h) ?_ ?_; rotate_left; (focus (intro wq hSw; have hrd : ∀ b o, b < w1.heap.size → wq.cell? ⟨b, o, none⟩ = w1.cell? ⟨b, o, none⟩ := (fun b o h => Below.cell hSw (p := ⟨b, o, none⟩) h); go_simp; try with_reducible rfl; done)); try simp only [Act.put, List.setIfInBounds_toArray, List.set_cons_zero, List.set_cons_succ])
  (refine lat_now 8 (by rfl) ?_ (by kernel_rfl) (fun _ _ _ h => h) ?_ ?_; rotate_left; (focus (intro wq hSw; have hrd : ∀ b o, b < w1.heap.size → wq.cell? ⟨b, o, none⟩ = w1.cell? ⟨b, o, none⟩ := (fun b o h => Below.cell hSw (p := ⟨b, o, none⟩) h); go_simp; try with_reducible rfl; done)); try simp only [Act.put, List.setIfInBounds_toArray, List.set_cons_zero, List.set_cons_succ])
  (refine lat_now 9 (by rfl) ?_ (by kernel_rfl) (fun _ _ _ h => h) ?_ ?_; rotate_left; (focus (intro wq hSw; have hrd : ∀ b o, b < w1.heap.size → wq.cell? ⟨b, o, none⟩ = w1.cell? ⟨b, o, none⟩ := (fun b o h => Below.cell hSw (p := ⟨b, o, none⟩) h); go_simp; try with_reducible rfl; done)); try simp only [Act.put, List.setIfInBounds_toArray, List.set_cons_zero, List.set_cons_succ])
  (refine lat_now 10 (by rfl) ?_ (by kernel_rfl) (fun _ _ _ h => h) ?_ ?_; rotate_left; (focus (intro wq hSw; have hrd : ∀ b o, b < w1.heap.size → wq.cell? ⟨b, o, none⟩ = w1.cell? ⟨b, o, none⟩ := (fun b o h => Below.cell hSw (p := ⟨b, o, none⟩) h); go_simp; try with_reducible rfl; done)); try simp only [Act.put, List.setIfInBounds_toArray, List.set_cons_zero, List.set_cons_succ])
  refine lat_call 3 (by rfl) (by kernel_rfl) (by rfl) (fun wx hx KQ hKQ => ?_)
  go_simp
  replace hB := hB.trans (hx.mono hB.size)
  have hb := (Below.refl wx.heap.size wx).alloc (Nat.le_refl _) (.cells #[.int .u8 (IntKind.u8.wrap p)] 5)
  have bya := byt_one wx p
  replace bya := bya.more (B' := (wx.alloc (.cells #[.int .u8 (IntKind.u8.wrap p)] 5)).heap.size) (by simp)
  generalize wx.alloc (.cells #[.int .u8 (IntKind.u8.wrap p)] 5) = w2 at *
  generalize wx.heap.size = ga at bya ⊢
  replace hq := hq.below (hx.trans hb) hq.lt
  refine hKQ.out _ _ hb ?_
  clear hKQ KQ
  replace hB := hB.trans (hb.mono hB.size)
  try simp only [Act.put, List.setIfInBounds_toArray, List.set_cons_zero, List.set_cons_succ]
  clear hb hx
  refine lat_call 7 (by rfl) (by kernel_rfl) (by rfl) (fun wy hy KQ hKQ => ?_)
  go_simp
  replace hB := hB.trans (hy.mono hB.size)
  replace bya := bya.nx hy
  replace hq := hq.below hy hq.lt
  refine (refPut4u_any wy (some ⟨ga, 0, none⟩) 1 1 [byOf p] wy.heap.size bya (by omega) (by omega) s s0 s1).mono ?_
  rintro e w3 ⟨v3, rfl, own3, hb⟩
  obtain ⟨A3, c3, rfl, hc3, by3, _⟩ := own3.any
  clear own3
  replace hq := hq.below hb hq.lt
  refine hKQ.out _ _ hb ?_
  clear hKQ KQ
  replace hB := hB.trans (hb.mono hB.size)
  try simp only [Act.put, List.setIfInBounds_toArray, List.set_cons_zero, List.set_cons_succ]
  clear hb hy bya
  refine lat_call 11 (by rfl) (by kernel_rfl) (by rfl) (fun wy hy KQ hKQ => ?_)
  go_simp
  replace hB := hB.trans (hy.mono hB.size)
  replace by3 := by3.nx hy
  replace hq := hq.below hy hq.lt
  refine (refPut4u_any wy A3 (1 + 4) c3 ([byOf p] ++ be s 4) wy.heap.size by3 (by omega) (by omega) d d0 d1).mono ?_
  rintro e w4 ⟨v4, rfl, own4, hb⟩
  obtain ⟨A4, c4, rfl, hc4, by4, _⟩ := own4.any
  clear own4
  replace hq := hq.below hb hq.lt
  refine hKQ.out _ _ hb ?_
  clear hKQ KQ
  replace hB := hB.trans (hb.mono hB.size)
  try simp only [Act.put, List.setIfInBounds_toArray, List.set_cons_zero, List.set_cons_succ]
  (refine lat_now 12 (by rfl) ?_ (by kernel_rfl) (fun _ _ _ h => h) ?_ ?_; rotate_left; (focus (intro wq hSw; have hrd : ∀ b o, b < w4.heap.size → wq.cell? ⟨b, o, none⟩ = w4.cell? ⟨b, o, none⟩ := (fun b o h => Below.cell hSw (p := ⟨b, o, none⟩) h); go_simp; try with_reducible rfl; done)); try simp only [Act.put, List.setIfInBounds_toArray, List.set_cons_zero, List.set_cons_succ])
  clear hb hy by3
  refine lat_done (by kernel_rfl) (fun wz hz => ?_) _
  try refine NoPanic.normal ?_
  replace by4 := by4.nx hz
  replace hq := hq.below hz hq.lt
  replace hB := hB.trans (hz.mono hB.size)
  clear hz q0 q1 q2 q3 q4
  go_upto_region 2 with (fail)
  have lt5 := hq.lt
  have q3 : wz.cell? ⟨w.heap.size, 3, none⟩ = some (.int .i64 sp) := hq.cellv 3 rfl
  have q4 : wz.cell? ⟨w.heap.size, 4, none⟩ = some (.int .i64 dp) := hq.cellv 4 rfl
  generalize wz = w5 at *
  -- region 2: 0 1 2 3 4C 5 6 7 8C 9
  try refine wp_region_noPanic ?_
  refine wp_region_lat (by kernel_rfl) ?_
  (refine lat_now 0 (by rfl) ?_ (by kernel_rfl) (fun _ _ _ h => h) ?_ ?_; rotate_left; (focus (intro wq hSw; have hrd : ∀ b o, b < w5.heap.size → wq.cell? ⟨b, o, none⟩ = w5.cell? ⟨b, o, none⟩ := (fun b o h => Below.cell hSw (p := ⟨b, o, none⟩) h); go_simp; try with_reducible rfl; done)); try simp only [Act.put, List.setIfInBounds_toArray, List.set_cons_zero, List.set_cons_succ])
  (refine lat_now 1 (by rfl) ?_ (by kernel_rfl) (fun _ _ _ h => h) ?_ ?_; rotate_left; (focus (intro wq hSw; have hrd : ∀ b o, b < w5.heap.size → wq.cell? ⟨b, o, none⟩ = w5.cell? ⟨b, o, none⟩ := (fun b o h => Below.cell hSw (p := ⟨b, o, none⟩) h); go_simp; try with_reducible rfl; done)); try simp only [Act.put, List.setIfInBounds_toArray, List.set_cons_zero, List.set_cons_succ])
  (refine lat_now 2 (by rfl) ?_ (by kernel_rfl) (fun _ _ _ h => h) ?_ ?_; rotate_left; (focus (intro wq hSw; have hrd : ∀ b o, b < w5.heap.size → wq.cell? ⟨b, o, none⟩ = w5.cell? ⟨b, o, none⟩ := (fun b o h => Below.cell hSw (p := ⟨b, o, none⟩) h); go_simp; try with_reducible rfl; done)); try simp only [Act.put, List.setIfInBounds_toArray, List.set_cons_zero, List.set_cons_succ])
  (refine lat_now 3 (by rfl) ?_ (by kernel_rfl) (fun _ _ _ h => h) ?_ ?_; rotate_left; (focus (intro wq hSw; have hrd : ∀ b o, b < w5.heap.size → wq.cell? ⟨b, o, none⟩ = w5.cell? ⟨b, o, none⟩ := (fun b o h => Below.cell hSw (p := ⟨b, o, none⟩) h); go_simp; try with_reducible rfl; done)); try simp only [Act.put, List.setIfInBounds_toArray, List.set_cons_zero, List.set_cons_succ])
  (refine lat_now 5 (by rfl) ?_ (by kernel_rfl) (fun _ _ _ h => h) ?_ ?_; rotate_left; (focus (intro wq hSw; have hrd : ∀ b o, b < w5.heap.size → wq.cell? ⟨b, o, none⟩ = w5.cell? ⟨b, o, none⟩ := (fun b o h => Below.cell hSw (p := ⟨b, o, none⟩) h); go_simp; try with_reducible rfl; done)); try simp only [Act.put, List.setIfInBounds_toArray, List.set_cons_zero, List.set_cons_succ])
  (refine lat_now 6 (by rfl) ?_ (by kernel_rfl) (fun _ _ _ h => h) ?_ ?_; rotate_left; (focus (intro wq hSw; have hrd : ∀ b o, b < w5.heap.size → wq.cell? ⟨b, o, none⟩ = w5.cell? ⟨b, o, none⟩ := (fun b o h => Below.cell hSw (p := ⟨b, o, none⟩) h); go_simp; try with_reducible rfl; done)); try simp only [Act.put, List.setIfInBounds_toArray, List.set_cons_zero, List.set_cons_succ])
  (refine lat_now 7 (by rfl) ?_ (by kernel_rfl) (fun _ _ _ h => h) ?_ ?_; rotate_left; (focus (intro wq hSw; have hrd : ∀ b o, b < w5.heap.size → wq.cell? ⟨b, o, none⟩ = w5.cell? ⟨b, o, none⟩ := (fun b o h => Below.cell hSw (p := ⟨b, o, none⟩) h); go_simp; try with_reducible rfl; done)); try simp only [Act.put, List.setIfInBounds_toArray, List.set_cons_zero, List.set_cons_succ])
  refine lat_call 4 (by rfl) (by kernel_rfl) (by rfl) (fun wx hx KQ hKQ => ?_)
  go_simp
  replace hB := hB.trans (hx.mono hB.size)
  replace by4 := by4.nx hx
  refine (refPut2w_any wx A4 (1 + 4 + 4) c4 ([byOf p] ++ be s 4 ++ be d 4) wx.heap.size by4 (by omega) (by omega) sp).mono ?_
  rintro e w6 ⟨v6, rfl, own6, hb⟩
  obtain ⟨A6, c6, rfl, hc6, by6, _⟩ := own6.any
  clear own6
  refine hKQ.out _ _ hb ?_
  clear hKQ KQ
  replace hB := hB.trans (hb.mono hB.size)
  try simp only [Act.put, List.setIfInBounds_toArray, List.set_cons_zero, List.set_cons_succ]
  clear hb hx
  refine lat_call 8 (by rfl) (by kernel_rfl) (by rfl) (fun wy hy KQ hKQ => ?_)
  go_simp
  replace hB := hB.trans (hy.mono hB.size)
  replace by6 := by6.nx hy
  have hBy := hB
  refine (refPut2w_any wy A6 (1 + 4 + 4 + 2) c6 ([byOf p] ++ be s 4 ++ be d 4 ++ be (sp % 18446744073709551616) 2) wy.heap.size by6 (by omega) (by omega) dp).mono ?_
  rintro e w7 ⟨v7, rfl, own7, hb⟩
  obtain ⟨A7, c7, rfl, hc7, _, _⟩ := own7.any
  refine hKQ.out _ _ hb ?_
  clear hKQ KQ
  replace hB := hB.trans (hb.mono hB.size)
  try simp only [Act.put, List.setIfInBounds_toArray, List.set_cons_zero, List.set_cons_succ]
  (refine lat_now 9 (by rfl) ?_ (by kernel_rfl) (fun _ _ _ h => h) ?_ ?_; rotate_left; (focus (intro wq hSw; have hrd : ∀ b o, b < w7.heap.size → wq.cell? ⟨b, o, none⟩ = w7.cell? ⟨b, o, none⟩ := (fun b o h => Below.cell hSw (p := ⟨b, o, none⟩) h); go_simp; try with_reducible rfl; done)); try simp only [Act.put, List.setIfInBounds_toArray, List.set_cons_zero, List.set_cons_succ])
  refine lat_done (by kernel_rfl) (fun wz hz => ?_) _
  try refine NoPanic.normal ?_
  go_wp2_with fail
  go_ret
  have e9 : [byOf p] ++ be s 4 ++ be d 4 ++ be (sp % 18446744073709551616) 2 ++ be (dp % 18446744073709551616) 2 = flowL p s d sp dp := by simp [flowL, bothL]
  have l9 : (flowL p s d sp dp).length = 1 + 4 + 4 + 2 + 2 := by simp [flowL, bothL, be_len]
  rw [e9] at own7
  rw [l9]
  exact ⟨_, rfl, (own7.below hz).less hBy.size, hB.trans (hz.mono hB.size)⟩
end Go.Proofs.YthbfnppgaaeilaaDoor
