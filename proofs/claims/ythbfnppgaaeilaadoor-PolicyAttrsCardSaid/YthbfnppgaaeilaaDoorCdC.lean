/- policy: Text of a policy that may be, and the document's. -/
import Derived.Test.YthbfnppgaaeilaaDoorCdB
import Derived.Test.YthbfnppgaaeilaaDoorPol
import Derived.Test.YthbfnppgaaeilaaDoorLate
namespace Go.Proofs.YthbfnppgaaeilaaDoor
set_option linter.unusedVariables false
open Go Go.RowKit

def decI (n : Int) : List UInt8 := Lib.decDigits n.toNat
theorem decI_len (n : Int) (h : n ≤ 9223372036854775807) : (decI n).length ≤ 20 := by
  unfold decI
  rw [Lib.decDigits_length]
  exact Lib.nDigits_le20 _ (by omega)
/-- the text of a policy. -/
def polT (s h m p b : Int) : List UInt8 := Lib.join [decI s, addrL h, decI m, decI p, decI b] [32]
theorem polT_eq (s h m p b : Int) : polT s h m p b = decI s ++ 32 :: (addrL h ++ 32 :: (decI m ++ 32 :: (decI p ++ 32 :: decI b))) := by
  simp [polT, Lib.join, List.intercalate, List.intersperse]
theorem itoaP_any (w : World) (hP : Pow w) (n : Int) (h0 : 0 ≤ n) (h1 : n ≤ 9223372036854775807) : Calls Tryd.prog 29 #[.int .i64 n] w fun e w' => e = .returned (.string (strB (decI n))) ∧ Below w.heap.size w w' := by
  have h := itoa_any w hP n (by omega) h1
  have e : Lib.itoa n = decI n := by unfold Lib.itoa decI; rw [if_neg (by omega)]
  rwa [e] at h
theorem digP_any (w : World) (n : Int) (h0 : 0 ≤ n) (h1 : n ≤ 9223372036854775807) : Calls Tryd.prog 32 #[.int .i64 n] w fun e w' => e = .returned (.string (strB (decI n))) ∧ Below w.heap.size w w' := by
  have h := refDigits_any n.toNat (by omega) w
  rw [Int.toNat_of_nonneg h0] at h
  refine h.mono ?_
  rintro e w' ⟨rfl, rfl⟩
  exact ⟨rfl, Below.refl _ _⟩
theorem str_ok : ElemOk Tryd.prog 55 9 1 16 (.string ⟨#[]⟩) := ⟨Tryd.underlying55, by kernel_rfl, rfl, by omega⟩
set_option maxRecDepth 100000 in
set_option maxHeartbeats 4000000 in
theorem polText_any (w : World) (hP : Pow w) (s h m p b : Int) (s0 : 0 ≤ s) (s1 : s ≤ 65535) (h0 : 0 ≤ h) (h1 : h ≤ 4294967295) (m0 : 0 ≤ m) (m1 : m ≤ 4294967295) (p0 : 0 ≤ p) (p1 : p ≤ 15) (b0 : 0 ≤ b) (b1 : b ≤ 4294967295) :
    Calls Tryd.prog 10 #[.agg #[.int .i64 s, .int .u32 h, .int .i64 m, .int .i64 p, .int .i64 b]] w fun e w' => e = .returned (.string (strB (polT s h m p b))) ∧ Below w.heap.size w w' := by
  have hB := (Below.refl w.heap.size w).alloc (Nat.le_refl _) (.cells #[.int .i64 s, .int .u32 h, .int .i64 m, .int .i64 p, .int .i64 b] 24)
  have hq := Blk.new w 24 #[.int .i64 s, .int .u32 h, .int .i64 m, .int .i64 p, .int .i64 b]
  have hP1 := hP.below hB
  go_enter Tryd.func10, Tryd.ntmps10
  go_upto_region 1 with (fail)
  generalize w.alloc (.cells #[.int .i64 s, .int .u32 h, .int .i64 m, .int .i64 p, .int .i64 b] 24) = w1 at *
  have lt0 := hq.lt
  have q0 : w1.cell? ⟨w.heap.size, 0, none⟩ = some (.int .i64 s) := hq.cellv 0 rfl
  have q1 : w1.cell? ⟨w.heap.size, 1, none⟩ = some (.int .u32 h) := hq.cellv 1 rfl
  have q2 : w1.cell? ⟨w.heap.size, 2, none⟩ = some (.int .i64 m) := hq.cellv 2 rfl
  have q3 : w1.cell? ⟨w.heap.size, 3, none⟩ = some (.int .i64 p) := hq.cellv 3 rfl
  have q4 : w1.cell? ⟨w.heap.size, 4, none⟩ = some (.int .i64 b) := hq.cellv 4 rfl
  -- region 1: 0 1 2C 3 4 5C 6M 7
  try refine wp_region_noPanic ?_
  refine wp_region_lat (by kernel_rfl) ?_
  (refine lat_now 0 (by rfl) ?_ (by kernel_rfl) (fun _ _ _ h => h) ?_ ?_; rotate_left; (focus (intro wq hSw; have hrd : ∀ b o, b < w1.heap.size → wq.cell? ⟨b, o, none⟩ = w1.cell? ⟨b, o, none⟩ := (fun b o h => Below.cell hSw (p := ⟨b, o, none⟩) h); go_simp; try with_reducible rfl; done)); try simp only [Act.put, List.setIfInBounds_toArray, List.set_cons_zero, List.set_cons_succ])
  (refine lat_now 1 (by rfl) ?_ (by kernel_rfl) (fun _ _ _ h => h) ?_ ?_; rotate_left; (focus (intro wq hSw; have hrd : ∀ b o, b < w1.heap.size → wq.cell? ⟨b, o, none⟩ = w1.cell? ⟨b, o, none⟩ := (fun b o h => Below.cell hSw (p := ⟨b, o, none⟩) h); go_simp; try with_reducible rfl; done)); try simp only [Act.put, List.setIfInBounds_toArray, List.set_cons_zero, List.set_cons_succ])
  (refine lat_now 3 (by rfl) ?_ (by kernel_rfl) (fun _ _ _ h => h) ?_ ?_; rotate_left; (focus (intro wq hSw; have hrd : ∀ b o, b < w1.heap.size → wq.cell? ⟨b, o, none⟩ = w1.cell? ⟨b, o, none⟩ := (fun b o h => Below.cell hSw (p := ⟨b, o, none⟩) h); go_simp; try with_reducible rfl; done)); try simp only [Act.put, List.setIfInBounds_toArray, List.set_cons_zero, List.set_cons_succ])
  (refine lat_now 4 (by rfl) ?_ (by kernel_rfl) (fun _ _ _ h => h) ?_ ?_; rotate_left; (focus (intro wq hSw; have hrd : ∀ b o, b < w1.heap.size → wq.cell? ⟨b, o, none⟩ = w1.cell? ⟨b, o, none⟩ := (fun b o h => Below.cell hSw (p := ⟨b, o, none⟩) h); go_simp; try with_reducible rfl; done)); try simp only [Act.put, List.setIfInBounds_toArray, List.set_cons_zero, List.set_cons_succ])
  (refine lat_late 2 (by rfl) (.string (strB (decI s))) (by kernel_rfl) (fun _ _ _ h => h) (fun wq hSw => ⟨_, _, ?_, itoaP_any wq (hP1.below hSw) s s0 (by omega)⟩) ?_; focus (go_simp; try with_reducible rfl; done); try simp only [Act.put, List.setIfInBounds_toArray, List.set_cons_zero, List.set_cons_succ])
  (refine lat_late 5 (by rfl) (.string (strB (addrL h))) (by kernel_rfl) (fun _ _ _ h => h) (fun wq hSw => ⟨_, _, ?_, addr_any wq (hP1.below hSw) h h0 h1⟩) ?_; focus (go_simp; try with_reducible rfl; done); try simp only [Act.put, List.setIfInBounds_toArray, List.set_cons_zero, List.set_cons_succ])
  refine lat_call 6 (by rfl) (by kernel_rfl) (by rfl) (fun wx hx KQ hKQ => ?_)
  go_simp
  replace hB := hB.trans (hx.mono hB.size)
  have hb := (Below.refl wx.heap.size wx).alloc (Nat.le_refl _) (.cells #[.string (strB (decI s)), .string (strB (addrL h))] 9)
  have own : Own1 (wx.alloc (.cells #[.string (strB (decI s)), .string (strB (addrL h))] 9)) w.heap.size 9 1 (.slice (some ⟨wx.heap.size, 0, none⟩) 2 2) 2 [.string (strB (decI s)), .string (strB (addrL h))] := Own1.lit wx _ 2 hB.size (by simp [maxLen]) rfl
  replace hq := (hq.below hx lt0).below hb (hq.below hx lt0).lt
  replace hP1 := (hP1.below hx).below hb
  generalize wx.alloc (.cells #[.string (strB (decI s)), .string (strB (addrL h))] 9) = wy at *
  refine hKQ.out _ _ hb ?_
  clear hKQ KQ
  replace hB := hB.trans (hb.mono hB.size)
  try simp only [Act.put, List.setIfInBounds_toArray, List.set_cons_zero, List.set_cons_succ]
  (refine lat_now 7 (by rfl) ?_ (by kernel_rfl) (fun _ _ _ h => h) ?_ ?_; rotate_left; (focus (intro wq hSw; have hrd : ∀ b o, b < wy.heap.size → wq.cell? ⟨b, o, none⟩ = wy.cell? ⟨b, o, none⟩ := (fun b o h => Below.cell hSw (p := ⟨b, o, none⟩) h); go_simp; try with_reducible rfl; done)); try simp only [Act.put, List.setIfInBounds_toArray, List.set_cons_zero, List.set_cons_succ])
  refine lat_done (by kernel_rfl) (fun wz hz => ?_) _
  try refine NoPanic.normal ?_
  clear hb hx q0 q1 q2 q3 q4
  replace hq := hq.below hz hq.lt
  replace hB := hB.trans (hz.mono hB.size)
  replace own := own.below hz
  clear hz
  have lt1 := hq.lt
  have q0 : wz.cell? ⟨w.heap.size, 0, none⟩ = some (.int .i64 s) := hq.cellv 0 rfl
  have q1 : wz.cell? ⟨w.heap.size, 1, none⟩ = some (.int .u32 h) := hq.cellv 1 rfl
  have q2 : wz.cell? ⟨w.heap.size, 2, none⟩ = some (.int .i64 m) := hq.cellv 2 rfl
  have q3 : wz.cell? ⟨w.heap.size, 3, none⟩ = some (.int .i64 p) := hq.cellv 3 rfl
  have q4 : wz.cell? ⟨w.heap.size, 4, none⟩ = some (.int .i64 b) := hq.cellv 4 rfl
  have hI0 : ∀ w, (Instr.index 56 (.agg #[.int .i64 m, .int .i64 p, .int .i64 b]) (.int .i64 0)).run Tryd.prog w = .ok (.int .i64 m) w := fun w => by kernel_rfl
  have hI1 : ∀ w, (Instr.index 56 (.agg #[.int .i64 m, .int .i64 p, .int .i64 b]) (.int .i64 1)).run Tryd.prog w = .ok (.int .i64 p) w := fun w => by kernel_rfl
  have hI2 : ∀ w, (Instr.index 56 (.agg #[.int .i64 m, .int .i64 p, .int .i64 b]) (.int .i64 2)).run Tryd.prog w = .ok (.int .i64 b) w := fun w => by kernel_rfl
  go_wp2_with fail
  clear q0 q1 q2 q3 q4 hq lt1 lt0
  refine wp_loop_rounds 4 ?_
  change Code.rounds _ _ _ _ _ wz
  rw [rounds_succ]
  go_wp2_with fail
  refine (itoaP_any wz (hP.below hB) m m0 (by omega)).mono ?_
  rintro e u0 ⟨rfl, hb⟩
  replace own := own.below hb
  replace hB := hB.trans (hb.mono hB.size)
  clear hb
  have hb := (Below.refl u0.heap.size u0).alloc (Nat.le_refl _) (.cells #[.string (strB (decI m))] 9)
  have src := one_src u0 (.string (strB (decI m))) 9
  replace own := own.below hb
  replace hB := hB.trans (hb.mono hB.size)
  clear hb
  go_upto_region 6 with (at_builtin; refine wpList_app1 _ str_ok rfl (.tmp 23) (.tmp 26) rfl w.heap.size _ _ _ rfl own _ 1 1 [.string (strB (decI m))] rfl rfl src (by simp [Value.oneCell']) (by simp [maxLen]) (by omega) hB.size ?_; intro v0 y0 own0 hg hd; clear hd; replace hB := hB.trans (own.below_app hg hB.size); clear own; replace own := own0; clear own0 hg)
  clear src
  go_wp2_with fail
  rw [rounds_succ]
  go_wp2_with fail
  refine (itoaP_any y0 (hP.below hB) p p0 (by omega)).mono ?_
  rintro e u1 ⟨rfl, hb⟩
  replace own := own.below hb
  replace hB := hB.trans (hb.mono hB.size)
  clear hb
  have hb := (Below.refl u1.heap.size u1).alloc (Nat.le_refl _) (.cells #[.string (strB (decI p))] 9)
  have src := one_src u1 (.string (strB (decI p))) 9
  replace own := own.below hb
  replace hB := hB.trans (hb.mono hB.size)
  clear hb
  go_upto_region 6 with (at_builtin; refine wpList_app1 _ str_ok rfl (.tmp 23) (.tmp 26) rfl w.heap.size _ _ _ rfl own _ 1 1 [.string (strB (decI p))] rfl rfl src (by simp [Value.oneCell']) (by simp [maxLen]) (by omega) hB.size ?_; intro v1 y1 own1 hg hd; clear hd; replace hB := hB.trans (own.below_app hg hB.size); clear own; replace own := own1; clear own1 hg)
  clear src
  go_wp2_with fail
  rw [rounds_succ]
  go_wp2_with fail
  refine (itoaP_any y1 (hP.below hB) b b0 (by omega)).mono ?_
  rintro e u2 ⟨rfl, hb⟩
  replace own := own.below hb
  replace hB := hB.trans (hb.mono hB.size)
  clear hb
  have hb := (Below.refl u2.heap.size u2).alloc (Nat.le_refl _) (.cells #[.string (strB (decI b))] 9)
  have src := one_src u2 (.string (strB (decI b))) 9
  replace own := own.below hb
  replace hB := hB.trans (hb.mono hB.size)
  clear hb
  go_upto_region 6 with (at_builtin; refine wpList_app1 _ str_ok rfl (.tmp 23) (.tmp 26) rfl w.heap.size _ _ _ rfl own _ 1 1 [.string (strB (decI b))] rfl rfl src (by simp [Value.oneCell']) (by simp [maxLen]) (by omega) hB.size ?_; intro v2 y2 own2 hg hd; clear hd; replace hB := hB.trans (own.below_app hg hB.size); clear own; replace own := own2; clear own2 hg)
  clear src
  go_wp2_with fail
  rw [rounds_succ]
  go_wp2_with fail
  obtain ⟨g, cap, rfl, hg1, hg2, hcap, _⟩ := own.form (by omega)
  refine (join_any y2 g cap [decI s, addrL h, decI m, decI p, decI b] [32] ?_ hg2 hcap (by simp) ?_).mono ?_
  · intro j x hx
    have hj := (List.getElem?_eq_some_iff.1 hx).1
    rw [own.cell j (by simpa using hj)]
    match j, hx with
    | 0, hx => obtain rfl := Option.some.inj hx; rfl
    | 1, hx => obtain rfl := Option.some.inj hx; rfl
    | 2, hx => obtain rfl := Option.some.inj hx; rfl
    | 3, hx => obtain rfl := Option.some.inj hx; rfl
    | 4, hx => obtain rfl := Option.some.inj hx; rfl
    | j + 5, hx => simp at hx
  · have e := polT_eq s h m p b
    have := decI_len s (by omega); have := decI_len m (by omega); have := decI_len p (by omega); have := decI_len b (by omega); have := addrL_len h
    unfold polT at e
    rw [e]
    simp; omega
  rintro e w9 ⟨rfl, hb⟩
  go_wp2_with fail
  go_ret
  exact ⟨rfl, hB.trans (hb.mono hB.size)⟩
set_option maxRecDepth 100000 in
set_option maxHeartbeats 4000000 in
theorem refPolText_any (w : World) (s h m p b : Int) (s0 : 0 ≤ s) (s1 : s ≤ 65535) (h0 : 0 ≤ h) (h1 : h ≤ 4294967295) (m0 : 0 ≤ m) (m1 : m ≤ 4294967295) (p0 : 0 ≤ p) (p1 : p ≤ 15) (b0 : 0 ≤ b) (b1 : b ≤ 4294967295) :
    Calls Tryd.prog 11 #[.agg #[.int .i64 s, .int .u32 h, .int .i64 m, .int .i64 p, .int .i64 b]] w fun e w' => e = .returned (.string (strB (polT s h m p b))) ∧ Below w.heap.size w w' := by
  have hB := (Below.refl w.heap.size w).alloc (Nat.le_refl _) (.cells #[.int .i64 s, .int .u32 h, .int .i64 m, .int .i64 p, .int .i64 b] 33)
  have hq := Blk.new w 33 #[.int .i64 s, .int .u32 h, .int .i64 m, .int .i64 p, .int .i64 b]
  rw [polT_eq]
  have z0 := decI_len s (by omega)
  have z1 := addrL_len h
  have z2 := decI_len m (by omega)
  have z3 := decI_len p (by omega)
  have z4 := decI_len b (by omega)
  have d0 := fun w => digP_any w s s0 (by omega)
  have d1 := fun w => refAddr_any w h h0 h1
  have d2 := fun w => digP_any w m m0 (by omega)
  have d3 := fun w => digP_any w p p0 (by omega)
  have d4 := fun w => digP_any w b b0 (by omega)
  generalize decI s = L0 at *
  generalize addrL h = L1 at *
  generalize decI m = L2 at *
  generalize decI p = L3 at *
  generalize decI b = L4 at *
  have r0 : catOk L0 [32] = true := catOk_of (by simp; omega)
  have r1 : catOk (L0 ++ [32]) L1 = true := catOk_of (by simp; omega)
  have r2 : catOk (L0 ++ 32 :: L1) [32] = true := catOk_of (by simp; omega)
  have r3 : catOk (L0 ++ 32 :: (L1 ++ [32])) L2 = true := catOk_of (by simp; omega)
  have r4 : catOk (L0 ++ 32 :: (L1 ++ 32 :: L2)) [32] = true := catOk_of (by simp; omega)
  have r5 : catOk (L0 ++ 32 :: (L1 ++ 32 :: (L2 ++ [32]))) L3 = true := catOk_of (by simp; omega)
  have r6 : catOk (L0 ++ 32 :: (L1 ++ 32 :: (L2 ++ 32 :: L3))) [32] = true := catOk_of (by simp; omega)
  have r7 : catOk (L0 ++ 32 :: (L1 ++ 32 :: (L2 ++ 32 :: (L3 ++ [32])))) L4 = true := catOk_of (by simp; omega)
  clear z0 z1 z2 z3 z4
  go_enter Tryd.func11, Tryd.ntmps11
  go_upto_region 1 with (fail)
  generalize w.alloc (.cells #[.int .i64 s, .int .u32 h, .int .i64 m, .int .i64 p, .int .i64 b] 33) = w1 at *
  have lt0 := hq.lt
  have q0 : w1.cell? ⟨w.heap.size, 0, none⟩ = some (.int .i64 s) := hq.cellv 0 rfl
  have q1 : w1.cell? ⟨w.heap.size, 1, none⟩ = some (.int .u32 h) := hq.cellv 1 rfl
  have q2 : w1.cell? ⟨w.heap.size, 2, none⟩ = some (.int .i64 m) := hq.cellv 2 rfl
  have q3 : w1.cell? ⟨w.heap.size, 3, none⟩ = some (.int .i64 p) := hq.cellv 3 rfl
  have q4 : w1.cell? ⟨w.heap.size, 4, none⟩ = some (.int .i64 b) := hq.cellv 4 rfl
  -- region 1: 0 1 2C 3 4 5 6C 7 8
  try refine wp_region_noPanic ?_
  refine wp_region_lat (by kernel_rfl) ?_
  (refine lat_now 0 (by rfl) ?_ (by kernel_rfl) (fun _ _ _ h => h) ?_ ?_; rotate_left; (focus (intro wq hSw; have hrd : ∀ b o, b < w1.heap.size → wq.cell? ⟨b, o, none⟩ = w1.cell? ⟨b, o, none⟩ := (fun b o h => Below.cell hSw (p := ⟨b, o, none⟩) h); go_simp; try with_reducible rfl; done)); try simp only [Act.put, List.setIfInBounds_toArray, List.set_cons_zero, List.set_cons_succ])
  (refine lat_now 1 (by rfl) ?_ (by kernel_rfl) (fun _ _ _ h => h) ?_ ?_; rotate_left; (focus (intro wq hSw; have hrd : ∀ b o, b < w1.heap.size → wq.cell? ⟨b, o, none⟩ = w1.cell? ⟨b, o, none⟩ := (fun b o h => Below.cell hSw (p := ⟨b, o, none⟩) h); go_simp; try with_reducible rfl; done)); try simp only [Act.put, List.setIfInBounds_toArray, List.set_cons_zero, List.set_cons_succ])
  (refine lat_now 4 (by rfl) ?_ (by kernel_rfl) (fun _ _ _ h => h) ?_ ?_; rotate_left; (focus (intro wq hSw; have hrd : ∀ b o, b < w1.heap.size → wq.cell? ⟨b, o, none⟩ = w1.cell? ⟨b, o, none⟩ := (fun b o h => Below.cell hSw (p := ⟨b, o, none⟩) h); go_simp; try with_reducible rfl; done)); try simp only [Act.put, List.setIfInBounds_toArray, List.set_cons_zero, List.set_cons_succ])
  (refine lat_now 5 (by rfl) ?_ (by kernel_rfl) (fun _ _ _ h => h) ?_ ?_; rotate_left; (focus (intro wq hSw; have hrd : ∀ b o, b < w1.heap.size → wq.cell? ⟨b, o, none⟩ = w1.cell? ⟨b, o, none⟩ := (fun b o h => Below.cell hSw (p := ⟨b, o, none⟩) h); go_simp; try with_reducible rfl; done)); try simp only [Act.put, List.setIfInBounds_toArray, List.set_cons_zero, List.set_cons_succ])
  (refine lat_late 2 (by rfl) (.string (strB L0)) (by kernel_rfl) (fun _ _ _ h => h) (fun wq hSw => ⟨_, _, ?_, d0 wq⟩) ?_; focus (go_simp; try with_reducible rfl; done); try simp only [Act.put, List.setIfInBounds_toArray, List.set_cons_zero, List.set_cons_succ])
  (refine lat_now 3 (by rfl) ?_ (by kernel_rfl) (fun _ _ _ h => h) ?_ ?_; rotate_left; (focus (intro wq hSw; have hrd : ∀ b o, b < w1.heap.size → wq.cell? ⟨b, o, none⟩ = w1.cell? ⟨b, o, none⟩ := (fun b o h => Below.cell hSw (p := ⟨b, o, none⟩) h); go_simp; try with_reducible rfl; done)); try simp only [Act.put, List.setIfInBounds_toArray, List.set_cons_zero, List.set_cons_succ])
  (refine lat_late 6 (by rfl) (.string (strB L1)) (by kernel_rfl) (fun _ _ _ h => h) (fun wq hSw => ⟨_, _, ?_, by refine (d1 wq).mono ?_; rintro e w' ⟨rfl, rfl⟩; exact ⟨rfl, Below.refl _ _⟩⟩) ?_; focus (go_simp; try with_reducible rfl; done); try simp only [Act.put, List.setIfInBounds_toArray, List.set_cons_zero, List.set_cons_succ])
  (refine lat_now 7 (by rfl) ?_ (by kernel_rfl) (fun _ _ _ h => h) ?_ ?_; rotate_left; (focus (intro wq hSw; have hrd : ∀ b o, b < w1.heap.size → wq.cell? ⟨b, o, none⟩ = w1.cell? ⟨b, o, none⟩ := (fun b o h => Below.cell hSw (p := ⟨b, o, none⟩) h); go_simp; try with_reducible rfl; done)); try simp only [Act.put, List.setIfInBounds_toArray, List.set_cons_zero, List.set_cons_succ])
  (refine lat_now 8 (by rfl) ?_ (by kernel_rfl) (fun _ _ _ h => h) ?_ ?_; rotate_left; (focus (intro wq hSw; have hrd : ∀ b o, b < w1.heap.size → wq.cell? ⟨b, o, none⟩ = w1.cell? ⟨b, o, none⟩ := (fun b o h => Below.cell hSw (p := ⟨b, o, none⟩) h); go_simp; try with_reducible rfl; done)); try simp only [Act.put, List.setIfInBounds_toArray, List.set_cons_zero, List.set_cons_succ])
  refine lat_done (by kernel_rfl) (fun wz hz => ?_) _
  try refine NoPanic.normal ?_
  clear q0 q1 q2 q3 q4
  replace hq := hq.below hz lt0
  replace hB := hB.trans (hz.mono hB.size)
  clear hz lt0
  have lt0 := hq.lt
  have q0 : wz.cell? ⟨w.heap.size, 0, none⟩ = some (.int .i64 s) := hq.cellv 0 rfl
  have q1 : wz.cell? ⟨w.heap.size, 1, none⟩ = some (.int .u32 h) := hq.cellv 1 rfl
  have q2 : wz.cell? ⟨w.heap.size, 2, none⟩ = some (.int .i64 m) := hq.cellv 2 rfl
  have q3 : wz.cell? ⟨w.heap.size, 3, none⟩ = some (.int .i64 p) := hq.cellv 3 rfl
  have q4 : wz.cell? ⟨w.heap.size, 4, none⟩ = some (.int .i64 b) := hq.cellv 4 rfl
  generalize hwz : wz = wy at *
  clear hwz
  go_upto_region 2 with (fail)
  -- region 2: 0 1 2 3 4C 5 6 7 8 9C 10 11 12 13 14C 15 16
  try refine wp_region_noPanic ?_
  refine wp_region_lat (by kernel_rfl) ?_
  (refine lat_now 0 (by rfl) ?_ (by kernel_rfl) (fun _ _ _ h => h) ?_ ?_; rotate_left; (focus (intro wq hSw; have hrd : ∀ b o, b < wy.heap.size → wq.cell? ⟨b, o, none⟩ = wy.cell? ⟨b, o, none⟩ := (fun b o h => Below.cell hSw (p := ⟨b, o, none⟩) h); go_simp; try with_reducible rfl; done)); try simp only [Act.put, List.setIfInBounds_toArray, List.set_cons_zero, List.set_cons_succ])
  (refine lat_now 1 (by rfl) ?_ (by kernel_rfl) (fun _ _ _ h => h) ?_ ?_; rotate_left; (focus (intro wq hSw; have hrd : ∀ b o, b < wy.heap.size → wq.cell? ⟨b, o, none⟩ = wy.cell? ⟨b, o, none⟩ := (fun b o h => Below.cell hSw (p := ⟨b, o, none⟩) h); go_simp; try with_reducible rfl; done)); try simp only [Act.put, List.setIfInBounds_toArray, List.set_cons_zero, List.set_cons_succ])
  (refine lat_now 2 (by rfl) ?_ (by kernel_rfl) (fun _ _ _ h => h) ?_ ?_; rotate_left; (focus (intro wq hSw; have hrd : ∀ b o, b < wy.heap.size → wq.cell? ⟨b, o, none⟩ = wy.cell? ⟨b, o, none⟩ := (fun b o h => Below.cell hSw (p := ⟨b, o, none⟩) h); go_simp; try with_reducible rfl; done)); try simp only [Act.put, List.setIfInBounds_toArray, List.set_cons_zero, List.set_cons_succ])
  (refine lat_now 3 (by rfl) ?_ (by kernel_rfl) (fun _ _ _ h => h) ?_ ?_; rotate_left; (focus (intro wq hSw; have hrd : ∀ b o, b < wy.heap.size → wq.cell? ⟨b, o, none⟩ = wy.cell? ⟨b, o, none⟩ := (fun b o h => Below.cell hSw (p := ⟨b, o, none⟩) h); go_simp; try with_reducible rfl; done)); try simp only [Act.put, List.setIfInBounds_toArray, List.set_cons_zero, List.set_cons_succ])
  (refine lat_now 7 (by rfl) ?_ (by kernel_rfl) (fun _ _ _ h => h) ?_ ?_; rotate_left; (focus (intro wq hSw; have hrd : ∀ b o, b < wy.heap.size → wq.cell? ⟨b, o, none⟩ = wy.cell? ⟨b, o, none⟩ := (fun b o h => Below.cell hSw (p := ⟨b, o, none⟩) h); go_simp; try with_reducible rfl; done)); try simp only [Act.put, List.setIfInBounds_toArray, List.set_cons_zero, List.set_cons_succ])
  (refine lat_now 8 (by rfl) ?_ (by kernel_rfl) (fun _ _ _ h => h) ?_ ?_; rotate_left; (focus (intro wq hSw; have hrd : ∀ b o, b < wy.heap.size → wq.cell? ⟨b, o, none⟩ = wy.cell? ⟨b, o, none⟩ := (fun b o h => Below.cell hSw (p := ⟨b, o, none⟩) h); go_simp; try with_reducible rfl; done)); try simp only [Act.put, List.setIfInBounds_toArray, List.set_cons_zero, List.set_cons_succ])
  (refine lat_now 12 (by rfl) ?_ (by kernel_rfl) (fun _ _ _ h => h) ?_ ?_; rotate_left; (focus (intro wq hSw; have hrd : ∀ b o, b < wy.heap.size → wq.cell? ⟨b, o, none⟩ = wy.cell? ⟨b, o, none⟩ := (fun b o h => Below.cell hSw (p := ⟨b, o, none⟩) h); go_simp; try with_reducible rfl; done)); try simp only [Act.put, List.setIfInBounds_toArray, List.set_cons_zero, List.set_cons_succ])
  (refine lat_now 13 (by rfl) ?_ (by kernel_rfl) (fun _ _ _ h => h) ?_ ?_; rotate_left; (focus (intro wq hSw; have hrd : ∀ b o, b < wy.heap.size → wq.cell? ⟨b, o, none⟩ = wy.cell? ⟨b, o, none⟩ := (fun b o h => Below.cell hSw (p := ⟨b, o, none⟩) h); go_simp; try with_reducible rfl; done)); try simp only [Act.put, List.setIfInBounds_toArray, List.set_cons_zero, List.set_cons_succ])
  (refine lat_late 4 (by rfl) (.string (strB L2)) (by kernel_rfl) (fun _ _ _ h => h) (fun wq hSw => ⟨_, _, ?_, d2 wq⟩) ?_; focus (go_simp; try with_reducible rfl; done); try simp only [Act.put, List.setIfInBounds_toArray, List.set_cons_zero, List.set_cons_succ])
  (refine lat_now 5 (by rfl) ?_ (by kernel_rfl) (fun _ _ _ h => h) ?_ ?_; rotate_left; (focus (intro wq hSw; have hrd : ∀ b o, b < wy.heap.size → wq.cell? ⟨b, o, none⟩ = wy.cell? ⟨b, o, none⟩ := (fun b o h => Below.cell hSw (p := ⟨b, o, none⟩) h); go_simp; try with_reducible rfl; done)); try simp only [Act.put, List.setIfInBounds_toArray, List.set_cons_zero, List.set_cons_succ])
  (refine lat_now 6 (by rfl) ?_ (by kernel_rfl) (fun _ _ _ h => h) ?_ ?_; rotate_left; (focus (intro wq hSw; have hrd : ∀ b o, b < wy.heap.size → wq.cell? ⟨b, o, none⟩ = wy.cell? ⟨b, o, none⟩ := (fun b o h => Below.cell hSw (p := ⟨b, o, none⟩) h); go_simp; try with_reducible rfl; done)); try simp only [Act.put, List.setIfInBounds_toArray, List.set_cons_zero, List.set_cons_succ])
  (refine lat_late 9 (by rfl) (.string (strB L3)) (by kernel_rfl) (fun _ _ _ h => h) (fun wq hSw => ⟨_, _, ?_, d3 wq⟩) ?_; focus (go_simp; try with_reducible rfl; done); try simp only [Act.put, List.setIfInBounds_toArray, List.set_cons_zero, List.set_cons_succ])
  (refine lat_now 10 (by rfl) ?_ (by kernel_rfl) (fun _ _ _ h => h) ?_ ?_; rotate_left; (focus (intro wq hSw; have hrd : ∀ b o, b < wy.heap.size → wq.cell? ⟨b, o, none⟩ = wy.cell? ⟨b, o, none⟩ := (fun b o h => Below.cell hSw (p := ⟨b, o, none⟩) h); go_simp; try with_reducible rfl; done)); try simp only [Act.put, List.setIfInBounds_toArray, List.set_cons_zero, List.set_cons_succ])
  (refine lat_now 11 (by rfl) ?_ (by kernel_rfl) (fun _ _ _ h => h) ?_ ?_; rotate_left; (focus (intro wq hSw; have hrd : ∀ b o, b < wy.heap.size → wq.cell? ⟨b, o, none⟩ = wy.cell? ⟨b, o, none⟩ := (fun b o h => Below.cell hSw (p := ⟨b, o, none⟩) h); go_simp; try with_reducible rfl; done)); try simp only [Act.put, List.setIfInBounds_toArray, List.set_cons_zero, List.set_cons_succ])
  (refine lat_late 14 (by rfl) (.string (strB L4)) (by kernel_rfl) (fun _ _ _ h => h) (fun wq hSw => ⟨_, _, ?_, d4 wq⟩) ?_; focus (go_simp; try with_reducible rfl; done); try simp only [Act.put, List.setIfInBounds_toArray, List.set_cons_zero, List.set_cons_succ])
  (refine lat_now 15 (by rfl) ?_ (by kernel_rfl) (fun _ _ _ h => h) ?_ ?_; rotate_left; (focus (intro wq hSw; have hrd : ∀ b o, b < wy.heap.size → wq.cell? ⟨b, o, none⟩ = wy.cell? ⟨b, o, none⟩ := (fun b o h => Below.cell hSw (p := ⟨b, o, none⟩) h); go_simp; try with_reducible rfl; done)); try simp only [Act.put, List.setIfInBounds_toArray, List.set_cons_zero, List.set_cons_succ])
  (refine lat_now 16 (by rfl) ?_ (by kernel_rfl) (fun _ _ _ h => h) ?_ ?_; rotate_left; (focus (intro wq hSw; have hrd : ∀ b o, b < wy.heap.size → wq.cell? ⟨b, o, none⟩ = wy.cell? ⟨b, o, none⟩ := (fun b o h => Below.cell hSw (p := ⟨b, o, none⟩) h); go_simp; try with_reducible rfl; done)); try simp only [Act.put, List.setIfInBounds_toArray, List.set_cons_zero, List.set_cons_succ])
  refine lat_done (by kernel_rfl) (fun wz hz => ?_) _
  try refine NoPanic.normal ?_
  go_wp2_with fail
  go_ret
  exact ⟨rfl, hB.trans (hz.mono hB.size)⟩
end Go.Proofs.YthbfnppgaaeilaaDoor
