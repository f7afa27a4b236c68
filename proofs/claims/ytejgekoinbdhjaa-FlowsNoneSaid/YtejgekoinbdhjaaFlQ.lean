/- flows: FlowsNone: the law is true of every act. -/
import Derived.Test.YtejgekoinbdhjaaFlP
import Derived.Test.YtejgekoinbdhjaaOpen3
namespace Go.Proofs.Ytejgekoinbdhjaa
set_option linter.unusedVariables false
open Go Go.RowKit Go.Maps

set_option maxRecDepth 100000 in
set_option maxHeartbeats 8000000 in
theorem none29_walk (kd b t : Int) (f : Flo) (w : World) : Calls Try.prog 8 #[.agg #[.int .i64 kd, .int .i64 f.pr, .int .u32 f.src, .int .u32 f.dst, .int .i64 f.sp, .int .i64 f.dp, .int .i64 b, .int .i64 t]] w fun e w' => e = .returned (.bool true) ∧ Below w.heap.size w w' := by
  have i0 : ∀ (x0 x1 : Value) (w : World), (Instr.index 77 (.agg #[x0, x1]) (.int .i64 0)).run Try.prog w = .ok x0 w := fun _ _ _ => by kernel_rfl
  have i1 : ∀ (x0 x1 : Value) (w : World), (Instr.index 77 (.agg #[x0, x1]) (.int .i64 1)).run Try.prog w = .ok x1 w := fun _ _ _ => by kernel_rfl
  have hB1 := (Below.refl w.heap.size w).alloc (Nat.le_refl _) (.cells #[.int .i64 kd, .int .i64 f.pr, .int .u32 f.src, .int .u32 f.dst, .int .i64 f.sp, .int .i64 f.dp, .int .i64 b, .int .i64 t] 72)
  have ha := Blk.new w 72 #[.int .i64 kd, .int .i64 f.pr, .int .u32 f.src, .int .u32 f.dst, .int .i64 f.sp, .int .i64 f.dp, .int .i64 b, .int .i64 t]
  go_enter Try.func8, Try.ntmps8
  go_upto_region 1 with (fail)
  generalize w.alloc (.cells #[.int .i64 kd, .int .i64 f.pr, .int .u32 f.src, .int .u32 f.dst, .int .i64 f.sp, .int .i64 f.dp, .int .i64 b, .int .i64 t] 72) = w1 at *
  have hB2 := hB1.alloc hB1.size (.cells zerC 76)
  have hp := Blk.new w1 76 zerC
  have ha2 := ha.alloc (.cells zerC 76)
  have hzc : w1.alloc (.cells #[.int .i64 0, .int .i64 0, .int .i64 0, .map none, .pointer none, .int .i64 0, .int .i64 0] 76) = w1.alloc (.cells zerC 76) := rfl
  go_upto_region 2 with (fail)
  try rw [hzc]
  clear hzc ha hB1
  generalize w1.alloc (.cells zerC 76) = w2 at *
  have lta := ha2.lt
  have a1 := ha2.cellv 1 (v := .int .i64 f.pr) rfl
  have a2 := ha2.cellv 2 (v := .int .u32 f.src) rfl
  have a3 := ha2.cellv 3 (v := .int .u32 f.dst) rfl
  have a4 := ha2.cellv 4 (v := .int .i64 f.sp) rfl
  have a5 := ha2.cellv 5 (v := .int .i64 f.dp) rfl
  have a6 := ha2.cellv 6 (v := .int .i64 b) rfl
  have a7 := ha2.cellv 7 (v := .int .i64 t) rfl
  go_wp2_with fail
  refine wp_loop_rounds 3 ?_
  change Code.rounds _ _ _ _ _ w2
  rw [rounds_succ]
  go_upto_region 6 with (go_at_call 40; refine (fPutNil _ f b t).mono ?_; rintro e w3 ⟨rfl, hb⟩; simp only [enA, ze]; replace hB2 := hB2.trans (hb.mono hB2.size); replace ha2 := ha2.below hb ha2.lt; replace hp := hp.below hb hp.lt; clear hb lta a1 a2 a3 a4 a5 a6 a7; have lta := ha2.lt; have a1 := ha2.cellv 1 (v := .int .i64 f.pr) rfl; have a2 := ha2.cellv 2 (v := .int .u32 f.src) rfl; have a3 := ha2.cellv 3 (v := .int .u32 f.dst) rfl; have a4 := ha2.cellv 4 (v := .int .i64 f.sp) rfl; have a5 := ha2.cellv 5 (v := .int .i64 f.dp) rfl; have a6 := ha2.cellv 6 (v := .int .i64 b) rfl; have a7 := ha2.cellv 7 (v := .int .i64 t) rfl)
  have hb := (Below.refl w3.heap.size w3).alloc (Nat.le_refl _) (.cells #[.int .i64 0, .int .u32 0, .int .u32 0, .int .i64 0, .int .i64 0, .int .i64 0, .int .i64 0] 62)
  generalize w3.alloc (.cells #[.int .i64 0, .int .u32 0, .int .u32 0, .int .i64 0, .int .i64 0, .int .i64 0, .int .i64 0] 62) = w4 at *
  replace hB2 := hB2.trans (hb.mono hB2.size)
  replace ha2 := ha2.below hb ha2.lt
  replace hp := hp.below hb hp.lt
  clear hb lta a1 a2 a3 a4 a5 a6 a7
  have lta := ha2.lt
  have a1 := ha2.cellv 1 (v := .int .i64 f.pr) rfl
  have a2 := ha2.cellv 2 (v := .int .u32 f.src) rfl
  have a3 := ha2.cellv 3 (v := .int .u32 f.dst) rfl
  have a4 := ha2.cellv 4 (v := .int .i64 f.sp) rfl
  have a5 := ha2.cellv 5 (v := .int .i64 f.dp) rfl
  have a6 := ha2.cellv 6 (v := .int .i64 b) rfl
  have a7 := ha2.cellv 7 (v := .int .i64 t) rfl
  go_upto_region 8 with (first
    | (go_at_call 42; refine (fGetNil _ f t).mono ?_; rintro e w5 ⟨rfl, hb⟩; replace hB2 := hB2.trans (hb.mono hB2.size); replace ha2 := ha2.below hb ha2.lt; replace hp := hp.below hb hp.lt; clear hb lta a1 a2 a3 a4 a5 a6 a7; have lta := ha2.lt; have a1 := ha2.cellv 1 (v := .int .i64 f.pr) rfl; have a2 := ha2.cellv 2 (v := .int .u32 f.src) rfl; have a3 := ha2.cellv 3 (v := .int .u32 f.dst) rfl; have a4 := ha2.cellv 4 (v := .int .i64 f.sp) rfl; have a5 := ha2.cellv 5 (v := .int .i64 f.dp) rfl; have a6 := ha2.cellv 6 (v := .int .i64 b) rfl; have a7 := ha2.cellv 7 (v := .int .i64 t) rfl)
    | (go_at_call 43; refine (fPeekNil _ f).mono ?_; rintro e w6 ⟨rfl, hb⟩; simp only [enA, ze]; replace hB2 := hB2.trans (hb.mono hB2.size); replace ha2 := ha2.below hb ha2.lt; replace hp := hp.below hb hp.lt; clear hb lta a1 a2 a3 a4 a5 a6 a7; have lta := ha2.lt; have a1 := ha2.cellv 1 (v := .int .i64 f.pr) rfl; have a2 := ha2.cellv 2 (v := .int .u32 f.src) rfl; have a3 := ha2.cellv 3 (v := .int .u32 f.dst) rfl; have a4 := ha2.cellv 4 (v := .int .i64 f.sp) rfl; have a5 := ha2.cellv 5 (v := .int .i64 f.dp) rfl; have a6 := ha2.cellv 6 (v := .int .i64 b) rfl; have a7 := ha2.cellv 7 (v := .int .i64 t) rfl))
  have hb := (Below.refl w6.heap.size w6).alloc (Nat.le_refl _) (.cells #[.int .i64 0, .int .u32 0, .int .u32 0, .int .i64 0, .int .i64 0, .int .i64 0, .int .i64 0] 62)
  generalize w6.alloc (.cells #[.int .i64 0, .int .u32 0, .int .u32 0, .int .i64 0, .int .i64 0, .int .i64 0, .int .i64 0] 62) = w7 at *
  replace hB2 := hB2.trans (hb.mono hB2.size)
  replace ha2 := ha2.below hb ha2.lt
  replace hp := hp.below hb hp.lt
  clear hb lta a1 a2 a3 a4 a5 a6 a7
  have lta := ha2.lt
  have a1 := ha2.cellv 1 (v := .int .i64 f.pr) rfl
  have a2 := ha2.cellv 2 (v := .int .u32 f.src) rfl
  have a3 := ha2.cellv 3 (v := .int .u32 f.dst) rfl
  have a4 := ha2.cellv 4 (v := .int .i64 f.sp) rfl
  have a5 := ha2.cellv 5 (v := .int .i64 f.dp) rfl
  have a6 := ha2.cellv 6 (v := .int .i64 b) rfl
  have a7 := ha2.cellv 7 (v := .int .i64 t) rfl
  go_upto_region 9 with (go_at_call 44; refine (fCountsNil _).mono ?_; rintro e w' ⟨rfl, rfl⟩)
  -- region 9: 0 1 2 3 4 5 6 7 8 9 10 11C 12 13 14 15 16 17C 18 19 20 21C 22 23 24 25C 26 27 28C 29 30 31 32 33 34 35 36 37 38 39C 40 41
  try refine wp_region_noPanic ?_
  refine wp_region_lat (by kernel_rfl) ?_
  (refine lat_now 0 (by rfl) ?_ (by kernel_rfl) (fun _ _ _ h => h) ?_ ?_; rotate_left; (focus (intro wq hSw; have hrd : ∀ b o, b < w7.heap.size → wq.cell? ⟨b, o, none⟩ = w7.cell? ⟨b, o, none⟩ := (fun b o h => Below.cell hSw (p := ⟨b, o, none⟩) h); go_simp; try with_reducible rfl; done)); try simp only [Act.put, List.setIfInBounds_toArray, List.set_cons_zero, List.set_cons_succ])
  (refine lat_now 1 (by rfl) ?_ (by kernel_rfl) (fun _ _ _ h => h) ?_ ?_; rotate_left; (focus (intro wq hSw; have hrd : ∀ b o, b < w7.heap.size → wq.cell? ⟨b, o, none⟩ = w7.cell? ⟨b, o, none⟩ := (fun b o h => Below.cell hSw (p := ⟨b, o, none⟩) h); go_simp; try with_reducible rfl; done)); try simp only [Act.put, List.setIfInBounds_toArray, List.set_cons_zero, List.set_cons_succ])
  (refine lat_now 2 (by rfl) ?_ (by kernel_rfl) (fun _ _ _ h => h) ?_ ?_; rotate_left; (focus (intro wq hSw; have hrd : ∀ b o, b < w7.heap.size → wq.cell? ⟨b, o, none⟩ = w7.cell? ⟨b, o, none⟩ := (fun b o h => Below.cell hSw (p := ⟨b, o, none⟩) h); go_simp; try with_reducible rfl; done)); try simp only [Act.put, List.setIfInBounds_toArray, List.set_cons_zero, List.set_cons_succ])
  (refine lat_now 3 (by rfl) ?_ (by kernel_rfl) (fun _ _ _ h => h) ?_ ?_; rotate_left; (focus (intro wq hSw; have hrd : ∀ b o, b < w7.heap.size → wq.cell? ⟨b, o, none⟩ = w7.cell? ⟨b, o, none⟩ := (fun b o h => Below.cell hSw (p := ⟨b, o, none⟩) h); go_simp; try with_reducible rfl; done)); try simp only [Act.put, List.setIfInBounds_toArray, List.set_cons_zero, List.set_cons_succ])
  (refine lat_now 4 (by rfl) ?_ (by kernel_rfl) (fun _ _ _ h => h) ?_ ?_; rotate_left; (focus (intro wq hSw; have hrd : ∀ b o, b < w7.heap.size → wq.cell? ⟨b, o, none⟩ = w7.cell? ⟨b, o, none⟩ := (fun b o h => Below.cell hSw (p := ⟨b, o, none⟩) h); go_simp; try with_reducible rfl; done)); try simp only [Act.put, List.setIfInBounds_toArray, List.set_cons_zero, List.set_cons_succ])
  (refine lat_now 5 (by rfl) ?_ (by kernel_rfl) (fun _ _ _ h => h) ?_ ?_; rotate_left; (focus (intro wq hSw; have hrd : ∀ b o, b < w7.heap.size → wq.cell? ⟨b, o, none⟩ = w7.cell? ⟨b, o, none⟩ := (fun b o h => Below.cell hSw (p := ⟨b, o, none⟩) h); go_simp; try with_reducible rfl; done)); try simp only [Act.put, List.setIfInBounds_toArray, List.set_cons_zero, List.set_cons_succ])
  (refine lat_now 6 (by rfl) ?_ (by kernel_rfl) (fun _ _ _ h => h) ?_ ?_; rotate_left; (focus (intro wq hSw; have hrd : ∀ b o, b < w7.heap.size → wq.cell? ⟨b, o, none⟩ = w7.cell? ⟨b, o, none⟩ := (fun b o h => Below.cell hSw (p := ⟨b, o, none⟩) h); go_simp; try with_reducible rfl; done)); try simp only [Act.put, List.setIfInBounds_toArray, List.set_cons_zero, List.set_cons_succ])
  (refine lat_now 7 (by rfl) ?_ (by kernel_rfl) (fun _ _ _ h => h) ?_ ?_; rotate_left; (focus (intro wq hSw; have hrd : ∀ b o, b < w7.heap.size → wq.cell? ⟨b, o, none⟩ = w7.cell? ⟨b, o, none⟩ := (fun b o h => Below.cell hSw (p := ⟨b, o, none⟩) h); go_simp; try with_reducible rfl; done)); try simp only [Act.put, List.setIfInBounds_toArray, List.set_cons_zero, List.set_cons_succ])
  (refine lat_now 8 (by rfl) ?_ (by kernel_rfl) (fun _ _ _ h => h) ?_ ?_; rotate_left; (focus (intro wq hSw; have hrd : ∀ b o, b < w7.heap.size → wq.cell? ⟨b, o, none⟩ = w7.cell? ⟨b, o, none⟩ := (fun b o h => Below.cell hSw (p := ⟨b, o, none⟩) h); go_simp; try with_reducible rfl; done)); try simp only [Act.put, List.setIfInBounds_toArray, List.set_cons_zero, List.set_cons_succ])
  (refine lat_now 9 (by rfl) ?_ (by kernel_rfl) (fun _ _ _ h => h) ?_ ?_; rotate_left; (focus (intro wq hSw; have hrd : ∀ b o, b < w7.heap.size → wq.cell? ⟨b, o, none⟩ = w7.cell? ⟨b, o, none⟩ := (fun b o h => Below.cell hSw (p := ⟨b, o, none⟩) h); go_simp; try with_reducible rfl; done)); try simp only [Act.put, List.setIfInBounds_toArray, List.set_cons_zero, List.set_cons_succ])
  (refine lat_now 10 (by rfl) ?_ (by kernel_rfl) (fun _ _ _ h => h) ?_ ?_; rotate_left; (focus (intro wq hSw; have hrd : ∀ b o, b < w7.heap.size → wq.cell? ⟨b, o, none⟩ = w7.cell? ⟨b, o, none⟩ := (fun b o h => Below.cell hSw (p := ⟨b, o, none⟩) h); go_simp; try with_reducible rfl; done)); try simp only [Act.put, List.setIfInBounds_toArray, List.set_cons_zero, List.set_cons_succ])
  (refine lat_late 11 (by rfl) (.bool false) (by kernel_rfl) (fun _ _ _ h => h) (fun wq hSw => ⟨_, _, ?_, fDropNil wq f⟩) ?_; focus (go_simp; try with_reducible rfl; done); try simp only [Act.put, List.setIfInBounds_toArray, List.set_cons_zero, List.set_cons_succ])
  (refine lat_now 12 (by rfl) ?_ (by kernel_rfl) (fun _ _ _ h => h) ?_ ?_; rotate_left; (focus (intro wq hSw; have hrd : ∀ b o, b < w7.heap.size → wq.cell? ⟨b, o, none⟩ = w7.cell? ⟨b, o, none⟩ := (fun b o h => Below.cell hSw (p := ⟨b, o, none⟩) h); go_simp; try with_reducible rfl; done)); try simp only [Act.put, List.setIfInBounds_toArray, List.set_cons_zero, List.set_cons_succ])
  (refine lat_now 13 (by rfl) ?_ (by kernel_rfl) (fun _ _ _ h => h) ?_ ?_; rotate_left; (focus (intro wq hSw; have hrd : ∀ b o, b < w7.heap.size → wq.cell? ⟨b, o, none⟩ = w7.cell? ⟨b, o, none⟩ := (fun b o h => Below.cell hSw (p := ⟨b, o, none⟩) h); go_simp; try with_reducible rfl; done)); try simp only [Act.put, List.setIfInBounds_toArray, List.set_cons_zero, List.set_cons_succ])
  (refine lat_now 14 (by rfl) ?_ (by kernel_rfl) (fun _ _ _ h => h) ?_ ?_; rotate_left; (focus (intro wq hSw; have hrd : ∀ b o, b < w7.heap.size → wq.cell? ⟨b, o, none⟩ = w7.cell? ⟨b, o, none⟩ := (fun b o h => Below.cell hSw (p := ⟨b, o, none⟩) h); go_simp; try with_reducible rfl; done)); try simp only [Act.put, List.setIfInBounds_toArray, List.set_cons_zero, List.set_cons_succ])
  (refine lat_now 15 (by rfl) ?_ (by kernel_rfl) (fun _ _ _ h => h) ?_ ?_; rotate_left; (focus (intro wq hSw; have hrd : ∀ b o, b < w7.heap.size → wq.cell? ⟨b, o, none⟩ = w7.cell? ⟨b, o, none⟩ := (fun b o h => Below.cell hSw (p := ⟨b, o, none⟩) h); go_simp; try with_reducible rfl; done)); try simp only [Act.put, List.setIfInBounds_toArray, List.set_cons_zero, List.set_cons_succ])
  (refine lat_now 16 (by rfl) ?_ (by kernel_rfl) (fun _ _ _ h => h) ?_ ?_; rotate_left; (focus (intro wq hSw; have hrd : ∀ b o, b < w7.heap.size → wq.cell? ⟨b, o, none⟩ = w7.cell? ⟨b, o, none⟩ := (fun b o h => Below.cell hSw (p := ⟨b, o, none⟩) h); go_simp; try with_reducible rfl; done)); try simp only [Act.put, List.setIfInBounds_toArray, List.set_cons_zero, List.set_cons_succ])
  (refine lat_now 18 (by rfl) ?_ (by kernel_rfl) (fun _ _ _ h => h) ?_ ?_; rotate_left; (focus (intro wq hSw; have hrd : ∀ b o, b < w7.heap.size → wq.cell? ⟨b, o, none⟩ = w7.cell? ⟨b, o, none⟩ := (fun b o h => Below.cell hSw (p := ⟨b, o, none⟩) h); go_simp; try with_reducible rfl; done)); try simp only [Act.put, List.setIfInBounds_toArray, List.set_cons_zero, List.set_cons_succ])
  (refine lat_now 19 (by rfl) ?_ (by kernel_rfl) (fun _ _ _ h => h) ?_ ?_; rotate_left; (focus (intro wq hSw; have hrd : ∀ b o, b < w7.heap.size → wq.cell? ⟨b, o, none⟩ = w7.cell? ⟨b, o, none⟩ := (fun b o h => Below.cell hSw (p := ⟨b, o, none⟩) h); go_simp; try with_reducible rfl; done)); try simp only [Act.put, List.setIfInBounds_toArray, List.set_cons_zero, List.set_cons_succ])
  (refine lat_now 20 (by rfl) ?_ (by kernel_rfl) (fun _ _ _ h => h) ?_ ?_; rotate_left; (focus (intro wq hSw; have hrd : ∀ b o, b < w7.heap.size → wq.cell? ⟨b, o, none⟩ = w7.cell? ⟨b, o, none⟩ := (fun b o h => Below.cell hSw (p := ⟨b, o, none⟩) h); go_simp; try with_reducible rfl; done)); try simp only [Act.put, List.setIfInBounds_toArray, List.set_cons_zero, List.set_cons_succ])
  (refine lat_now 24 (by rfl) ?_ (by kernel_rfl) (fun _ _ _ h => h) ?_ ?_; rotate_left; (focus (intro wq hSw; have hrd : ∀ b o, b < w7.heap.size → wq.cell? ⟨b, o, none⟩ = w7.cell? ⟨b, o, none⟩ := (fun b o h => Below.cell hSw (p := ⟨b, o, none⟩) h); go_simp; try with_reducible rfl; done)); try simp only [Act.put, List.setIfInBounds_toArray, List.set_cons_zero, List.set_cons_succ])
  (refine lat_now 27 (by rfl) ?_ (by kernel_rfl) (fun _ _ _ h => h) ?_ ?_; rotate_left; (focus (intro wq hSw; have hrd : ∀ b o, b < w7.heap.size → wq.cell? ⟨b, o, none⟩ = w7.cell? ⟨b, o, none⟩ := (fun b o h => Below.cell hSw (p := ⟨b, o, none⟩) h); go_simp; try with_reducible rfl; done)); try simp only [Act.put, List.setIfInBounds_toArray, List.set_cons_zero, List.set_cons_succ])
  (refine lat_now 31 (by rfl) ?_ (by kernel_rfl) (fun _ _ _ h => h) ?_ ?_; rotate_left; (focus (intro wq hSw; have hrd : ∀ b o, b < w7.heap.size → wq.cell? ⟨b, o, none⟩ = w7.cell? ⟨b, o, none⟩ := (fun b o h => Below.cell hSw (p := ⟨b, o, none⟩) h); go_simp; try with_reducible rfl; done)); try simp only [Act.put, List.setIfInBounds_toArray, List.set_cons_zero, List.set_cons_succ])
  (refine lat_now 33 (by rfl) ?_ (by kernel_rfl) (fun _ _ _ h => h) ?_ ?_; rotate_left; (focus (intro wq hSw; have hrd : ∀ b o, b < w7.heap.size → wq.cell? ⟨b, o, none⟩ = w7.cell? ⟨b, o, none⟩ := (fun b o h => Below.cell hSw (p := ⟨b, o, none⟩) h); go_simp; try with_reducible rfl; done)); try simp only [Act.put, List.setIfInBounds_toArray, List.set_cons_zero, List.set_cons_succ])
  (refine lat_late 17 (by rfl) (.int .i64 0) (by kernel_rfl) (fun _ _ _ h => h) (fun wq hSw => ⟨_, _, ?_, fPurgeNil wq b⟩) ?_; focus (go_simp; try with_reducible rfl; done); try simp only [Act.put, List.setIfInBounds_toArray, List.set_cons_zero, List.set_cons_succ])
  (refine lat_late 21 (by rfl) (.slice none 0 0) (by kernel_rfl) (fun _ _ _ h => h) (fun wq hSw => ⟨_, _, ?_, fExpireNil wq t⟩) ?_; focus (go_simp; try with_reducible rfl; done); try simp only [Act.put, List.setIfInBounds_toArray, List.set_cons_zero, List.set_cons_succ])
  (refine lat_now 22 (by rfl) ?_ (by kernel_rfl) (fun _ _ _ h => h) ?_ ?_; rotate_left; (focus (intro wq hSw; have hrd : ∀ b o, b < w7.heap.size → wq.cell? ⟨b, o, none⟩ = w7.cell? ⟨b, o, none⟩ := (fun b o h => Below.cell hSw (p := ⟨b, o, none⟩) h); go_simp; try with_reducible rfl; done)); try simp only [Act.put, List.setIfInBounds_toArray, List.set_cons_zero, List.set_cons_succ])
  (refine lat_now 23 (by rfl) ?_ (by kernel_rfl) (fun _ _ _ h => h) ?_ ?_; rotate_left; (focus (intro wq hSw; have hrd : ∀ b o, b < w7.heap.size → wq.cell? ⟨b, o, none⟩ = w7.cell? ⟨b, o, none⟩ := (fun b o h => Below.cell hSw (p := ⟨b, o, none⟩) h); go_simp; try with_reducible rfl; done)); try simp only [Act.put, List.setIfInBounds_toArray, List.set_cons_zero, List.set_cons_succ])
  (refine lat_late 25 (by rfl) (.int .i64 0) (by kernel_rfl) (fun _ _ _ h => h) (fun wq hSw => ⟨_, _, ?_, (fLenNil wq).mono fun e w' hh => ⟨hh.1, hh.2 ▸ Lat.refl _⟩⟩) ?_; focus (go_simp; try with_reducible rfl; done); try simp only [Act.put, List.setIfInBounds_toArray, List.set_cons_zero, List.set_cons_succ])
  (refine lat_now 26 (by rfl) ?_ (by kernel_rfl) (fun _ _ _ h => h) ?_ ?_; rotate_left; (focus (intro wq hSw; have hrd : ∀ b o, b < w7.heap.size → wq.cell? ⟨b, o, none⟩ = w7.cell? ⟨b, o, none⟩ := (fun b o h => Below.cell hSw (p := ⟨b, o, none⟩) h); go_simp; try with_reducible rfl; done)); try simp only [Act.put, List.setIfInBounds_toArray, List.set_cons_zero, List.set_cons_succ])
  (refine lat_late 28 (by rfl) (.slice none 0 0) (by kernel_rfl) (fun _ _ _ h => h) (fun wq hSw => ⟨_, _, ?_, fAllNil wq⟩) ?_; focus (go_simp; try with_reducible rfl; done); try simp only [Act.put, List.setIfInBounds_toArray, List.set_cons_zero, List.set_cons_succ])
  (refine lat_now 29 (by rfl) ?_ (by kernel_rfl) (fun _ _ _ h => h) ?_ ?_; rotate_left; (focus (intro wq hSw; have hrd : ∀ b o, b < w7.heap.size → wq.cell? ⟨b, o, none⟩ = w7.cell? ⟨b, o, none⟩ := (fun b o h => Below.cell hSw (p := ⟨b, o, none⟩) h); go_simp; try with_reducible rfl; done)); try simp only [Act.put, List.setIfInBounds_toArray, List.set_cons_zero, List.set_cons_succ])
  (refine lat_now 30 (by rfl) ?_ (by kernel_rfl) (fun _ _ _ h => h) ?_ ?_; rotate_left; (focus (intro wq hSw; have hrd : ∀ b o, b < w7.heap.size → wq.cell? ⟨b, o, none⟩ = w7.cell? ⟨b, o, none⟩ := (fun b o h => Below.cell hSw (p := ⟨b, o, none⟩) h); go_simp; try with_reducible rfl; done)); try simp only [Act.put, List.setIfInBounds_toArray, List.set_cons_zero, List.set_cons_succ])
  (refine lat_now 32 (by rfl) ?_ (by kernel_rfl) (fun _ _ _ h => h) ?_ ?_; rotate_left; (focus (intro wq hSw; have hrd : ∀ b o, b < w7.heap.size → wq.cell? ⟨b, o, none⟩ = w7.cell? ⟨b, o, none⟩ := (fun b o h => Below.cell hSw (p := ⟨b, o, none⟩) h); go_simp; try with_reducible rfl; done)); try simp only [Act.put, List.setIfInBounds_toArray, List.set_cons_zero, List.set_cons_succ])
  (refine lat_now 34 (by rfl) ?_ (by kernel_rfl) (fun _ _ _ h => h) ?_ ?_; rotate_left; (focus (intro wq hSw; have hrd : ∀ b o, b < w7.heap.size → wq.cell? ⟨b, o, none⟩ = w7.cell? ⟨b, o, none⟩ := (fun b o h => Below.cell hSw (p := ⟨b, o, none⟩) h); go_simp; try with_reducible rfl; done)); try simp only [Act.put, List.setIfInBounds_toArray, List.set_cons_zero, List.set_cons_succ])
  (refine lat_now 35 (by rfl) ?_ (by kernel_rfl) (fun _ _ _ h => h) ?_ ?_; rotate_left; (focus (intro wq hSw; have hrd : ∀ b o, b < w7.heap.size → wq.cell? ⟨b, o, none⟩ = w7.cell? ⟨b, o, none⟩ := (fun b o h => Below.cell hSw (p := ⟨b, o, none⟩) h); go_simp; try with_reducible rfl; done)); try simp only [Act.put, List.setIfInBounds_toArray, List.set_cons_zero, List.set_cons_succ])
  (refine lat_now 36 (by rfl) ?_ (by kernel_rfl) (fun _ _ _ h => h) ?_ ?_; rotate_left; (focus (intro wq hSw; have hrd : ∀ b o, b < w7.heap.size → wq.cell? ⟨b, o, none⟩ = w7.cell? ⟨b, o, none⟩ := (fun b o h => Below.cell hSw (p := ⟨b, o, none⟩) h); go_simp; try with_reducible rfl; done)); try simp only [Act.put, List.setIfInBounds_toArray, List.set_cons_zero, List.set_cons_succ])
  (refine lat_now 37 (by rfl) ?_ (by kernel_rfl) (fun _ _ _ h => h) ?_ ?_; rotate_left; (focus (intro wq hSw; have hrd : ∀ b o, b < w7.heap.size → wq.cell? ⟨b, o, none⟩ = w7.cell? ⟨b, o, none⟩ := (fun b o h => Below.cell hSw (p := ⟨b, o, none⟩) h); go_simp; try with_reducible rfl; done)); try simp only [Act.put, List.setIfInBounds_toArray, List.set_cons_zero, List.set_cons_succ])
  (refine lat_now 38 (by rfl) ?_ (by kernel_rfl) (fun _ _ _ h => h) ?_ ?_; rotate_left; (focus (intro wq hSw; have hrd : ∀ b o, b < w7.heap.size → wq.cell? ⟨b, o, none⟩ = w7.cell? ⟨b, o, none⟩ := (fun b o h => Below.cell hSw (p := ⟨b, o, none⟩) h); go_simp; try with_reducible rfl; done)); try simp only [Act.put, List.setIfInBounds_toArray, List.set_cons_zero, List.set_cons_succ])
  (refine lat_late 39 (by rfl) (.pointer none) (by kernel_rfl) (fun _ _ _ h => h) (fun wq hSw => ⟨_, _, ?_, (fCopyNil wq).mono fun e w' hh => ⟨hh.1, hh.2 ▸ Lat.refl _⟩⟩) ?_; focus (go_simp; try with_reducible rfl; done); try simp only [Act.put, List.setIfInBounds_toArray, List.set_cons_zero, List.set_cons_succ])
  (refine lat_now 40 (by rfl) ?_ (by kernel_rfl) (fun _ _ _ h => h) ?_ ?_; rotate_left; (focus (intro wq hSw; have hrd : ∀ b o, b < w7.heap.size → wq.cell? ⟨b, o, none⟩ = w7.cell? ⟨b, o, none⟩ := (fun b o h => Below.cell hSw (p := ⟨b, o, none⟩) h); go_simp; try with_reducible rfl; done)); try simp only [Act.put, List.setIfInBounds_toArray, List.set_cons_zero, List.set_cons_succ])
  (refine lat_now 41 (by rfl) ?_ (by kernel_rfl) (fun _ _ _ h => h) ?_ ?_; rotate_left; (focus (intro wq hSw; have hrd : ∀ b o, b < w7.heap.size → wq.cell? ⟨b, o, none⟩ = w7.cell? ⟨b, o, none⟩ := (fun b o h => Below.cell hSw (p := ⟨b, o, none⟩) h); go_simp; try with_reducible rfl; done)); try simp only [Act.put, List.setIfInBounds_toArray, List.set_cons_zero, List.set_cons_succ])
  refine lat_done (by kernel_rfl) (fun wz hz => ?_) _
  try refine NoPanic.normal ?_
  have hb : Below w7.heap.size w7 wz := hz
  replace hB2 := hB2.trans (hb.mono hB2.size)
  replace ha2 := ha2.below hb ha2.lt
  replace hp := hp.below hb hp.lt
  clear hb lta a1 a2 a3 a4 a5 a6 a7
  have lta := ha2.lt
  have a1 := ha2.cellv 1 (v := .int .i64 f.pr) rfl
  have a2 := ha2.cellv 2 (v := .int .u32 f.src) rfl
  have a3 := ha2.cellv 3 (v := .int .u32 f.dst) rfl
  have a4 := ha2.cellv 4 (v := .int .i64 f.sp) rfl
  have a5 := ha2.cellv 5 (v := .int .i64 f.dp) rfl
  have a6 := ha2.cellv 6 (v := .int .i64 b) rfl
  have a7 := ha2.cellv 7 (v := .int .i64 t) rfl
  go_wp2_with fail
  rw [rounds_succ]
  go_upto_region 6 with (go_at_call 40; refine (fPutZero _ _ hp f b t).mono ?_; rintro e w13 ⟨rfl, hb⟩; simp only [enA, ze]; replace hB2 := hB2.trans (hb.mono hB2.size); replace ha2 := ha2.below hb ha2.lt; replace hp := hp.below hb hp.lt; clear hb lta a1 a2 a3 a4 a5 a6 a7; have lta := ha2.lt; have a1 := ha2.cellv 1 (v := .int .i64 f.pr) rfl; have a2 := ha2.cellv 2 (v := .int .u32 f.src) rfl; have a3 := ha2.cellv 3 (v := .int .u32 f.dst) rfl; have a4 := ha2.cellv 4 (v := .int .i64 f.sp) rfl; have a5 := ha2.cellv 5 (v := .int .i64 f.dp) rfl; have a6 := ha2.cellv 6 (v := .int .i64 b) rfl; have a7 := ha2.cellv 7 (v := .int .i64 t) rfl)
  have hb := (Below.refl w13.heap.size w13).alloc (Nat.le_refl _) (.cells #[.int .i64 0, .int .u32 0, .int .u32 0, .int .i64 0, .int .i64 0, .int .i64 0, .int .i64 0] 62)
  generalize w13.alloc (.cells #[.int .i64 0, .int .u32 0, .int .u32 0, .int .i64 0, .int .i64 0, .int .i64 0, .int .i64 0] 62) = w14 at *
  replace hB2 := hB2.trans (hb.mono hB2.size)
  replace ha2 := ha2.below hb ha2.lt
  replace hp := hp.below hb hp.lt
  clear hb lta a1 a2 a3 a4 a5 a6 a7
  have lta := ha2.lt
  have a1 := ha2.cellv 1 (v := .int .i64 f.pr) rfl
  have a2 := ha2.cellv 2 (v := .int .u32 f.src) rfl
  have a3 := ha2.cellv 3 (v := .int .u32 f.dst) rfl
  have a4 := ha2.cellv 4 (v := .int .i64 f.sp) rfl
  have a5 := ha2.cellv 5 (v := .int .i64 f.dp) rfl
  have a6 := ha2.cellv 6 (v := .int .i64 b) rfl
  have a7 := ha2.cellv 7 (v := .int .i64 t) rfl
  go_upto_region 8 with (first
    | (go_at_call 42; refine (fGetZero _ _ hp f t).mono ?_; rintro e w15 ⟨rfl, hb⟩; replace hB2 := hB2.trans (hb.mono hB2.size); replace ha2 := ha2.below hb ha2.lt; replace hp := hp.below hb hp.lt; clear hb lta a1 a2 a3 a4 a5 a6 a7; have lta := ha2.lt; have a1 := ha2.cellv 1 (v := .int .i64 f.pr) rfl; have a2 := ha2.cellv 2 (v := .int .u32 f.src) rfl; have a3 := ha2.cellv 3 (v := .int .u32 f.dst) rfl; have a4 := ha2.cellv 4 (v := .int .i64 f.sp) rfl; have a5 := ha2.cellv 5 (v := .int .i64 f.dp) rfl; have a6 := ha2.cellv 6 (v := .int .i64 b) rfl; have a7 := ha2.cellv 7 (v := .int .i64 t) rfl)
    | (go_at_call 43; refine (fPeekZero _ _ hp f).mono ?_; rintro e w16 ⟨rfl, hb⟩; simp only [enA, ze]; replace hB2 := hB2.trans (hb.mono hB2.size); replace ha2 := ha2.below hb ha2.lt; replace hp := hp.below hb hp.lt; clear hb lta a1 a2 a3 a4 a5 a6 a7; have lta := ha2.lt; have a1 := ha2.cellv 1 (v := .int .i64 f.pr) rfl; have a2 := ha2.cellv 2 (v := .int .u32 f.src) rfl; have a3 := ha2.cellv 3 (v := .int .u32 f.dst) rfl; have a4 := ha2.cellv 4 (v := .int .i64 f.sp) rfl; have a5 := ha2.cellv 5 (v := .int .i64 f.dp) rfl; have a6 := ha2.cellv 6 (v := .int .i64 b) rfl; have a7 := ha2.cellv 7 (v := .int .i64 t) rfl))
  have hb := (Below.refl w16.heap.size w16).alloc (Nat.le_refl _) (.cells #[.int .i64 0, .int .u32 0, .int .u32 0, .int .i64 0, .int .i64 0, .int .i64 0, .int .i64 0] 62)
  generalize w16.alloc (.cells #[.int .i64 0, .int .u32 0, .int .u32 0, .int .i64 0, .int .i64 0, .int .i64 0, .int .i64 0] 62) = w17 at *
  replace hB2 := hB2.trans (hb.mono hB2.size)
  replace ha2 := ha2.below hb ha2.lt
  replace hp := hp.below hb hp.lt
  clear hb lta a1 a2 a3 a4 a5 a6 a7
  have lta := ha2.lt
  have a1 := ha2.cellv 1 (v := .int .i64 f.pr) rfl
  have a2 := ha2.cellv 2 (v := .int .u32 f.src) rfl
  have a3 := ha2.cellv 3 (v := .int .u32 f.dst) rfl
  have a4 := ha2.cellv 4 (v := .int .i64 f.sp) rfl
  have a5 := ha2.cellv 5 (v := .int .i64 f.dp) rfl
  have a6 := ha2.cellv 6 (v := .int .i64 b) rfl
  have a7 := ha2.cellv 7 (v := .int .i64 t) rfl
  go_upto_region 9 with (go_at_call 44; refine (fCountsZero _ _ hp).mono ?_; rintro e w' ⟨rfl, rfl⟩)
  -- region 9: 0 1 2 3 4 5 6 7 8 9 10 11C 12 13 14 15 16 17C 18 19 20 21C 22 23 24 25C 26 27 28C 29 30 31 32 33 34 35 36 37 38 39C 40 41
  try refine wp_region_noPanic ?_
  refine wp_region_lat (by kernel_rfl) ?_
  (refine lat_now 0 (by rfl) ?_ (by kernel_rfl) (fun _ _ _ h => h) ?_ ?_; rotate_left; (focus (intro wq hSw; have hrd : ∀ b o, b < w17.heap.size → wq.cell? ⟨b, o, none⟩ = w17.cell? ⟨b, o, none⟩ := (fun b o h => Below.cell hSw (p := ⟨b, o, none⟩) h); go_simp; try with_reducible rfl; done)); try simp only [Act.put, List.setIfInBounds_toArray, List.set_cons_zero, List.set_cons_succ])
  (refine lat_now 1 (by rfl) ?_ (by kernel_rfl) (fun _ _ _ h => h) ?_ ?_; rotate_left; (focus (intro wq hSw; have hrd : ∀ b o, b < w17.heap.size → wq.cell? ⟨b, o, none⟩ = w17.cell? ⟨b, o, none⟩ := (fun b o h => Below.cell hSw (p := ⟨b, o, none⟩) h); go_simp; try with_reducible rfl; done)); try simp only [Act.put, List.setIfInBounds_toArray, List.set_cons_zero, List.set_cons_succ])
  (refine lat_now 2 (by rfl) ?_ (by kernel_rfl) (fun _ _ _ h => h) ?_ ?_; rotate_left; (focus (intro wq hSw; have hrd : ∀ b o, b < w17.heap.size → wq.cell? ⟨b, o, none⟩ = w17.cell? ⟨b, o, none⟩ := (fun b o h => Below.cell hSw (p := ⟨b, o, none⟩) h); go_simp; try with_reducible rfl; done)); try simp only [Act.put, List.setIfInBounds_toArray, List.set_cons_zero, List.set_cons_succ])
  (refine lat_now 3 (by rfl) ?_ (by kernel_rfl) (fun _ _ _ h => h) ?_ ?_; rotate_left; (focus (intro wq hSw; have hrd : ∀ b o, b < w17.heap.size → wq.cell? ⟨b, o, none⟩ = w17.cell? ⟨b, o, none⟩ := (fun b o h => Below.cell hSw (p := ⟨b, o, none⟩) h); go_simp; try with_reducible rfl; done)); try simp only [Act.put, List.setIfInBounds_toArray, List.set_cons_zero, List.set_cons_succ])
  (refine lat_now 4 (by rfl) ?_ (by kernel_rfl) (fun _ _ _ h => h) ?_ ?_; rotate_left; (focus (intro wq hSw; have hrd : ∀ b o, b < w17.heap.size → wq.cell? ⟨b, o, none⟩ = w17.cell? ⟨b, o, none⟩ := (fun b o h => Below.cell hSw (p := ⟨b, o, none⟩) h); go_simp; try with_reducible rfl; done)); try simp only [Act.put, List.setIfInBounds_toArray, List.set_cons_zero, List.set_cons_succ])
  (refine lat_now 5 (by rfl) ?_ (by kernel_rfl) (fun _ _ _ h => h) ?_ ?_; rotate_left; (focus (intro wq hSw; have hrd : ∀ b o, b < w17.heap.size → wq.cell? ⟨b, o, none⟩ = w17.cell? ⟨b, o, none⟩ := (fun b o h => Below.cell hSw (p := ⟨b, o, none⟩) h); go_simp; try with_reducible rfl; done)); try simp only [Act.put, List.setIfInBounds_toArray, List.set_cons_zero, List.set_cons_succ])
  (refine lat_now 6 (by rfl) ?_ (by kernel_rfl) (fun _ _ _ h => h) ?_ ?_; rotate_left; (focus (intro wq hSw; have hrd : ∀ b o, b < w17.heap.size → wq.cell? ⟨b, o, none⟩ = w17.cell? ⟨b, o, none⟩ := (fun b o h => Below.cell hSw (p := ⟨b, o, none⟩) h); go_simp; try with_reducible rfl; done)); try simp only [Act.put, List.setIfInBounds_toArray, List.set_cons_zero, List.set_cons_succ])
  (refine lat_now 7 (by rfl) ?_ (by kernel_rfl) (fun _ _ _ h => h) ?_ ?_; rotate_left; (focus (intro wq hSw; have hrd : ∀ b o, b < w17.heap.size → wq.cell? ⟨b, o, none⟩ = w17.cell? ⟨b, o, none⟩ := (fun b o h => Below.cell hSw (p := ⟨b, o, none⟩) h); go_simp; try with_reducible rfl; done)); try simp only [Act.put, List.setIfInBounds_toArray, List.set_cons_zero, List.set_cons_succ])
  (refine lat_now 8 (by rfl) ?_ (by kernel_rfl) (fun _ _ _ h => h) ?_ ?_; rotate_left; (focus (intro wq hSw; have hrd : ∀ b o, b < w17.heap.size → wq.cell? ⟨b, o, none⟩ = w17.cell? ⟨b, o, none⟩ := (fun b o h => Below.cell hSw (p := ⟨b, o, none⟩) h); go_simp; try with_reducible rfl; done)); try simp only [Act.put, List.setIfInBounds_toArray, List.set_cons_zero, List.set_cons_succ])
  (refine lat_now 9 (by rfl) ?_ (by kernel_rfl) (fun _ _ _ h => h) ?_ ?_; rotate_left; (focus (intro wq hSw; have hrd : ∀ b o, b < w17.heap.size → wq.cell? ⟨b, o, none⟩ = w17.cell? ⟨b, o, none⟩ := (fun b o h => Below.cell hSw (p := ⟨b, o, none⟩) h); go_simp; try with_reducible rfl; done)); try simp only [Act.put, List.setIfInBounds_toArray, List.set_cons_zero, List.set_cons_succ])
  (refine lat_now 10 (by rfl) ?_ (by kernel_rfl) (fun _ _ _ h => h) ?_ ?_; rotate_left; (focus (intro wq hSw; have hrd : ∀ b o, b < w17.heap.size → wq.cell? ⟨b, o, none⟩ = w17.cell? ⟨b, o, none⟩ := (fun b o h => Below.cell hSw (p := ⟨b, o, none⟩) h); go_simp; try with_reducible rfl; done)); try simp only [Act.put, List.setIfInBounds_toArray, List.set_cons_zero, List.set_cons_succ])
  (refine lat_late 11 (by rfl) (.bool false) (by kernel_rfl) (fun _ _ _ h => h) (fun wq hSw => ⟨_, _, ?_, fDropZero wq _ (hp.below hSw hp.lt) f⟩) ?_; focus (go_simp; try with_reducible rfl; done); try simp only [Act.put, List.setIfInBounds_toArray, List.set_cons_zero, List.set_cons_succ])
  (refine lat_now 12 (by rfl) ?_ (by kernel_rfl) (fun _ _ _ h => h) ?_ ?_; rotate_left; (focus (intro wq hSw; have hrd : ∀ b o, b < w17.heap.size → wq.cell? ⟨b, o, none⟩ = w17.cell? ⟨b, o, none⟩ := (fun b o h => Below.cell hSw (p := ⟨b, o, none⟩) h); go_simp; try with_reducible rfl; done)); try simp only [Act.put, List.setIfInBounds_toArray, List.set_cons_zero, List.set_cons_succ])
  (refine lat_now 13 (by rfl) ?_ (by kernel_rfl) (fun _ _ _ h => h) ?_ ?_; rotate_left; (focus (intro wq hSw; have hrd : ∀ b o, b < w17.heap.size → wq.cell? ⟨b, o, none⟩ = w17.cell? ⟨b, o, none⟩ := (fun b o h => Below.cell hSw (p := ⟨b, o, none⟩) h); go_simp; try with_reducible rfl; done)); try simp only [Act.put, List.setIfInBounds_toArray, List.set_cons_zero, List.set_cons_succ])
  (refine lat_now 14 (by rfl) ?_ (by kernel_rfl) (fun _ _ _ h => h) ?_ ?_; rotate_left; (focus (intro wq hSw; have hrd : ∀ b o, b < w17.heap.size → wq.cell? ⟨b, o, none⟩ = w17.cell? ⟨b, o, none⟩ := (fun b o h => Below.cell hSw (p := ⟨b, o, none⟩) h); go_simp; try with_reducible rfl; done)); try simp only [Act.put, List.setIfInBounds_toArray, List.set_cons_zero, List.set_cons_succ])
  (refine lat_now 15 (by rfl) ?_ (by kernel_rfl) (fun _ _ _ h => h) ?_ ?_; rotate_left; (focus (intro wq hSw; have hrd : ∀ b o, b < w17.heap.size → wq.cell? ⟨b, o, none⟩ = w17.cell? ⟨b, o, none⟩ := (fun b o h => Below.cell hSw (p := ⟨b, o, none⟩) h); go_simp; try with_reducible rfl; done)); try simp only [Act.put, List.setIfInBounds_toArray, List.set_cons_zero, List.set_cons_succ])
  (refine lat_now 16 (by rfl) ?_ (by kernel_rfl) (fun _ _ _ h => h) ?_ ?_; rotate_left; (focus (intro wq hSw; have hrd : ∀ b o, b < w17.heap.size → wq.cell? ⟨b, o, none⟩ = w17.cell? ⟨b, o, none⟩ := (fun b o h => Below.cell hSw (p := ⟨b, o, none⟩) h); go_simp; try with_reducible rfl; done)); try simp only [Act.put, List.setIfInBounds_toArray, List.set_cons_zero, List.set_cons_succ])
  (refine lat_now 18 (by rfl) ?_ (by kernel_rfl) (fun _ _ _ h => h) ?_ ?_; rotate_left; (focus (intro wq hSw; have hrd : ∀ b o, b < w17.heap.size → wq.cell? ⟨b, o, none⟩ = w17.cell? ⟨b, o, none⟩ := (fun b o h => Below.cell hSw (p := ⟨b, o, none⟩) h); go_simp; try with_reducible rfl; done)); try simp only [Act.put, List.setIfInBounds_toArray, List.set_cons_zero, List.set_cons_succ])
  (refine lat_now 19 (by rfl) ?_ (by kernel_rfl) (fun _ _ _ h => h) ?_ ?_; rotate_left; (focus (intro wq hSw; have hrd : ∀ b o, b < w17.heap.size → wq.cell? ⟨b, o, none⟩ = w17.cell? ⟨b, o, none⟩ := (fun b o h => Below.cell hSw (p := ⟨b, o, none⟩) h); go_simp; try with_reducible rfl; done)); try simp only [Act.put, List.setIfInBounds_toArray, List.set_cons_zero, List.set_cons_succ])
  (refine lat_now 20 (by rfl) ?_ (by kernel_rfl) (fun _ _ _ h => h) ?_ ?_; rotate_left; (focus (intro wq hSw; have hrd : ∀ b o, b < w17.heap.size → wq.cell? ⟨b, o, none⟩ = w17.cell? ⟨b, o, none⟩ := (fun b o h => Below.cell hSw (p := ⟨b, o, none⟩) h); go_simp; try with_reducible rfl; done)); try simp only [Act.put, List.setIfInBounds_toArray, List.set_cons_zero, List.set_cons_succ])
  (refine lat_now 24 (by rfl) ?_ (by kernel_rfl) (fun _ _ _ h => h) ?_ ?_; rotate_left; (focus (intro wq hSw; have hrd : ∀ b o, b < w17.heap.size → wq.cell? ⟨b, o, none⟩ = w17.cell? ⟨b, o, none⟩ := (fun b o h => Below.cell hSw (p := ⟨b, o, none⟩) h); go_simp; try with_reducible rfl; done)); try simp only [Act.put, List.setIfInBounds_toArray, List.set_cons_zero, List.set_cons_succ])
  (refine lat_now 27 (by rfl) ?_ (by kernel_rfl) (fun _ _ _ h => h) ?_ ?_; rotate_left; (focus (intro wq hSw; have hrd : ∀ b o, b < w17.heap.size → wq.cell? ⟨b, o, none⟩ = w17.cell? ⟨b, o, none⟩ := (fun b o h => Below.cell hSw (p := ⟨b, o, none⟩) h); go_simp; try with_reducible rfl; done)); try simp only [Act.put, List.setIfInBounds_toArray, List.set_cons_zero, List.set_cons_succ])
  (refine lat_now 31 (by rfl) ?_ (by kernel_rfl) (fun _ _ _ h => h) ?_ ?_; rotate_left; (focus (intro wq hSw; have hrd : ∀ b o, b < w17.heap.size → wq.cell? ⟨b, o, none⟩ = w17.cell? ⟨b, o, none⟩ := (fun b o h => Below.cell hSw (p := ⟨b, o, none⟩) h); go_simp; try with_reducible rfl; done)); try simp only [Act.put, List.setIfInBounds_toArray, List.set_cons_zero, List.set_cons_succ])
  (refine lat_now 33 (by rfl) ?_ (by kernel_rfl) (fun _ _ _ h => h) ?_ ?_; rotate_left; (focus (intro wq hSw; have hrd : ∀ b o, b < w17.heap.size → wq.cell? ⟨b, o, none⟩ = w17.cell? ⟨b, o, none⟩ := (fun b o h => Below.cell hSw (p := ⟨b, o, none⟩) h); go_simp; try with_reducible rfl; done)); try simp only [Act.put, List.setIfInBounds_toArray, List.set_cons_zero, List.set_cons_succ])
  (refine lat_late 17 (by rfl) (.int .i64 0) (by kernel_rfl) (fun _ _ _ h => h) (fun wq hSw => ⟨_, _, ?_, fPurgeZero wq _ (hp.below hSw hp.lt) b⟩) ?_; focus (go_simp; try with_reducible rfl; done); try simp only [Act.put, List.setIfInBounds_toArray, List.set_cons_zero, List.set_cons_succ])
  (refine lat_late 21 (by rfl) (.slice none 0 0) (by kernel_rfl) (fun _ _ _ h => h) (fun wq hSw => ⟨_, _, ?_, fExpireZero wq _ (hp.below hSw hp.lt) t⟩) ?_; focus (go_simp; try with_reducible rfl; done); try simp only [Act.put, List.setIfInBounds_toArray, List.set_cons_zero, List.set_cons_succ])
  (refine lat_now 22 (by rfl) ?_ (by kernel_rfl) (fun _ _ _ h => h) ?_ ?_; rotate_left; (focus (intro wq hSw; have hrd : ∀ b o, b < w17.heap.size → wq.cell? ⟨b, o, none⟩ = w17.cell? ⟨b, o, none⟩ := (fun b o h => Below.cell hSw (p := ⟨b, o, none⟩) h); go_simp; try with_reducible rfl; done)); try simp only [Act.put, List.setIfInBounds_toArray, List.set_cons_zero, List.set_cons_succ])
  (refine lat_now 23 (by rfl) ?_ (by kernel_rfl) (fun _ _ _ h => h) ?_ ?_; rotate_left; (focus (intro wq hSw; have hrd : ∀ b o, b < w17.heap.size → wq.cell? ⟨b, o, none⟩ = w17.cell? ⟨b, o, none⟩ := (fun b o h => Below.cell hSw (p := ⟨b, o, none⟩) h); go_simp; try with_reducible rfl; done)); try simp only [Act.put, List.setIfInBounds_toArray, List.set_cons_zero, List.set_cons_succ])
  (refine lat_late 25 (by rfl) (.int .i64 0) (by kernel_rfl) (fun _ _ _ h => h) (fun wq hSw => ⟨_, _, ?_, (fLenZero wq _ (hp.below hSw hp.lt)).mono fun e w' hh => ⟨hh.1, hh.2 ▸ Lat.refl _⟩⟩) ?_; focus (go_simp; try with_reducible rfl; done); try simp only [Act.put, List.setIfInBounds_toArray, List.set_cons_zero, List.set_cons_succ])
  (refine lat_now 26 (by rfl) ?_ (by kernel_rfl) (fun _ _ _ h => h) ?_ ?_; rotate_left; (focus (intro wq hSw; have hrd : ∀ b o, b < w17.heap.size → wq.cell? ⟨b, o, none⟩ = w17.cell? ⟨b, o, none⟩ := (fun b o h => Below.cell hSw (p := ⟨b, o, none⟩) h); go_simp; try with_reducible rfl; done)); try simp only [Act.put, List.setIfInBounds_toArray, List.set_cons_zero, List.set_cons_succ])
  (refine lat_late 28 (by rfl) (.slice none 0 0) (by kernel_rfl) (fun _ _ _ h => h) (fun wq hSw => ⟨_, _, ?_, fAllZero wq _ (hp.below hSw hp.lt)⟩) ?_; focus (go_simp; try with_reducible rfl; done); try simp only [Act.put, List.setIfInBounds_toArray, List.set_cons_zero, List.set_cons_succ])
  (refine lat_now 29 (by rfl) ?_ (by kernel_rfl) (fun _ _ _ h => h) ?_ ?_; rotate_left; (focus (intro wq hSw; have hrd : ∀ b o, b < w17.heap.size → wq.cell? ⟨b, o, none⟩ = w17.cell? ⟨b, o, none⟩ := (fun b o h => Below.cell hSw (p := ⟨b, o, none⟩) h); go_simp; try with_reducible rfl; done)); try simp only [Act.put, List.setIfInBounds_toArray, List.set_cons_zero, List.set_cons_succ])
  (refine lat_now 30 (by rfl) ?_ (by kernel_rfl) (fun _ _ _ h => h) ?_ ?_; rotate_left; (focus (intro wq hSw; have hrd : ∀ b o, b < w17.heap.size → wq.cell? ⟨b, o, none⟩ = w17.cell? ⟨b, o, none⟩ := (fun b o h => Below.cell hSw (p := ⟨b, o, none⟩) h); go_simp; try with_reducible rfl; done)); try simp only [Act.put, List.setIfInBounds_toArray, List.set_cons_zero, List.set_cons_succ])
  (refine lat_now 32 (by rfl) ?_ (by kernel_rfl) (fun _ _ _ h => h) ?_ ?_; rotate_left; (focus (intro wq hSw; have hrd : ∀ b o, b < w17.heap.size → wq.cell? ⟨b, o, none⟩ = w17.cell? ⟨b, o, none⟩ := (fun b o h => Below.cell hSw (p := ⟨b, o, none⟩) h); go_simp; try with_reducible rfl; done)); try simp only [Act.put, List.setIfInBounds_toArray, List.set_cons_zero, List.set_cons_succ])
  (refine lat_now 34 (by rfl) ?_ (by kernel_rfl) (fun _ _ _ h => h) ?_ ?_; rotate_left; (focus (intro wq hSw; have hrd : ∀ b o, b < w17.heap.size → wq.cell? ⟨b, o, none⟩ = w17.cell? ⟨b, o, none⟩ := (fun b o h => Below.cell hSw (p := ⟨b, o, none⟩) h); go_simp; try with_reducible rfl; done)); try simp only [Act.put, List.setIfInBounds_toArray, List.set_cons_zero, List.set_cons_succ])
  (refine lat_now 35 (by rfl) ?_ (by kernel_rfl) (fun _ _ _ h => h) ?_ ?_; rotate_left; (focus (intro wq hSw; have hrd : ∀ b o, b < w17.heap.size → wq.cell? ⟨b, o, none⟩ = w17.cell? ⟨b, o, none⟩ := (fun b o h => Below.cell hSw (p := ⟨b, o, none⟩) h); go_simp; try with_reducible rfl; done)); try simp only [Act.put, List.setIfInBounds_toArray, List.set_cons_zero, List.set_cons_succ])
  (refine lat_now 36 (by rfl) ?_ (by kernel_rfl) (fun _ _ _ h => h) ?_ ?_; rotate_left; (focus (intro wq hSw; have hrd : ∀ b o, b < w17.heap.size → wq.cell? ⟨b, o, none⟩ = w17.cell? ⟨b, o, none⟩ := (fun b o h => Below.cell hSw (p := ⟨b, o, none⟩) h); go_simp; try with_reducible rfl; done)); try simp only [Act.put, List.setIfInBounds_toArray, List.set_cons_zero, List.set_cons_succ])
  (refine lat_now 37 (by rfl) ?_ (by kernel_rfl) (fun _ _ _ h => h) ?_ ?_; rotate_left; (focus (intro wq hSw; have hrd : ∀ b o, b < w17.heap.size → wq.cell? ⟨b, o, none⟩ = w17.cell? ⟨b, o, none⟩ := (fun b o h => Below.cell hSw (p := ⟨b, o, none⟩) h); go_simp; try with_reducible rfl; done)); try simp only [Act.put, List.setIfInBounds_toArray, List.set_cons_zero, List.set_cons_succ])
  (refine lat_now 38 (by rfl) ?_ (by kernel_rfl) (fun _ _ _ h => h) ?_ ?_; rotate_left; (focus (intro wq hSw; have hrd : ∀ b o, b < w17.heap.size → wq.cell? ⟨b, o, none⟩ = w17.cell? ⟨b, o, none⟩ := (fun b o h => Below.cell hSw (p := ⟨b, o, none⟩) h); go_simp; try with_reducible rfl; done)); try simp only [Act.put, List.setIfInBounds_toArray, List.set_cons_zero, List.set_cons_succ])
  (refine lat_late 39 (by rfl) (.pointer none) (by kernel_rfl) (fun _ _ _ h => h) (fun wq hSw => ⟨_, _, ?_, (fCopyZero wq _ (hp.below hSw hp.lt)).mono fun e w' hh => ⟨hh.1, hh.2 ▸ Lat.refl _⟩⟩) ?_; focus (go_simp; try with_reducible rfl; done); try simp only [Act.put, List.setIfInBounds_toArray, List.set_cons_zero, List.set_cons_succ])
  (refine lat_now 40 (by rfl) ?_ (by kernel_rfl) (fun _ _ _ h => h) ?_ ?_; rotate_left; (focus (intro wq hSw; have hrd : ∀ b o, b < w17.heap.size → wq.cell? ⟨b, o, none⟩ = w17.cell? ⟨b, o, none⟩ := (fun b o h => Below.cell hSw (p := ⟨b, o, none⟩) h); go_simp; try with_reducible rfl; done)); try simp only [Act.put, List.setIfInBounds_toArray, List.set_cons_zero, List.set_cons_succ])
  (refine lat_now 41 (by rfl) ?_ (by kernel_rfl) (fun _ _ _ h => h) ?_ ?_; rotate_left; (focus (intro wq hSw; have hrd : ∀ b o, b < w17.heap.size → wq.cell? ⟨b, o, none⟩ = w17.cell? ⟨b, o, none⟩ := (fun b o h => Below.cell hSw (p := ⟨b, o, none⟩) h); go_simp; try with_reducible rfl; done)); try simp only [Act.put, List.setIfInBounds_toArray, List.set_cons_zero, List.set_cons_succ])
  refine lat_done (by kernel_rfl) (fun wz hz => ?_) _
  try refine NoPanic.normal ?_
  have hb : Below w17.heap.size w17 wz := hz
  replace hB2 := hB2.trans (hb.mono hB2.size)
  replace ha2 := ha2.below hb ha2.lt
  replace hp := hp.below hb hp.lt
  clear hb lta a1 a2 a3 a4 a5 a6 a7
  have lta := ha2.lt
  have a1 := ha2.cellv 1 (v := .int .i64 f.pr) rfl
  have a2 := ha2.cellv 2 (v := .int .u32 f.src) rfl
  have a3 := ha2.cellv 3 (v := .int .u32 f.dst) rfl
  have a4 := ha2.cellv 4 (v := .int .i64 f.sp) rfl
  have a5 := ha2.cellv 5 (v := .int .i64 f.dp) rfl
  have a6 := ha2.cellv 6 (v := .int .i64 b) rfl
  have a7 := ha2.cellv 7 (v := .int .i64 t) rfl
  go_wp2_with fail
  rw [rounds_succ]
  go_wp2_with (go_at_call 38; refine (lives29_any _).mono ?_; rintro e w6 ⟨rfl, hb⟩)
  go_ret
  exact ⟨rfl, hB2.trans (hb.mono hB2.size)⟩
theorem none29_row (kd pr src dst sp dp b t : Int) (w : World) (_w1 : (Lit.int .i64 kd).wf = true) (_w2 : (Lit.int .i64 pr).wf = true) (_w3 : (Lit.int .u32 src).wf = true) (_w4 : (Lit.int .u32 dst).wf = true) (_w5 : (Lit.int .i64 sp).wf = true) (_w6 : (Lit.int .i64 dp).wf = true) (_w7 : (Lit.int .i64 b).wf = true) (_w8 : (Lit.int .i64 t).wf = true) :
    Calls Try.prog 8 #[.agg #[.int .i64 kd, .int .i64 pr, .int .u32 src, .int .u32 dst, .int .i64 sp, .int .i64 dp, .int .i64 b, .int .i64 t]] w fun e w' => e = .returned (.bool true) ∧ Below w.heap.size w w' :=
  none29_walk kd b t ⟨pr, src, dst, sp, dp⟩ w
end Go.Proofs.Ytejgekoinbdhjaa
