/- flows: Put, Peek, Drop of a table that no call made. -/
import Derived.Test.YtejgekoinbdhjaaFlM
namespace Go.Proofs.Ytejgekoinbdhjaa
set_option linter.unusedVariables false
open Go Go.RowKit Go.Maps

set_option maxRecDepth 100000 in
set_option maxHeartbeats 2000000 in
theorem fPutNil (w : World)  (f : Flo) (b t : Int) : Calls Try.prog 40 #[.pointer none, .agg #[.int .i64 f.pr, .int .u32 f.src, .int .u32 f.dst, .int .i64 f.sp, .int .i64 f.dp], .int .i64 b, .int .i64 t] w fun en w' => en = .returned (.tuple #[enA ze, .bool false]) ∧ Below w.heap.size w w' := by
  have hB2 := ((Below.refl w.heap.size w).alloc (Nat.le_refl _) (.cells #[.int .i64 f.pr, .int .u32 f.src, .int .u32 f.dst, .int .i64 f.sp, .int .i64 f.dp] 57)).alloc (by simp) (.cells #[.int .i64 0, .int .u32 0, .int .u32 0, .int .i64 0, .int .i64 0, .int .i64 0, .int .i64 0] 62)
  have hq := Blk.new (w.alloc (.cells #[.int .i64 f.pr, .int .u32 f.src, .int .u32 f.dst, .int .i64 f.sp, .int .i64 f.dp] 57)) 62 #[.int .i64 0, .int .u32 0, .int .u32 0, .int .i64 0, .int .i64 0, .int .i64 0, .int .i64 0]
  rw [show (w.alloc (.cells #[.int .i64 f.pr, .int .u32 f.src, .int .u32 f.dst, .int .i64 f.sp, .int .i64 f.dp] 57)).heap.size = w.heap.size + 1 by simp] at hq
  go_enter Try.func40, Try.ntmps40
  go_upto_region 1 with (fail)
  generalize (w.alloc (.cells #[.int .i64 f.pr, .int .u32 f.src, .int .u32 f.dst, .int .i64 f.sp, .int .i64 f.dp] 57)).alloc (.cells #[.int .i64 0, .int .u32 0, .int .u32 0, .int .i64 0, .int .i64 0, .int .i64 0, .int .i64 0] 62) = w2 at *
  have hB3 := hB2
  have hq3 := hq
  clear hB2 hq
  have hmd := madeF_nil w2
  generalize w2 = w3 at *
  go_wp2_with (first | (go_at_call 113; refine hmd.mono ?_; rintro en w' ⟨rfl, rfl⟩) | (refine wpList_store_blk rfl hq3 62 (.tmp 8) (.tmp 16) rfl rfl rfl rfl got_entry (by simp [Value.oneCell']) ?_; intro w4 hq4 hg4))
  try rw [Exit.noGoto_ret]
  refine bodyPost_ret (results_ct rfl _ rfl (load_blk hq4 Try.underlying62 rfl got_entry)) rfl ?_
  exact ⟨rfl, below_own hB3 hg4 hB3.size (by omega)⟩
set_option maxRecDepth 100000 in
set_option maxHeartbeats 2000000 in
theorem fPeekNil (w : World)  (f : Flo) : Calls Try.prog 43 #[.pointer none, .agg #[.int .i64 f.pr, .int .u32 f.src, .int .u32 f.dst, .int .i64 f.sp, .int .i64 f.dp]] w fun en w' => en = .returned (.tuple #[enA ze, .bool false]) ∧ Below w.heap.size w w' := by
  have hB2 := ((Below.refl w.heap.size w).alloc (Nat.le_refl _) (.cells #[.int .i64 f.pr, .int .u32 f.src, .int .u32 f.dst, .int .i64 f.sp, .int .i64 f.dp] 57)).alloc (by simp) (.cells #[.int .i64 0, .int .u32 0, .int .u32 0, .int .i64 0, .int .i64 0, .int .i64 0, .int .i64 0] 62)
  have hq := Blk.new (w.alloc (.cells #[.int .i64 f.pr, .int .u32 f.src, .int .u32 f.dst, .int .i64 f.sp, .int .i64 f.dp] 57)) 62 #[.int .i64 0, .int .u32 0, .int .u32 0, .int .i64 0, .int .i64 0, .int .i64 0, .int .i64 0]
  rw [show (w.alloc (.cells #[.int .i64 f.pr, .int .u32 f.src, .int .u32 f.dst, .int .i64 f.sp, .int .i64 f.dp] 57)).heap.size = w.heap.size + 1 by simp] at hq
  go_enter Try.func43, Try.ntmps43
  go_upto_region 1 with (fail)
  generalize (w.alloc (.cells #[.int .i64 f.pr, .int .u32 f.src, .int .u32 f.dst, .int .i64 f.sp, .int .i64 f.dp] 57)).alloc (.cells #[.int .i64 0, .int .u32 0, .int .u32 0, .int .i64 0, .int .i64 0, .int .i64 0, .int .i64 0] 62) = w2 at *
  -- region 1: 0 1C 2 3 4 5 6 7 8 9 10 11
  try refine wp_region_noPanic ?_
  have hs1r : Below w2.heap.size w2 w2.drew := (Below.refl _ _).drew
  refine wp_region_held_drew (S := fun w' => Below w2.heap.size w2 w') (by kernel_rfl) hs1r (fun _ => ?_)
  (refine held_takeA 0 (by rfl) ?_ (by kernel_rfl) (fun _ _ _ h => h) hs1r ?_ ?_; rotate_left; (focus (intro wq hSw; have hrd : ∀ b o, b < w2.heap.size → wq.cell? ⟨b, o, none⟩ = w2.cell? ⟨b, o, none⟩ := (fun b o h => hSw.cell (p := ⟨b, o, none⟩) h); go_simp; try with_reducible rfl; done)); try simp only [Act.put, List.setIfInBounds_toArray, List.set_cons_zero, List.set_cons_succ])
  refine held_callA 1 (by rfl) (by kernel_rfl) (by rfl) (fun KQ hKQ => ?_)
  go_simp
  refine (madeF_nil w2.drew).mono ?_
  rintro en w' ⟨rfl, rfl⟩
  have hs2r := (show Below w2.heap.size w2 w2.drew from (Below.refl _ _).drew)
  refine hKQ.out _ _ hs2r ?_
  clear hKQ KQ
  try simp only [Act.put, List.setIfInBounds_toArray, List.set_cons_zero, List.set_cons_succ]
  (refine held_takeA 2 (by rfl) ?_ (by kernel_rfl) (fun _ _ _ h => h) hs2r ?_ ?_; rotate_left; (focus (intro wq hSw; have hrd : ∀ b o, b < w2.heap.size → wq.cell? ⟨b, o, none⟩ = w2.cell? ⟨b, o, none⟩ := (fun b o h => hSw.cell (p := ⟨b, o, none⟩) h); go_simp; try with_reducible rfl; done)); try simp only [Act.put, List.setIfInBounds_toArray, List.set_cons_zero, List.set_cons_succ])
  (refine held_takeA 3 (by rfl) ?_ (by kernel_rfl) (fun _ _ _ h => h) hs2r ?_ ?_; rotate_left; (focus (intro wq hSw; have hrd : ∀ b o, b < w2.heap.size → wq.cell? ⟨b, o, none⟩ = w2.cell? ⟨b, o, none⟩ := (fun b o h => hSw.cell (p := ⟨b, o, none⟩) h); go_simp; try with_reducible rfl; done)); try simp only [Act.put, List.setIfInBounds_toArray, List.set_cons_zero, List.set_cons_succ])
  (refine held_skipA 4 (by rfl) (by kernel_rfl) (fun _ _ _ h => h) hs2r ?_; try simp only [Act.put, List.setIfInBounds_toArray, List.set_cons_zero, List.set_cons_succ])
  (refine held_skipA 5 (by rfl) (by kernel_rfl) (fun _ _ _ h => h) hs2r ?_; try simp only [Act.put, List.setIfInBounds_toArray, List.set_cons_zero, List.set_cons_succ])
  (refine held_skipA 6 (by rfl) (by kernel_rfl) (fun _ _ _ h => h) hs2r ?_; try simp only [Act.put, List.setIfInBounds_toArray, List.set_cons_zero, List.set_cons_succ])
  (refine held_skipA 7 (by rfl) (by kernel_rfl) (fun _ _ _ h => h) hs2r ?_; try simp only [Act.put, List.setIfInBounds_toArray, List.set_cons_zero, List.set_cons_succ])
  (refine held_skipA 8 (by rfl) (by kernel_rfl) (fun _ _ _ h => h) hs2r ?_; try simp only [Act.put, List.setIfInBounds_toArray, List.set_cons_zero, List.set_cons_succ])
  (refine held_skipA 9 (by rfl) (by kernel_rfl) (fun _ _ _ h => h) hs2r ?_; try simp only [Act.put, List.setIfInBounds_toArray, List.set_cons_zero, List.set_cons_succ])
  (refine held_skipA 10 (by rfl) (by kernel_rfl) (fun _ _ _ h => h) hs2r ?_; try simp only [Act.put, List.setIfInBounds_toArray, List.set_cons_zero, List.set_cons_succ])
  (refine held_takeA 11 (by rfl) ?_ (by kernel_rfl) (fun _ _ _ h => h) hs2r ?_ ?_; rotate_left; (focus (intro wq hSw; have hrd : ∀ b o, b < w2.heap.size → wq.cell? ⟨b, o, none⟩ = w2.cell? ⟨b, o, none⟩ := (fun b o h => hSw.cell (p := ⟨b, o, none⟩) h); go_simp; try with_reducible rfl; done)); try simp only [Act.put, List.setIfInBounds_toArray, List.set_cons_zero, List.set_cons_succ])
  refine wpAnyH_done (by kernel_rfl) ?_ _
  try refine NoPanic.normal ?_
  have hB3 := hB2.drew
  have hq3 := hq.below (Below.refl w2.heap.size w2).drew hq.lt
  clear hB2 hq
  generalize w2.drew = w3 at *
  go_wp2_with (first | (refine wpList_store_blk rfl hq3 62 (.tmp 4) (.tmp 18) rfl rfl rfl rfl got_entry (by simp [Value.oneCell']) ?_; intro w4 hq4 hg4))
  try rw [Exit.noGoto_ret]
  refine bodyPost_ret (results_ct rfl _ rfl (load_blk hq4 Try.underlying62 rfl got_entry)) rfl ?_
  exact ⟨rfl, below_own hB3 hg4 hB3.size (by omega)⟩
set_option maxRecDepth 100000 in
set_option maxHeartbeats 2000000 in
theorem fDropNil (w : World)  (f : Flo) : Calls Try.prog 45 #[.pointer none, .agg #[.int .i64 f.pr, .int .u32 f.src, .int .u32 f.dst, .int .i64 f.sp, .int .i64 f.dp]] w fun en w' => en = .returned (.bool false) ∧ Below w.heap.size w w' := by
  have hB2 := (Below.refl w.heap.size w).alloc (Nat.le_refl _) (.cells #[.int .i64 f.pr, .int .u32 f.src, .int .u32 f.dst, .int .i64 f.sp, .int .i64 f.dp] 57)
  go_enter Try.func45, Try.ntmps45
  go_upto_region 1 with (fail)
  generalize w.alloc (.cells #[.int .i64 f.pr, .int .u32 f.src, .int .u32 f.dst, .int .i64 f.sp, .int .i64 f.dp] 57) = w2 at *
  -- region 1: 0 1C 2 3 4 5 6 7 8 9 10 11
  try refine wp_region_noPanic ?_
  have hs3r : Below w2.heap.size w2 w2.drew := (Below.refl _ _).drew
  refine wp_region_held_drew (S := fun w' => Below w2.heap.size w2 w') (by kernel_rfl) hs3r (fun _ => ?_)
  (refine held_takeA 0 (by rfl) ?_ (by kernel_rfl) (fun _ _ _ h => h) hs3r ?_ ?_; rotate_left; (focus (intro wq hSw; have hrd : ∀ b o, b < w2.heap.size → wq.cell? ⟨b, o, none⟩ = w2.cell? ⟨b, o, none⟩ := (fun b o h => hSw.cell (p := ⟨b, o, none⟩) h); go_simp; try with_reducible rfl; done)); try simp only [Act.put, List.setIfInBounds_toArray, List.set_cons_zero, List.set_cons_succ])
  refine held_callA 1 (by rfl) (by kernel_rfl) (by rfl) (fun KQ hKQ => ?_)
  go_simp
  refine (madeF_nil w2.drew).mono ?_
  rintro en w' ⟨rfl, rfl⟩
  have hs4r := (show Below w2.heap.size w2 w2.drew from (Below.refl _ _).drew)
  refine hKQ.out _ _ hs4r ?_
  clear hKQ KQ
  try simp only [Act.put, List.setIfInBounds_toArray, List.set_cons_zero, List.set_cons_succ]
  (refine held_takeA 2 (by rfl) ?_ (by kernel_rfl) (fun _ _ _ h => h) hs4r ?_ ?_; rotate_left; (focus (intro wq hSw; have hrd : ∀ b o, b < w2.heap.size → wq.cell? ⟨b, o, none⟩ = w2.cell? ⟨b, o, none⟩ := (fun b o h => hSw.cell (p := ⟨b, o, none⟩) h); go_simp; try with_reducible rfl; done)); try simp only [Act.put, List.setIfInBounds_toArray, List.set_cons_zero, List.set_cons_succ])
  (refine held_takeA 3 (by rfl) ?_ (by kernel_rfl) (fun _ _ _ h => h) hs4r ?_ ?_; rotate_left; (focus (intro wq hSw; have hrd : ∀ b o, b < w2.heap.size → wq.cell? ⟨b, o, none⟩ = w2.cell? ⟨b, o, none⟩ := (fun b o h => hSw.cell (p := ⟨b, o, none⟩) h); go_simp; try with_reducible rfl; done)); try simp only [Act.put, List.setIfInBounds_toArray, List.set_cons_zero, List.set_cons_succ])
  (refine held_skipA 4 (by rfl) (by kernel_rfl) (fun _ _ _ h => h) hs4r ?_; try simp only [Act.put, List.setIfInBounds_toArray, List.set_cons_zero, List.set_cons_succ])
  (refine held_skipA 5 (by rfl) (by kernel_rfl) (fun _ _ _ h => h) hs4r ?_; try simp only [Act.put, List.setIfInBounds_toArray, List.set_cons_zero, List.set_cons_succ])
  (refine held_skipA 6 (by rfl) (by kernel_rfl) (fun _ _ _ h => h) hs4r ?_; try simp only [Act.put, List.setIfInBounds_toArray, List.set_cons_zero, List.set_cons_succ])
  (refine held_skipA 7 (by rfl) (by kernel_rfl) (fun _ _ _ h => h) hs4r ?_; try simp only [Act.put, List.setIfInBounds_toArray, List.set_cons_zero, List.set_cons_succ])
  (refine held_skipA 8 (by rfl) (by kernel_rfl) (fun _ _ _ h => h) hs4r ?_; try simp only [Act.put, List.setIfInBounds_toArray, List.set_cons_zero, List.set_cons_succ])
  (refine held_skipA 9 (by rfl) (by kernel_rfl) (fun _ _ _ h => h) hs4r ?_; try simp only [Act.put, List.setIfInBounds_toArray, List.set_cons_zero, List.set_cons_succ])
  (refine held_skipA 10 (by rfl) (by kernel_rfl) (fun _ _ _ h => h) hs4r ?_; try simp only [Act.put, List.setIfInBounds_toArray, List.set_cons_zero, List.set_cons_succ])
  (refine held_takeA 11 (by rfl) ?_ (by kernel_rfl) (fun _ _ _ h => h) hs4r ?_ ?_; rotate_left; (focus (intro wq hSw; have hrd : ∀ b o, b < w2.heap.size → wq.cell? ⟨b, o, none⟩ = w2.cell? ⟨b, o, none⟩ := (fun b o h => hSw.cell (p := ⟨b, o, none⟩) h); go_simp; try with_reducible rfl; done)); try simp only [Act.put, List.setIfInBounds_toArray, List.set_cons_zero, List.set_cons_succ])
  refine wpAnyH_done (by kernel_rfl) ?_ _
  try refine NoPanic.normal ?_
  go_wp2_with fail
  go_ret
  exact ⟨rfl, hB2.drew⟩
set_option maxRecDepth 100000 in
set_option maxHeartbeats 2000000 in
theorem fPutZero (w : World) (g : Nat) (h : Blk w g 76 zerC) (f : Flo) (b t : Int) : Calls Try.prog 40 #[.pointer (some ⟨g, 0, none⟩), .agg #[.int .i64 f.pr, .int .u32 f.src, .int .u32 f.dst, .int .i64 f.sp, .int .i64 f.dp], .int .i64 b, .int .i64 t] w fun en w' => en = .returned (.tuple #[enA ze, .bool false]) ∧ Below w.heap.size w w' := by
  have hB2 := ((Below.refl w.heap.size w).alloc (Nat.le_refl _) (.cells #[.int .i64 f.pr, .int .u32 f.src, .int .u32 f.dst, .int .i64 f.sp, .int .i64 f.dp] 57)).alloc (by simp) (.cells #[.int .i64 0, .int .u32 0, .int .u32 0, .int .i64 0, .int .i64 0, .int .i64 0, .int .i64 0] 62)
  have hq := Blk.new (w.alloc (.cells #[.int .i64 f.pr, .int .u32 f.src, .int .u32 f.dst, .int .i64 f.sp, .int .i64 f.dp] 57)) 62 #[.int .i64 0, .int .u32 0, .int .u32 0, .int .i64 0, .int .i64 0, .int .i64 0, .int .i64 0]
  have h2 := (h.alloc (.cells #[.int .i64 f.pr, .int .u32 f.src, .int .u32 f.dst, .int .i64 f.sp, .int .i64 f.dp] 57)).alloc (.cells #[.int .i64 0, .int .u32 0, .int .u32 0, .int .i64 0, .int .i64 0, .int .i64 0, .int .i64 0] 62)
  rw [show (w.alloc (.cells #[.int .i64 f.pr, .int .u32 f.src, .int .u32 f.dst, .int .i64 f.sp, .int .i64 f.dp] 57)).heap.size = w.heap.size + 1 by simp] at hq
  go_enter Try.func40, Try.ntmps40
  go_upto_region 1 with (fail)
  generalize (w.alloc (.cells #[.int .i64 f.pr, .int .u32 f.src, .int .u32 f.dst, .int .i64 f.sp, .int .i64 f.dp] 57)).alloc (.cells #[.int .i64 0, .int .u32 0, .int .u32 0, .int .i64 0, .int .i64 0, .int .i64 0, .int .i64 0] 62) = w2 at *
  have hB3 := hB2
  have hq3 := hq
  clear hB2 hq
  have hmd := madeF_zero w2 g h2
  generalize w2 = w3 at *
  go_wp2_with (first | (go_at_call 113; refine hmd.mono ?_; rintro en w' ⟨rfl, rfl⟩) | (refine wpList_store_blk rfl hq3 62 (.tmp 8) (.tmp 16) rfl rfl rfl rfl got_entry (by simp [Value.oneCell']) ?_; intro w4 hq4 hg4))
  try rw [Exit.noGoto_ret]
  refine bodyPost_ret (results_ct rfl _ rfl (load_blk hq4 Try.underlying62 rfl got_entry)) rfl ?_
  exact ⟨rfl, below_own hB3 hg4 hB3.size (by omega)⟩
set_option maxRecDepth 100000 in
set_option maxHeartbeats 2000000 in
theorem fPeekZero (w : World) (g : Nat) (h : Blk w g 76 zerC) (f : Flo) : Calls Try.prog 43 #[.pointer (some ⟨g, 0, none⟩), .agg #[.int .i64 f.pr, .int .u32 f.src, .int .u32 f.dst, .int .i64 f.sp, .int .i64 f.dp]] w fun en w' => en = .returned (.tuple #[enA ze, .bool false]) ∧ Below w.heap.size w w' := by
  have hB2 := ((Below.refl w.heap.size w).alloc (Nat.le_refl _) (.cells #[.int .i64 f.pr, .int .u32 f.src, .int .u32 f.dst, .int .i64 f.sp, .int .i64 f.dp] 57)).alloc (by simp) (.cells #[.int .i64 0, .int .u32 0, .int .u32 0, .int .i64 0, .int .i64 0, .int .i64 0, .int .i64 0] 62)
  have hq := Blk.new (w.alloc (.cells #[.int .i64 f.pr, .int .u32 f.src, .int .u32 f.dst, .int .i64 f.sp, .int .i64 f.dp] 57)) 62 #[.int .i64 0, .int .u32 0, .int .u32 0, .int .i64 0, .int .i64 0, .int .i64 0, .int .i64 0]
  have h2 := (h.alloc (.cells #[.int .i64 f.pr, .int .u32 f.src, .int .u32 f.dst, .int .i64 f.sp, .int .i64 f.dp] 57)).alloc (.cells #[.int .i64 0, .int .u32 0, .int .u32 0, .int .i64 0, .int .i64 0, .int .i64 0, .int .i64 0] 62)
  rw [show (w.alloc (.cells #[.int .i64 f.pr, .int .u32 f.src, .int .u32 f.dst, .int .i64 f.sp, .int .i64 f.dp] 57)).heap.size = w.heap.size + 1 by simp] at hq
  go_enter Try.func43, Try.ntmps43
  go_upto_region 1 with (fail)
  generalize (w.alloc (.cells #[.int .i64 f.pr, .int .u32 f.src, .int .u32 f.dst, .int .i64 f.sp, .int .i64 f.dp] 57)).alloc (.cells #[.int .i64 0, .int .u32 0, .int .u32 0, .int .i64 0, .int .i64 0, .int .i64 0, .int .i64 0] 62) = w2 at *
  -- region 1: 0 1C 2 3 4 5 6 7 8 9 10 11
  try refine wp_region_noPanic ?_
  have hs5r : Below w2.heap.size w2 w2.drew := (Below.refl _ _).drew
  refine wp_region_held_drew (S := fun w' => Below w2.heap.size w2 w') (by kernel_rfl) hs5r (fun _ => ?_)
  (refine held_takeA 0 (by rfl) ?_ (by kernel_rfl) (fun _ _ _ h => h) hs5r ?_ ?_; rotate_left; (focus (intro wq hSw; have hrd : ∀ b o, b < w2.heap.size → wq.cell? ⟨b, o, none⟩ = w2.cell? ⟨b, o, none⟩ := (fun b o h => hSw.cell (p := ⟨b, o, none⟩) h); go_simp; try with_reducible rfl; done)); try simp only [Act.put, List.setIfInBounds_toArray, List.set_cons_zero, List.set_cons_succ])
  refine held_callA 1 (by rfl) (by kernel_rfl) (by rfl) (fun KQ hKQ => ?_)
  go_simp
  refine (madeF_zero w2.drew g (h2.below (Below.refl w2.heap.size w2).drew h2.lt)).mono ?_
  rintro en w' ⟨rfl, rfl⟩
  have hs6r := (show Below w2.heap.size w2 w2.drew from (Below.refl _ _).drew)
  refine hKQ.out _ _ hs6r ?_
  clear hKQ KQ
  try simp only [Act.put, List.setIfInBounds_toArray, List.set_cons_zero, List.set_cons_succ]
  (refine held_takeA 2 (by rfl) ?_ (by kernel_rfl) (fun _ _ _ h => h) hs6r ?_ ?_; rotate_left; (focus (intro wq hSw; have hrd : ∀ b o, b < w2.heap.size → wq.cell? ⟨b, o, none⟩ = w2.cell? ⟨b, o, none⟩ := (fun b o h => hSw.cell (p := ⟨b, o, none⟩) h); go_simp; try with_reducible rfl; done)); try simp only [Act.put, List.setIfInBounds_toArray, List.set_cons_zero, List.set_cons_succ])
  (refine held_takeA 3 (by rfl) ?_ (by kernel_rfl) (fun _ _ _ h => h) hs6r ?_ ?_; rotate_left; (focus (intro wq hSw; have hrd : ∀ b o, b < w2.heap.size → wq.cell? ⟨b, o, none⟩ = w2.cell? ⟨b, o, none⟩ := (fun b o h => hSw.cell (p := ⟨b, o, none⟩) h); go_simp; try with_reducible rfl; done)); try simp only [Act.put, List.setIfInBounds_toArray, List.set_cons_zero, List.set_cons_succ])
  (refine held_skipA 4 (by rfl) (by kernel_rfl) (fun _ _ _ h => h) hs6r ?_; try simp only [Act.put, List.setIfInBounds_toArray, List.set_cons_zero, List.set_cons_succ])
  (refine held_skipA 5 (by rfl) (by kernel_rfl) (fun _ _ _ h => h) hs6r ?_; try simp only [Act.put, List.setIfInBounds_toArray, List.set_cons_zero, List.set_cons_succ])
  (refine held_skipA 6 (by rfl) (by kernel_rfl) (fun _ _ _ h => h) hs6r ?_; try simp only [Act.put, List.setIfInBounds_toArray, List.set_cons_zero, List.set_cons_succ])
  (refine held_skipA 7 (by rfl) (by kernel_rfl) (fun _ _ _ h => h) hs6r ?_; try simp only [Act.put, List.setIfInBounds_toArray, List.set_cons_zero, List.set_cons_succ])
  (refine held_skipA 8 (by rfl) (by kernel_rfl) (fun _ _ _ h => h) hs6r ?_; try simp only [Act.put, List.setIfInBounds_toArray, List.set_cons_zero, List.set_cons_succ])
  (refine held_skipA 9 (by rfl) (by kernel_rfl) (fun _ _ _ h => h) hs6r ?_; try simp only [Act.put, List.setIfInBounds_toArray, List.set_cons_zero, List.set_cons_succ])
  (refine held_skipA 10 (by rfl) (by kernel_rfl) (fun _ _ _ h => h) hs6r ?_; try simp only [Act.put, List.setIfInBounds_toArray, List.set_cons_zero, List.set_cons_succ])
  (refine held_takeA 11 (by rfl) ?_ (by kernel_rfl) (fun _ _ _ h => h) hs6r ?_ ?_; rotate_left; (focus (intro wq hSw; have hrd : ∀ b o, b < w2.heap.size → wq.cell? ⟨b, o, none⟩ = w2.cell? ⟨b, o, none⟩ := (fun b o h => hSw.cell (p := ⟨b, o, none⟩) h); go_simp; try with_reducible rfl; done)); try simp only [Act.put, List.setIfInBounds_toArray, List.set_cons_zero, List.set_cons_succ])
  refine wpAnyH_done (by kernel_rfl) ?_ _
  try refine NoPanic.normal ?_
  have hB3 := hB2.drew
  have hq3 := hq.below (Below.refl w2.heap.size w2).drew hq.lt
  clear hB2 hq
  generalize w2.drew = w3 at *
  go_wp2_with (first | (refine wpList_store_blk rfl hq3 62 (.tmp 4) (.tmp 18) rfl rfl rfl rfl got_entry (by simp [Value.oneCell']) ?_; intro w4 hq4 hg4))
  try rw [Exit.noGoto_ret]
  refine bodyPost_ret (results_ct rfl _ rfl (load_blk hq4 Try.underlying62 rfl got_entry)) rfl ?_
  exact ⟨rfl, below_own hB3 hg4 hB3.size (by omega)⟩
set_option maxRecDepth 100000 in
set_option maxHeartbeats 2000000 in
theorem fDropZero (w : World) (g : Nat) (h : Blk w g 76 zerC) (f : Flo) : Calls Try.prog 45 #[.pointer (some ⟨g, 0, none⟩), .agg #[.int .i64 f.pr, .int .u32 f.src, .int .u32 f.dst, .int .i64 f.sp, .int .i64 f.dp]] w fun en w' => en = .returned (.bool false) ∧ Below w.heap.size w w' := by
  have hB2 := (Below.refl w.heap.size w).alloc (Nat.le_refl _) (.cells #[.int .i64 f.pr, .int .u32 f.src, .int .u32 f.dst, .int .i64 f.sp, .int .i64 f.dp] 57)
  have h2 := h.alloc (.cells #[.int .i64 f.pr, .int .u32 f.src, .int .u32 f.dst, .int .i64 f.sp, .int .i64 f.dp] 57)
  go_enter Try.func45, Try.ntmps45
  go_upto_region 1 with (fail)
  generalize w.alloc (.cells #[.int .i64 f.pr, .int .u32 f.src, .int .u32 f.dst, .int .i64 f.sp, .int .i64 f.dp] 57) = w2 at *
  -- region 1: 0 1C 2 3 4 5 6 7 8 9 10 11
  try refine wp_region_noPanic ?_
  have hs7r : Below w2.heap.size w2 w2.drew := (Below.refl _ _).drew
  refine wp_region_held_drew (S := fun w' => Below w2.heap.size w2 w') (by kernel_rfl) hs7r (fun _ => ?_)
  (refine held_takeA 0 (by rfl) ?_ (by kernel_rfl) (fun _ _ _ h => h) hs7r ?_ ?_; rotate_left; (focus (intro wq hSw; have hrd : ∀ b o, b < w2.heap.size → wq.cell? ⟨b, o, none⟩ = w2.cell? ⟨b, o, none⟩ := (fun b o h => hSw.cell (p := ⟨b, o, none⟩) h); go_simp; try with_reducible rfl; done)); try simp only [Act.put, List.setIfInBounds_toArray, List.set_cons_zero, List.set_cons_succ])
  refine held_callA 1 (by rfl) (by kernel_rfl) (by rfl) (fun KQ hKQ => ?_)
  go_simp
  refine (madeF_zero w2.drew g (h2.below (Below.refl w2.heap.size w2).drew h2.lt)).mono ?_
  rintro en w' ⟨rfl, rfl⟩
  have hs8r := (show Below w2.heap.size w2 w2.drew from (Below.refl _ _).drew)
  refine hKQ.out _ _ hs8r ?_
  clear hKQ KQ
  try simp only [Act.put, List.setIfInBounds_toArray, List.set_cons_zero, List.set_cons_succ]
  (refine held_takeA 2 (by rfl) ?_ (by kernel_rfl) (fun _ _ _ h => h) hs8r ?_ ?_; rotate_left; (focus (intro wq hSw; have hrd : ∀ b o, b < w2.heap.size → wq.cell? ⟨b, o, none⟩ = w2.cell? ⟨b, o, none⟩ := (fun b o h => hSw.cell (p := ⟨b, o, none⟩) h); go_simp; try with_reducible rfl; done)); try simp only [Act.put, List.setIfInBounds_toArray, List.set_cons_zero, List.set_cons_succ])
  (refine held_takeA 3 (by rfl) ?_ (by kernel_rfl) (fun _ _ _ h => h) hs8r ?_ ?_; rotate_left; (focus (intro wq hSw; have hrd : ∀ b o, b < w2.heap.size → wq.cell? ⟨b, o, none⟩ = w2.cell? ⟨b, o, none⟩ := (fun b o h => hSw.cell (p := ⟨b, o, none⟩) h); go_simp; try with_reducible rfl; done)); try simp only [Act.put, List.setIfInBounds_toArray, List.set_cons_zero, List.set_cons_succ])
  (refine held_skipA 4 (by rfl) (by kernel_rfl) (fun _ _ _ h => h) hs8r ?_; try simp only [Act.put, List.setIfInBounds_toArray, List.set_cons_zero, List.set_cons_succ])
  (refine held_skipA 5 (by rfl) (by kernel_rfl) (fun _ _ _ h => h) hs8r ?_; try simp only [Act.put, List.setIfInBounds_toArray, List.set_cons_zero, List.set_cons_succ])
  (refine held_skipA 6 (by rfl) (by kernel_rfl) (fun _ _ _ h => h) hs8r ?_; try simp only [Act.put, List.setIfInBounds_toArray, List.set_cons_zero, List.set_cons_succ])
  (refine held_skipA 7 (by rfl) (by kernel_rfl) (fun _ _ _ h => h) hs8r ?_; try simp only [Act.put, List.setIfInBounds_toArray, List.set_cons_zero, List.set_cons_succ])
  (refine held_skipA 8 (by rfl) (by kernel_rfl) (fun _ _ _ h => h) hs8r ?_; try simp only [Act.put, List.setIfInBounds_toArray, List.set_cons_zero, List.set_cons_succ])
  (refine held_skipA 9 (by rfl) (by kernel_rfl) (fun _ _ _ h => h) hs8r ?_; try simp only [Act.put, List.setIfInBounds_toArray, List.set_cons_zero, List.set_cons_succ])
  (refine held_skipA 10 (by rfl) (by kernel_rfl) (fun _ _ _ h => h) hs8r ?_; try simp only [Act.put, List.setIfInBounds_toArray, List.set_cons_zero, List.set_cons_succ])
  (refine held_takeA 11 (by rfl) ?_ (by kernel_rfl) (fun _ _ _ h => h) hs8r ?_ ?_; rotate_left; (focus (intro wq hSw; have hrd : ∀ b o, b < w2.heap.size → wq.cell? ⟨b, o, none⟩ = w2.cell? ⟨b, o, none⟩ := (fun b o h => hSw.cell (p := ⟨b, o, none⟩) h); go_simp; try with_reducible rfl; done)); try simp only [Act.put, List.setIfInBounds_toArray, List.set_cons_zero, List.set_cons_succ])
  refine wpAnyH_done (by kernel_rfl) ?_ _
  try refine NoPanic.normal ?_
  go_wp2_with fail
  go_ret
  exact ⟨rfl, hB2.drew⟩
end Go.Proofs.Ytejgekoinbdhjaa
