/- pool: Get, Up, Draining; a pool that no call made. -/
import Derived.Test.YtejgekoinbdhjaaPoF
namespace Go.Proofs.Ytejgekoinbdhjaa
set_option linter.unusedVariables false
open Go Go.RowKit Go.Maps

theorem got5 : (Try.prog.info? 157).map (·.size) = some 5 := by kernel_rfl
theorem got3 : (Try.prog.info? 26).map (·.size) = some 3 := by kernel_rfl
set_option maxRecDepth 100000 in
set_option maxHeartbeats 1000000 in
theorem getNil (w : World) (id : Int) : Calls Try.prog 86 #[.pointer none, .int .i64 id] w fun e w' => e = .returned (.tuple #[.agg #[.int .i64 0, .int .u32 0, .int .i64 0, .bool false, .bool false], .bool false]) ∧ Below w.heap.size w w' := by
  have hB := (Below.refl w.heap.size w).alloc (Nat.le_refl _) (.cells #[.int .i64 0, .int .u32 0, .int .i64 0, .bool false, .bool false] 157)
  have hr := Blk.new w 157 #[.int .i64 0, .int .u32 0, .int .i64 0, .bool false, .bool false]
  go_enter Try.func86, Try.ntmps86
  go_upto_region 1 with (fail)
  generalize w.alloc (.cells #[.int .i64 0, .int .u32 0, .int .i64 0, .bool false, .bool false] 157) = w1 at *
  go_wp2_with (first
    | (go_at_call 87; refine ((made_nil _)).mono ?_; rintro e w' ⟨rfl, rfl⟩)
    | (refine wpList_store_blk rfl hr 157 (.tmp 4) (.tmp 11) rfl rfl rfl rfl got5 (by simp [Value.oneCell']) ?_; intro w3 hr3 hg3))
  try rw [Exit.noGoto_ret]
  refine bodyPost_ret (results_ct rfl _ rfl (load_blk hr3 Try.underlying157 rfl got5)) rfl ?_
  exact ⟨rfl, below_own hB hg3 hB.size (Nat.le_refl _)⟩
set_option maxRecDepth 100000 in
set_option maxHeartbeats 1000000 in
theorem getZero (w : World) (g : Nat) (pc : Int) (h : Blk w g 31 #[.int .i64 pc, .map none]) (id : Int) : Calls Try.prog 86 #[.pointer (some ⟨g, 0, none⟩), .int .i64 id] w fun e w' => e = .returned (.tuple #[.agg #[.int .i64 0, .int .u32 0, .int .i64 0, .bool false, .bool false], .bool false]) ∧ Below w.heap.size w w' := by
  have hB := (Below.refl w.heap.size w).alloc (Nat.le_refl _) (.cells #[.int .i64 0, .int .u32 0, .int .i64 0, .bool false, .bool false] 157)
  have hr := Blk.new w 157 #[.int .i64 0, .int .u32 0, .int .i64 0, .bool false, .bool false]
  have h1 := h.alloc (.cells #[.int .i64 0, .int .u32 0, .int .i64 0, .bool false, .bool false] 157)
  go_enter Try.func86, Try.ntmps86
  go_upto_region 1 with (fail)
  generalize w.alloc (.cells #[.int .i64 0, .int .u32 0, .int .i64 0, .bool false, .bool false] 157) = w1 at *
  go_wp2_with (first
    | (go_at_call 87; refine ((made_zero _ g pc h1)).mono ?_; rintro e w' ⟨rfl, rfl⟩)
    | (refine wpList_store_blk rfl hr 157 (.tmp 4) (.tmp 11) rfl rfl rfl rfl got5 (by simp [Value.oneCell']) ?_; intro w3 hr3 hg3))
  try rw [Exit.noGoto_ret]
  refine bodyPost_ret (results_ct rfl _ rfl (load_blk hr3 Try.underlying157 rfl got5)) rfl ?_
  exact ⟨rfl, below_own hB hg3 hB.size (Nat.le_refl _)⟩
set_option maxRecDepth 100000 in
set_option maxHeartbeats 1000000 in
theorem getHit (w : World) (g b : Nat) (pc : Int) (M : List Mem) (h : PoolIn w g b pc M) (m : Mem) (hm : m ∈ M) (r0 : -9223372036854775808 ≤ m.id) (r1 : m.id ≤ 9223372036854775807) : Calls Try.prog 86 #[.pointer (some ⟨g, 0, none⟩), .int .i64 m.id] w fun e w' => e = .returned (.tuple #[.agg #[.int .i64 m.id, .int .u32 m.ad, .int .i64 m.wt, .bool m.up, .bool m.dr], .bool true]) ∧ Below w.heap.size w w' := by
  have hB := (Below.refl w.heap.size w).alloc (Nat.le_refl _) (.cells #[.int .i64 0, .int .u32 0, .int .i64 0, .bool false, .bool false] 157)
  have hr := Blk.new w 157 #[.int .i64 0, .int .u32 0, .int .i64 0, .bool false, .bool false]
  have h1 := h.alloc (.cells #[.int .i64 0, .int .u32 0, .int .i64 0, .bool false, .bool false] 157)
  go_enter Try.func86, Try.ntmps86
  go_upto_region 1 with (fail)
  generalize w.alloc (.cells #[.int .i64 0, .int .u32 0, .int .i64 0, .bool false, .bool false] 157) = w1 at *
  have c1 : w1.cell? ⟨g, 1, none⟩ = some (.map (some b)) := h1.1.cellv 1 rfl
  have hlk := h1.2.hit1 int_key map_und (int_lit m.id r0 r1) (is_id hm)
  simp only [memC] at hlk
  have ltr := hr.lt
  have hB2 := hB.alloc hB.size (.cells #[.int .i64 m.id, .int .u32 m.ad, .int .i64 m.wt, .bool m.up, .bool m.dr] 157)
  have hq := Blk.new w1 157 #[.int .i64 m.id, .int .u32 m.ad, .int .i64 m.wt, .bool m.up, .bool m.dr]
  have hr2 := hr.alloc (.cells #[.int .i64 m.id, .int .u32 m.ad, .int .i64 m.wt, .bool m.up, .bool m.dr] 157)
  go_upto_region 4 with (go_at_call 87; refine ((made_in h1)).mono ?_; rintro e w' ⟨rfl, rfl⟩)
  clear hlk
  generalize w1.alloc (.cells #[.int .i64 m.id, .int .u32 m.ad, .int .i64 m.wt, .bool m.up, .bool m.dr] 157) = w2 at *
  have q0 : w2.cell? ⟨w1.heap.size, 0, none⟩ = some ((#[.int .i64 m.id, .int .u32 m.ad, .int .i64 m.wt, .bool m.up, .bool m.dr] : Array Value)[0]) := hq.cellv 0 rfl
  have q1 : w2.cell? ⟨w1.heap.size, 1, none⟩ = some ((#[.int .i64 m.id, .int .u32 m.ad, .int .i64 m.wt, .bool m.up, .bool m.dr] : Array Value)[1]) := hq.cellv 1 rfl
  have q2 : w2.cell? ⟨w1.heap.size, 2, none⟩ = some ((#[.int .i64 m.id, .int .u32 m.ad, .int .i64 m.wt, .bool m.up, .bool m.dr] : Array Value)[2]) := hq.cellv 2 rfl
  have q3 : w2.cell? ⟨w1.heap.size, 3, none⟩ = some ((#[.int .i64 m.id, .int .u32 m.ad, .int .i64 m.wt, .bool m.up, .bool m.dr] : Array Value)[3]) := hq.cellv 3 rfl
  have q4 : w2.cell? ⟨w1.heap.size, 4, none⟩ = some ((#[.int .i64 m.id, .int .u32 m.ad, .int .i64 m.wt, .bool m.up, .bool m.dr] : Array Value)[4]) := hq.cellv 4 rfl
  simp at q0 q1 q2 q3 q4
  go_wp2_with (refine wpList_store_blk rfl hr2 157 (.tmp 4) (.tmp 21) rfl rfl rfl rfl got5 (by simp [Value.oneCell']) ?_; intro w3 hr3 hg3)
  try rw [Exit.noGoto_ret]
  refine bodyPost_ret (results_ct rfl _ rfl (load_blk hr3 Try.underlying157 rfl got5)) rfl ?_
  exact ⟨rfl, below_own hB2 hg3 hB2.size (Nat.le_refl _)⟩
set_option maxRecDepth 100000 in
set_option maxHeartbeats 1000000 in
theorem getMiss (w : World) (g b : Nat) (pc : Int) (M : List Mem) (h : PoolIn w g b pc M) (id : Int) (hnot : ∀ m ∈ M, m.id ≠ id) (r0 : -9223372036854775808 ≤ id) (r1 : id ≤ 9223372036854775807) : Calls Try.prog 86 #[.pointer (some ⟨g, 0, none⟩), .int .i64 id] w fun e w' => e = .returned (.tuple #[.agg #[.int .i64 0, .int .u32 0, .int .i64 0, .bool false, .bool false], .bool false]) ∧ Below w.heap.size w w' := by
  have hB := (Below.refl w.heap.size w).alloc (Nat.le_refl _) (.cells #[.int .i64 0, .int .u32 0, .int .i64 0, .bool false, .bool false] 157)
  have hr := Blk.new w 157 #[.int .i64 0, .int .u32 0, .int .i64 0, .bool false, .bool false]
  have h1 := h.alloc (.cells #[.int .i64 0, .int .u32 0, .int .i64 0, .bool false, .bool false] 157)
  go_enter Try.func86, Try.ntmps86
  go_upto_region 1 with (fail)
  generalize w.alloc (.cells #[.int .i64 0, .int .u32 0, .int .i64 0, .bool false, .bool false] 157) = w1 at *
  have c1 : w1.cell? ⟨g, 1, none⟩ = some (.map (some b)) := h1.1.cellv 1 rfl
  have hlk := h1.2.miss1 int_key map_und mem_zero (int_lit id r0 r1) (no_id hnot)
  skip
  have ltr := hr.lt
  have hB2 := hB.alloc hB.size (.cells #[.int .i64 0, .int .u32 0, .int .i64 0, .bool false, .bool false] 157)
  have hq := Blk.new w1 157 #[.int .i64 0, .int .u32 0, .int .i64 0, .bool false, .bool false]
  have hr2 := hr.alloc (.cells #[.int .i64 0, .int .u32 0, .int .i64 0, .bool false, .bool false] 157)
  go_upto_region 4 with (go_at_call 87; refine ((made_in h1)).mono ?_; rintro e w' ⟨rfl, rfl⟩)
  clear hlk
  generalize w1.alloc (.cells #[.int .i64 0, .int .u32 0, .int .i64 0, .bool false, .bool false] 157) = w2 at *
  have q0 : w2.cell? ⟨w1.heap.size, 0, none⟩ = some ((#[.int .i64 0, .int .u32 0, .int .i64 0, .bool false, .bool false] : Array Value)[0]) := hq.cellv 0 rfl
  have q1 : w2.cell? ⟨w1.heap.size, 1, none⟩ = some ((#[.int .i64 0, .int .u32 0, .int .i64 0, .bool false, .bool false] : Array Value)[1]) := hq.cellv 1 rfl
  have q2 : w2.cell? ⟨w1.heap.size, 2, none⟩ = some ((#[.int .i64 0, .int .u32 0, .int .i64 0, .bool false, .bool false] : Array Value)[2]) := hq.cellv 2 rfl
  have q3 : w2.cell? ⟨w1.heap.size, 3, none⟩ = some ((#[.int .i64 0, .int .u32 0, .int .i64 0, .bool false, .bool false] : Array Value)[3]) := hq.cellv 3 rfl
  have q4 : w2.cell? ⟨w1.heap.size, 4, none⟩ = some ((#[.int .i64 0, .int .u32 0, .int .i64 0, .bool false, .bool false] : Array Value)[4]) := hq.cellv 4 rfl
  simp at q0 q1 q2 q3 q4
  go_wp2_with (refine wpList_store_blk rfl hr2 157 (.tmp 4) (.tmp 21) rfl rfl rfl rfl got5 (by simp [Value.oneCell']) ?_; intro w3 hr3 hg3)
  try rw [Exit.noGoto_ret]
  refine bodyPost_ret (results_ct rfl _ rfl (load_blk hr3 Try.underlying157 rfl got5)) rfl ?_
  exact ⟨rfl, below_own hB2 hg3 hB2.size (Nat.le_refl _)⟩
set_option maxRecDepth 100000 in
set_option maxHeartbeats 1000000 in
theorem pGetNil (w : World) (id : Int) : Calls Try.prog 19 #[.pointer none, .int .i64 id] w fun e w' => e = .returned (.tuple #[.agg #[.int .i64 0, .int .u32 0, .int .i64 0], .bool false]) ∧ Below w.heap.size w w' := by
  have hB := (Below.refl w.heap.size w).alloc (Nat.le_refl _) (.cells #[.int .i64 0, .int .u32 0, .int .i64 0] 26)
  have hr := Blk.new w 26 #[.int .i64 0, .int .u32 0, .int .i64 0]
  go_enter Try.func19, Try.ntmps19
  go_upto_region 1 with (fail)
  generalize w.alloc (.cells #[.int .i64 0, .int .u32 0, .int .i64 0] 26) = w1 at *
  go_upto_region 2 with (go_at_call 86; refine (getNil w1 id).mono ?_; rintro e w2 ⟨rfl, hb⟩)
  have hB2 := hB.trans (hb.mono hB.size)
  have hB3 := hB2.alloc hB2.size (.cells #[.int .i64 0, .int .u32 0, .int .i64 0, .bool false, .bool false] 157)
  have hq := Blk.new w2 157 #[.int .i64 0, .int .u32 0, .int .i64 0, .bool false, .bool false]
  have hr2 := (hr.below hb hr.lt).alloc (.cells #[.int .i64 0, .int .u32 0, .int .i64 0, .bool false, .bool false] 157)
  generalize w2.alloc (.cells #[.int .i64 0, .int .u32 0, .int .i64 0, .bool false, .bool false] 157) = w3 at *
  have q0 : w3.cell? ⟨w2.heap.size, 0, none⟩ = some ((#[.int .i64 0, .int .u32 0, .int .i64 0, .bool false, .bool false] : Array Value)[0]) := hq.cellv 0 rfl
  have q1 : w3.cell? ⟨w2.heap.size, 1, none⟩ = some ((#[.int .i64 0, .int .u32 0, .int .i64 0, .bool false, .bool false] : Array Value)[1]) := hq.cellv 1 rfl
  have q2 : w3.cell? ⟨w2.heap.size, 2, none⟩ = some ((#[.int .i64 0, .int .u32 0, .int .i64 0, .bool false, .bool false] : Array Value)[2]) := hq.cellv 2 rfl
  simp at q0 q1 q2
  go_wp2_with (refine wpList_store_blk rfl hr2 26 (.tmp 4) (.tmp 15) rfl rfl rfl rfl got3 (by simp [Value.oneCell']) ?_; intro w4 hr4 hg4)
  try rw [Exit.noGoto_ret]
  refine bodyPost_ret (results_ct rfl _ rfl (load_blk hr4 Try.underlying26 rfl got3)) rfl ?_
  exact ⟨rfl, below_own hB3 hg4 hB3.size (Nat.le_refl _)⟩
set_option maxRecDepth 100000 in
set_option maxHeartbeats 1000000 in
theorem pUpNil (w : World) (id : Int) : Calls Try.prog 25 #[.pointer none, .int .i64 id] w fun e w' => e = .returned (.bool false) ∧ Below w.heap.size w w' := by
  go_enter Try.func25, Try.ntmps25
  go_upto_region 2 with (go_at_call 86; refine (getNil w id).mono ?_; rintro e w2 ⟨rfl, hb⟩)
  have hB3 := hb.alloc hb.size (.cells #[.int .i64 0, .int .u32 0, .int .i64 0, .bool false, .bool false] 157)
  have hq := Blk.new w2 157 #[.int .i64 0, .int .u32 0, .int .i64 0, .bool false, .bool false]
  generalize w2.alloc (.cells #[.int .i64 0, .int .u32 0, .int .i64 0, .bool false, .bool false] 157) = w3 at *
  have q0 : w3.cell? ⟨w2.heap.size, 3, none⟩ = some ((#[.int .i64 0, .int .u32 0, .int .i64 0, .bool false, .bool false] : Array Value)[3]) := hq.cellv 3 rfl
  simp at q0
  go_wp2_with fail
  go_ret
  exact ⟨rfl, hB3⟩
set_option maxRecDepth 100000 in
set_option maxHeartbeats 1000000 in
theorem pDrainingNil (w : World) (id : Int) : Calls Try.prog 26 #[.pointer none, .int .i64 id] w fun e w' => e = .returned (.bool false) ∧ Below w.heap.size w w' := by
  go_enter Try.func26, Try.ntmps26
  go_upto_region 2 with (go_at_call 86; refine (getNil w id).mono ?_; rintro e w2 ⟨rfl, hb⟩)
  have hB3 := hb.alloc hb.size (.cells #[.int .i64 0, .int .u32 0, .int .i64 0, .bool false, .bool false] 157)
  have hq := Blk.new w2 157 #[.int .i64 0, .int .u32 0, .int .i64 0, .bool false, .bool false]
  generalize w2.alloc (.cells #[.int .i64 0, .int .u32 0, .int .i64 0, .bool false, .bool false] 157) = w3 at *
  have q0 : w3.cell? ⟨w2.heap.size, 4, none⟩ = some ((#[.int .i64 0, .int .u32 0, .int .i64 0, .bool false, .bool false] : Array Value)[4]) := hq.cellv 4 rfl
  simp at q0
  go_wp2_with fail
  go_ret
  exact ⟨rfl, hB3⟩
set_option maxRecDepth 100000 in
set_option maxHeartbeats 1000000 in
theorem pGetZero (w : World) (g : Nat) (pc : Int) (h : Blk w g 31 #[.int .i64 pc, .map none]) (id : Int) : Calls Try.prog 19 #[.pointer (some ⟨g, 0, none⟩), .int .i64 id] w fun e w' => e = .returned (.tuple #[.agg #[.int .i64 0, .int .u32 0, .int .i64 0], .bool false]) ∧ Below w.heap.size w w' := by
  have hB := (Below.refl w.heap.size w).alloc (Nat.le_refl _) (.cells #[.int .i64 0, .int .u32 0, .int .i64 0] 26)
  have hr := Blk.new w 26 #[.int .i64 0, .int .u32 0, .int .i64 0]
  have h1 := h.alloc (.cells #[.int .i64 0, .int .u32 0, .int .i64 0] 26)
  go_enter Try.func19, Try.ntmps19
  go_upto_region 1 with (fail)
  generalize w.alloc (.cells #[.int .i64 0, .int .u32 0, .int .i64 0] 26) = w1 at *
  go_upto_region 2 with (go_at_call 86; refine (getZero w1 g pc h1 id).mono ?_; rintro e w2 ⟨rfl, hb⟩)
  have hB2 := hB.trans (hb.mono hB.size)
  have hB3 := hB2.alloc hB2.size (.cells #[.int .i64 0, .int .u32 0, .int .i64 0, .bool false, .bool false] 157)
  have hq := Blk.new w2 157 #[.int .i64 0, .int .u32 0, .int .i64 0, .bool false, .bool false]
  have hr2 := (hr.below hb hr.lt).alloc (.cells #[.int .i64 0, .int .u32 0, .int .i64 0, .bool false, .bool false] 157)
  generalize w2.alloc (.cells #[.int .i64 0, .int .u32 0, .int .i64 0, .bool false, .bool false] 157) = w3 at *
  have q0 : w3.cell? ⟨w2.heap.size, 0, none⟩ = some ((#[.int .i64 0, .int .u32 0, .int .i64 0, .bool false, .bool false] : Array Value)[0]) := hq.cellv 0 rfl
  have q1 : w3.cell? ⟨w2.heap.size, 1, none⟩ = some ((#[.int .i64 0, .int .u32 0, .int .i64 0, .bool false, .bool false] : Array Value)[1]) := hq.cellv 1 rfl
  have q2 : w3.cell? ⟨w2.heap.size, 2, none⟩ = some ((#[.int .i64 0, .int .u32 0, .int .i64 0, .bool false, .bool false] : Array Value)[2]) := hq.cellv 2 rfl
  simp at q0 q1 q2
  go_wp2_with (refine wpList_store_blk rfl hr2 26 (.tmp 4) (.tmp 15) rfl rfl rfl rfl got3 (by simp [Value.oneCell']) ?_; intro w4 hr4 hg4)
  try rw [Exit.noGoto_ret]
  refine bodyPost_ret (results_ct rfl _ rfl (load_blk hr4 Try.underlying26 rfl got3)) rfl ?_
  exact ⟨rfl, below_own hB3 hg4 hB3.size (Nat.le_refl _)⟩
set_option maxRecDepth 100000 in
set_option maxHeartbeats 1000000 in
theorem pUpZero (w : World) (g : Nat) (pc : Int) (h : Blk w g 31 #[.int .i64 pc, .map none]) (id : Int) : Calls Try.prog 25 #[.pointer (some ⟨g, 0, none⟩), .int .i64 id] w fun e w' => e = .returned (.bool false) ∧ Below w.heap.size w w' := by
  go_enter Try.func25, Try.ntmps25
  go_upto_region 2 with (go_at_call 86; refine (getZero w g pc h id).mono ?_; rintro e w2 ⟨rfl, hb⟩)
  have hB3 := hb.alloc hb.size (.cells #[.int .i64 0, .int .u32 0, .int .i64 0, .bool false, .bool false] 157)
  have hq := Blk.new w2 157 #[.int .i64 0, .int .u32 0, .int .i64 0, .bool false, .bool false]
  generalize w2.alloc (.cells #[.int .i64 0, .int .u32 0, .int .i64 0, .bool false, .bool false] 157) = w3 at *
  have q0 : w3.cell? ⟨w2.heap.size, 3, none⟩ = some ((#[.int .i64 0, .int .u32 0, .int .i64 0, .bool false, .bool false] : Array Value)[3]) := hq.cellv 3 rfl
  simp at q0
  go_wp2_with fail
  go_ret
  exact ⟨rfl, hB3⟩
set_option maxRecDepth 100000 in
set_option maxHeartbeats 1000000 in
theorem pDrainingZero (w : World) (g : Nat) (pc : Int) (h : Blk w g 31 #[.int .i64 pc, .map none]) (id : Int) : Calls Try.prog 26 #[.pointer (some ⟨g, 0, none⟩), .int .i64 id] w fun e w' => e = .returned (.bool false) ∧ Below w.heap.size w w' := by
  go_enter Try.func26, Try.ntmps26
  go_upto_region 2 with (go_at_call 86; refine (getZero w g pc h id).mono ?_; rintro e w2 ⟨rfl, hb⟩)
  have hB3 := hb.alloc hb.size (.cells #[.int .i64 0, .int .u32 0, .int .i64 0, .bool false, .bool false] 157)
  have hq := Blk.new w2 157 #[.int .i64 0, .int .u32 0, .int .i64 0, .bool false, .bool false]
  generalize w2.alloc (.cells #[.int .i64 0, .int .u32 0, .int .i64 0, .bool false, .bool false] 157) = w3 at *
  have q0 : w3.cell? ⟨w2.heap.size, 4, none⟩ = some ((#[.int .i64 0, .int .u32 0, .int .i64 0, .bool false, .bool false] : Array Value)[4]) := hq.cellv 4 rfl
  simp at q0
  go_wp2_with fail
  go_ret
  exact ⟨rfl, hB3⟩
set_option maxRecDepth 100000 in
set_option maxHeartbeats 1000000 in
theorem pGetHit (w : World) (g b : Nat) (pc : Int) (M : List Mem) (h : PoolIn w g b pc M) (m : Mem) (hm : m ∈ M) (r0 : -9223372036854775808 ≤ m.id) (r1 : m.id ≤ 9223372036854775807) : Calls Try.prog 19 #[.pointer (some ⟨g, 0, none⟩), .int .i64 m.id] w fun e w' => e = .returned (.tuple #[.agg #[.int .i64 m.id, .int .u32 m.ad, .int .i64 m.wt], .bool true]) ∧ Below w.heap.size w w' := by
  have hB := (Below.refl w.heap.size w).alloc (Nat.le_refl _) (.cells #[.int .i64 0, .int .u32 0, .int .i64 0] 26)
  have hr := Blk.new w 26 #[.int .i64 0, .int .u32 0, .int .i64 0]
  have h1 := h.alloc (.cells #[.int .i64 0, .int .u32 0, .int .i64 0] 26)
  go_enter Try.func19, Try.ntmps19
  go_upto_region 1 with (fail)
  generalize w.alloc (.cells #[.int .i64 0, .int .u32 0, .int .i64 0] 26) = w1 at *
  go_upto_region 2 with (go_at_call 86; refine (getHit w1 g b pc M h1 m hm r0 r1).mono ?_; rintro e w2 ⟨rfl, hb⟩)
  have hB2 := hB.trans (hb.mono hB.size)
  have hB3 := hB2.alloc hB2.size (.cells #[.int .i64 m.id, .int .u32 m.ad, .int .i64 m.wt, .bool m.up, .bool m.dr] 157)
  have hq := Blk.new w2 157 #[.int .i64 m.id, .int .u32 m.ad, .int .i64 m.wt, .bool m.up, .bool m.dr]
  have hr2 := (hr.below hb hr.lt).alloc (.cells #[.int .i64 m.id, .int .u32 m.ad, .int .i64 m.wt, .bool m.up, .bool m.dr] 157)
  generalize w2.alloc (.cells #[.int .i64 m.id, .int .u32 m.ad, .int .i64 m.wt, .bool m.up, .bool m.dr] 157) = w3 at *
  have q0 : w3.cell? ⟨w2.heap.size, 0, none⟩ = some ((#[.int .i64 m.id, .int .u32 m.ad, .int .i64 m.wt, .bool m.up, .bool m.dr] : Array Value)[0]) := hq.cellv 0 rfl
  have q1 : w3.cell? ⟨w2.heap.size, 1, none⟩ = some ((#[.int .i64 m.id, .int .u32 m.ad, .int .i64 m.wt, .bool m.up, .bool m.dr] : Array Value)[1]) := hq.cellv 1 rfl
  have q2 : w3.cell? ⟨w2.heap.size, 2, none⟩ = some ((#[.int .i64 m.id, .int .u32 m.ad, .int .i64 m.wt, .bool m.up, .bool m.dr] : Array Value)[2]) := hq.cellv 2 rfl
  simp at q0 q1 q2
  go_wp2_with (refine wpList_store_blk rfl hr2 26 (.tmp 4) (.tmp 15) rfl rfl rfl rfl got3 (by simp [Value.oneCell']) ?_; intro w4 hr4 hg4)
  try rw [Exit.noGoto_ret]
  refine bodyPost_ret (results_ct rfl _ rfl (load_blk hr4 Try.underlying26 rfl got3)) rfl ?_
  exact ⟨rfl, below_own hB3 hg4 hB3.size (Nat.le_refl _)⟩
set_option maxRecDepth 100000 in
set_option maxHeartbeats 1000000 in
theorem pUpHit (w : World) (g b : Nat) (pc : Int) (M : List Mem) (h : PoolIn w g b pc M) (m : Mem) (hm : m ∈ M) (r0 : -9223372036854775808 ≤ m.id) (r1 : m.id ≤ 9223372036854775807) : Calls Try.prog 25 #[.pointer (some ⟨g, 0, none⟩), .int .i64 m.id] w fun e w' => e = .returned (.bool m.up) ∧ Below w.heap.size w w' := by
  go_enter Try.func25, Try.ntmps25
  go_upto_region 2 with (go_at_call 86; refine (getHit w g b pc M h m hm r0 r1).mono ?_; rintro e w2 ⟨rfl, hb⟩)
  have hB3 := hb.alloc hb.size (.cells #[.int .i64 m.id, .int .u32 m.ad, .int .i64 m.wt, .bool m.up, .bool m.dr] 157)
  have hq := Blk.new w2 157 #[.int .i64 m.id, .int .u32 m.ad, .int .i64 m.wt, .bool m.up, .bool m.dr]
  generalize w2.alloc (.cells #[.int .i64 m.id, .int .u32 m.ad, .int .i64 m.wt, .bool m.up, .bool m.dr] 157) = w3 at *
  have q0 : w3.cell? ⟨w2.heap.size, 3, none⟩ = some ((#[.int .i64 m.id, .int .u32 m.ad, .int .i64 m.wt, .bool m.up, .bool m.dr] : Array Value)[3]) := hq.cellv 3 rfl
  simp at q0
  go_wp2_with fail
  go_ret
  exact ⟨rfl, hB3⟩
set_option maxRecDepth 100000 in
set_option maxHeartbeats 1000000 in
theorem pDrainingHit (w : World) (g b : Nat) (pc : Int) (M : List Mem) (h : PoolIn w g b pc M) (m : Mem) (hm : m ∈ M) (r0 : -9223372036854775808 ≤ m.id) (r1 : m.id ≤ 9223372036854775807) : Calls Try.prog 26 #[.pointer (some ⟨g, 0, none⟩), .int .i64 m.id] w fun e w' => e = .returned (.bool m.dr) ∧ Below w.heap.size w w' := by
  go_enter Try.func26, Try.ntmps26
  go_upto_region 2 with (go_at_call 86; refine (getHit w g b pc M h m hm r0 r1).mono ?_; rintro e w2 ⟨rfl, hb⟩)
  have hB3 := hb.alloc hb.size (.cells #[.int .i64 m.id, .int .u32 m.ad, .int .i64 m.wt, .bool m.up, .bool m.dr] 157)
  have hq := Blk.new w2 157 #[.int .i64 m.id, .int .u32 m.ad, .int .i64 m.wt, .bool m.up, .bool m.dr]
  generalize w2.alloc (.cells #[.int .i64 m.id, .int .u32 m.ad, .int .i64 m.wt, .bool m.up, .bool m.dr] 157) = w3 at *
  have q0 : w3.cell? ⟨w2.heap.size, 4, none⟩ = some ((#[.int .i64 m.id, .int .u32 m.ad, .int .i64 m.wt, .bool m.up, .bool m.dr] : Array Value)[4]) := hq.cellv 4 rfl
  simp at q0
  go_wp2_with fail
  go_ret
  exact ⟨rfl, hB3⟩
set_option maxRecDepth 100000 in
set_option maxHeartbeats 1000000 in
theorem pGetMiss (w : World) (g b : Nat) (pc : Int) (M : List Mem) (h : PoolIn w g b pc M) (id : Int) (hnot : ∀ m ∈ M, m.id ≠ id) (r0 : -9223372036854775808 ≤ id) (r1 : id ≤ 9223372036854775807) : Calls Try.prog 19 #[.pointer (some ⟨g, 0, none⟩), .int .i64 id] w fun e w' => e = .returned (.tuple #[.agg #[.int .i64 0, .int .u32 0, .int .i64 0], .bool false]) ∧ Below w.heap.size w w' := by
  have hB := (Below.refl w.heap.size w).alloc (Nat.le_refl _) (.cells #[.int .i64 0, .int .u32 0, .int .i64 0] 26)
  have hr := Blk.new w 26 #[.int .i64 0, .int .u32 0, .int .i64 0]
  have h1 := h.alloc (.cells #[.int .i64 0, .int .u32 0, .int .i64 0] 26)
  go_enter Try.func19, Try.ntmps19
  go_upto_region 1 with (fail)
  generalize w.alloc (.cells #[.int .i64 0, .int .u32 0, .int .i64 0] 26) = w1 at *
  go_upto_region 2 with (go_at_call 86; refine (getMiss w1 g b pc M h1 id hnot r0 r1).mono ?_; rintro e w2 ⟨rfl, hb⟩)
  have hB2 := hB.trans (hb.mono hB.size)
  have hB3 := hB2.alloc hB2.size (.cells #[.int .i64 0, .int .u32 0, .int .i64 0, .bool false, .bool false] 157)
  have hq := Blk.new w2 157 #[.int .i64 0, .int .u32 0, .int .i64 0, .bool false, .bool false]
  have hr2 := (hr.below hb hr.lt).alloc (.cells #[.int .i64 0, .int .u32 0, .int .i64 0, .bool false, .bool false] 157)
  generalize w2.alloc (.cells #[.int .i64 0, .int .u32 0, .int .i64 0, .bool false, .bool false] 157) = w3 at *
  have q0 : w3.cell? ⟨w2.heap.size, 0, none⟩ = some ((#[.int .i64 0, .int .u32 0, .int .i64 0, .bool false, .bool false] : Array Value)[0]) := hq.cellv 0 rfl
  have q1 : w3.cell? ⟨w2.heap.size, 1, none⟩ = some ((#[.int .i64 0, .int .u32 0, .int .i64 0, .bool false, .bool false] : Array Value)[1]) := hq.cellv 1 rfl
  have q2 : w3.cell? ⟨w2.heap.size, 2, none⟩ = some ((#[.int .i64 0, .int .u32 0, .int .i64 0, .bool false, .bool false] : Array Value)[2]) := hq.cellv 2 rfl
  simp at q0 q1 q2
  go_wp2_with (refine wpList_store_blk rfl hr2 26 (.tmp 4) (.tmp 15) rfl rfl rfl rfl got3 (by simp [Value.oneCell']) ?_; intro w4 hr4 hg4)
  try rw [Exit.noGoto_ret]
  refine bodyPost_ret (results_ct rfl _ rfl (load_blk hr4 Try.underlying26 rfl got3)) rfl ?_
  exact ⟨rfl, below_own hB3 hg4 hB3.size (Nat.le_refl _)⟩
set_option maxRecDepth 100000 in
set_option maxHeartbeats 1000000 in
theorem pUpMiss (w : World) (g b : Nat) (pc : Int) (M : List Mem) (h : PoolIn w g b pc M) (id : Int) (hnot : ∀ m ∈ M, m.id ≠ id) (r0 : -9223372036854775808 ≤ id) (r1 : id ≤ 9223372036854775807) : Calls Try.prog 25 #[.pointer (some ⟨g, 0, none⟩), .int .i64 id] w fun e w' => e = .returned (.bool false) ∧ Below w.heap.size w w' := by
  go_enter Try.func25, Try.ntmps25
  go_upto_region 2 with (go_at_call 86; refine (getMiss w g b pc M h id hnot r0 r1).mono ?_; rintro e w2 ⟨rfl, hb⟩)
  have hB3 := hb.alloc hb.size (.cells #[.int .i64 0, .int .u32 0, .int .i64 0, .bool false, .bool false] 157)
  have hq := Blk.new w2 157 #[.int .i64 0, .int .u32 0, .int .i64 0, .bool false, .bool false]
  generalize w2.alloc (.cells #[.int .i64 0, .int .u32 0, .int .i64 0, .bool false, .bool false] 157) = w3 at *
  have q0 : w3.cell? ⟨w2.heap.size, 3, none⟩ = some ((#[.int .i64 0, .int .u32 0, .int .i64 0, .bool false, .bool false] : Array Value)[3]) := hq.cellv 3 rfl
  simp at q0
  go_wp2_with fail
  go_ret
  exact ⟨rfl, hB3⟩
set_option maxRecDepth 100000 in
set_option maxHeartbeats 1000000 in
theorem pDrainingMiss (w : World) (g b : Nat) (pc : Int) (M : List Mem) (h : PoolIn w g b pc M) (id : Int) (hnot : ∀ m ∈ M, m.id ≠ id) (r0 : -9223372036854775808 ≤ id) (r1 : id ≤ 9223372036854775807) : Calls Try.prog 26 #[.pointer (some ⟨g, 0, none⟩), .int .i64 id] w fun e w' => e = .returned (.bool false) ∧ Below w.heap.size w w' := by
  go_enter Try.func26, Try.ntmps26
  go_upto_region 2 with (go_at_call 86; refine (getMiss w g b pc M h id hnot r0 r1).mono ?_; rintro e w2 ⟨rfl, hb⟩)
  have hB3 := hb.alloc hb.size (.cells #[.int .i64 0, .int .u32 0, .int .i64 0, .bool false, .bool false] 157)
  have hq := Blk.new w2 157 #[.int .i64 0, .int .u32 0, .int .i64 0, .bool false, .bool false]
  generalize w2.alloc (.cells #[.int .i64 0, .int .u32 0, .int .i64 0, .bool false, .bool false] 157) = w3 at *
  have q0 : w3.cell? ⟨w2.heap.size, 4, none⟩ = some ((#[.int .i64 0, .int .u32 0, .int .i64 0, .bool false, .bool false] : Array Value)[4]) := hq.cellv 4 rfl
  simp at q0
  go_wp2_with fail
  go_ret
  exact ⟨rfl, hB3⟩
set_option maxHeartbeats 1000000 in
theorem pRemoveNil (w : World)  (id : Int) : Calls Try.prog 21 #[.pointer none, .int .i64 id] w fun e w' => e = .returned (.bool false) ∧ Below w.heap.size w w' := by
  go_enter Try.func21, Try.ntmps21
  go_wp2_with (go_at_call 87; refine ((made_nil _)).mono ?_; rintro e w' ⟨rfl, rfl⟩)
  go_ret
  exact ⟨rfl, Below.refl _ _⟩
set_option maxHeartbeats 1000000 in
theorem pCopyNil (w : World)   : Calls Try.prog 32 #[.pointer none] w fun e w' => e = .returned (.pointer none) ∧ Below w.heap.size w w' := by
  go_enter Try.func32, Try.ntmps32
  go_wp2_with (go_at_call 87; refine ((made_nil _)).mono ?_; rintro e w' ⟨rfl, rfl⟩)
  go_ret
  exact ⟨rfl, Below.refl _ _⟩
set_option maxHeartbeats 1000000 in
theorem someNil (w : World)  (v : Value) : Calls Try.prog 96 #[.pointer none, v] w fun e w' => e = .returned (.slice none 0 0) ∧ Below w.heap.size w w' := by
  go_enter Try.func96, Try.ntmps96
  go_wp2_with (go_at_call 87; refine ((made_nil _)).mono ?_; rintro e w' ⟨rfl, rfl⟩)
  go_ret
  exact ⟨rfl, Below.refl _ _⟩
set_option maxHeartbeats 1000000 in
theorem pEligibleNil (w : World)  : Calls Try.prog 30 #[.pointer none] w fun e w' => e = .returned (.slice none 0 0) ∧ Below w.heap.size w w' := by
  go_enter Try.func30, Try.ntmps30
  go_wp2_with (go_at_call 96; refine (someNil w  _).mono ?_; rintro e w' ⟨rfl, hb⟩)
  go_ret
  exact ⟨rfl, hb⟩
set_option maxHeartbeats 1000000 in
theorem pAllNil (w : World)  : Calls Try.prog 31 #[.pointer none] w fun e w' => e = .returned (.slice none 0 0) ∧ Below w.heap.size w w' := by
  go_enter Try.func31, Try.ntmps31
  go_wp2_with (go_at_call 96; refine (someNil w  _).mono ?_; rintro e w' ⟨rfl, hb⟩)
  go_ret
  exact ⟨rfl, hb⟩
set_option maxHeartbeats 1000000 in
theorem addNil (w : World)  (id ad wt : Int) : Calls Try.prog 20 #[.pointer none, .agg #[.int .i64 id, .int .u32 ad, .int .i64 wt]] w fun e w' => e = .returned (.int .i64 1) ∧ Below w.heap.size w w' := by
  have hB := (Below.refl w.heap.size w).alloc (Nat.le_refl _) (.cells #[.int .i64 id, .int .u32 ad, .int .i64 wt] 26)
  skip
  go_enter Try.func20, Try.ntmps20
  go_upto_region 1 with (fail)
  generalize w.alloc (.cells #[.int .i64 id, .int .u32 ad, .int .i64 wt] 26) = w1 at *
  go_wp2_with (go_at_call 87; refine ((made_nil _)).mono ?_; rintro e w' ⟨rfl, rfl⟩)
  go_ret
  exact ⟨rfl, hB⟩
set_option maxHeartbeats 1000000 in
theorem pRemoveZero (w : World) (g : Nat) (pc : Int) (h : Blk w g 31 #[.int .i64 pc, .map none]) (id : Int) : Calls Try.prog 21 #[.pointer (some ⟨g, 0, none⟩), .int .i64 id] w fun e w' => e = .returned (.bool false) ∧ Below w.heap.size w w' := by
  go_enter Try.func21, Try.ntmps21
  go_wp2_with (go_at_call 87; refine ((made_zero _ g pc h)).mono ?_; rintro e w' ⟨rfl, rfl⟩)
  go_ret
  exact ⟨rfl, Below.refl _ _⟩
set_option maxHeartbeats 1000000 in
theorem pCopyZero (w : World) (g : Nat) (pc : Int) (h : Blk w g 31 #[.int .i64 pc, .map none])  : Calls Try.prog 32 #[.pointer (some ⟨g, 0, none⟩)] w fun e w' => e = .returned (.pointer none) ∧ Below w.heap.size w w' := by
  go_enter Try.func32, Try.ntmps32
  go_wp2_with (go_at_call 87; refine ((made_zero _ g pc h)).mono ?_; rintro e w' ⟨rfl, rfl⟩)
  go_ret
  exact ⟨rfl, Below.refl _ _⟩
set_option maxHeartbeats 1000000 in
theorem someZero (w : World) (g : Nat) (pc : Int) (h : Blk w g 31 #[.int .i64 pc, .map none]) (v : Value) : Calls Try.prog 96 #[.pointer (some ⟨g, 0, none⟩), v] w fun e w' => e = .returned (.slice none 0 0) ∧ Below w.heap.size w w' := by
  go_enter Try.func96, Try.ntmps96
  go_wp2_with (go_at_call 87; refine ((made_zero _ g pc h)).mono ?_; rintro e w' ⟨rfl, rfl⟩)
  go_ret
  exact ⟨rfl, Below.refl _ _⟩
set_option maxHeartbeats 1000000 in
theorem pEligibleZero (w : World) (g : Nat) (pc : Int) (h : Blk w g 31 #[.int .i64 pc, .map none]) : Calls Try.prog 30 #[.pointer (some ⟨g, 0, none⟩)] w fun e w' => e = .returned (.slice none 0 0) ∧ Below w.heap.size w w' := by
  go_enter Try.func30, Try.ntmps30
  go_wp2_with (go_at_call 96; refine (someZero w g pc h _).mono ?_; rintro e w' ⟨rfl, hb⟩)
  go_ret
  exact ⟨rfl, hb⟩
set_option maxHeartbeats 1000000 in
theorem pAllZero (w : World) (g : Nat) (pc : Int) (h : Blk w g 31 #[.int .i64 pc, .map none]) : Calls Try.prog 31 #[.pointer (some ⟨g, 0, none⟩)] w fun e w' => e = .returned (.slice none 0 0) ∧ Below w.heap.size w w' := by
  go_enter Try.func31, Try.ntmps31
  go_wp2_with (go_at_call 96; refine (someZero w g pc h _).mono ?_; rintro e w' ⟨rfl, hb⟩)
  go_ret
  exact ⟨rfl, hb⟩
set_option maxHeartbeats 1000000 in
theorem addZero (w : World) (g : Nat) (pc : Int) (h : Blk w g 31 #[.int .i64 pc, .map none]) (id ad wt : Int) : Calls Try.prog 20 #[.pointer (some ⟨g, 0, none⟩), .agg #[.int .i64 id, .int .u32 ad, .int .i64 wt]] w fun e w' => e = .returned (.int .i64 1) ∧ Below w.heap.size w w' := by
  have hB := (Below.refl w.heap.size w).alloc (Nat.le_refl _) (.cells #[.int .i64 id, .int .u32 ad, .int .i64 wt] 26)
  have h1 := h.alloc (.cells #[.int .i64 id, .int .u32 ad, .int .i64 wt] 26)
  go_enter Try.func20, Try.ntmps20
  go_upto_region 1 with (fail)
  generalize w.alloc (.cells #[.int .i64 id, .int .u32 ad, .int .i64 wt] 26) = w1 at *
  go_wp2_with (go_at_call 87; refine ((made_zero _ g pc h1)).mono ?_; rintro e w' ⟨rfl, rfl⟩)
  go_ret
  exact ⟨rfl, hB⟩
end Go.Proofs.Ytejgekoinbdhjaa
