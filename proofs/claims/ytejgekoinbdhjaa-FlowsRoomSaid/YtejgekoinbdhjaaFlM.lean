/- flows: a table that no call made. -/
import Derived.Test.YtejgekoinbdhjaaFlL
namespace Go.Proofs.Ytejgekoinbdhjaa
set_option linter.unusedVariables false
open Go Go.RowKit Go.Maps

set_option maxRecDepth 100000 in
theorem fCountsNil (w : World)  : Calls Try.prog 44 #[.pointer none] w fun en w' => en = .returned (.tuple #[.int .i64 0, .int .i64 0]) ∧ w = w' := by
  go_enter Try.func44, Try.ntmps44
  go_wp2_with (go_at_call 113; refine (madeF_nil w).mono ?_; rintro en w' ⟨rfl, rfl⟩)
  go_ret2
  exact ⟨rfl, rfl⟩
set_option maxRecDepth 100000 in
theorem fLenNil (w : World)  : Calls Try.prog 47 #[.pointer none] w fun en w' => en = .returned (.int .i64 0) ∧ w = w' := by
  go_enter Try.func47, Try.ntmps47
  go_wp2_with (go_at_call 113; refine (madeF_nil w).mono ?_; rintro en w' ⟨rfl, rfl⟩)
  go_ret
  exact ⟨rfl, rfl⟩
set_option maxRecDepth 100000 in
theorem fCopyNil (w : World)  : Calls Try.prog 49 #[.pointer none] w fun en w' => en = .returned (.pointer none) ∧ w = w' := by
  go_enter Try.func49, Try.ntmps49
  go_wp2_with (go_at_call 113; refine (madeF_nil w).mono ?_; rintro en w' ⟨rfl, rfl⟩)
  go_ret
  exact ⟨rfl, rfl⟩
set_option maxRecDepth 100000 in
theorem fEachNil (w : World)  (v : Value) : Calls Try.prog 122 #[.pointer none, v] w fun en w' => en = .returned (.tuple #[]) ∧ w = w' := by
  go_enter Try.func122, Try.ntmps122
  go_wp2_with (go_at_call 113; refine (madeF_nil w).mono ?_; rintro en w' ⟨rfl, rfl⟩)
  refine bodyPost_ret (results_none rfl _ _ _) rfl ?_
  exact ⟨rfl, rfl⟩
set_option maxRecDepth 100000 in
theorem fGetNil (w : World)  (f : Flo) (t : Int) : Calls Try.prog 42 #[.pointer none, .agg #[.int .i64 f.pr, .int .u32 f.src, .int .u32 f.dst, .int .i64 f.sp, .int .i64 f.dp], .int .i64 t] w fun en w' => en = .returned (.tuple #[.int .i64 0, .bool false]) ∧ Below w.heap.size w w' := by
  have hB := (Below.refl w.heap.size w).alloc (Nat.le_refl _) (.cells #[.int .i64 f.pr, .int .u32 f.src, .int .u32 f.dst, .int .i64 f.sp, .int .i64 f.dp] 57)
  go_enter Try.func42, Try.ntmps42
  go_wp2_with (go_at_call 113; refine (madeF_nil _).mono ?_; rintro en w' ⟨rfl, rfl⟩)
  go_ret2
  exact ⟨rfl, hB⟩
set_option maxRecDepth 100000 in
theorem fAllNil (w : World)  : Calls Try.prog 48 #[.pointer none] w fun en w' => en = .returned (.slice none 0 0) ∧ Below w.heap.size w w' := by
  have hB := (Below.refl w.heap.size w).alloc (Nat.le_refl _) (.cells #[.slice none 0 0] 65)
  have hq := Blk.new w 65 #[.slice none 0 0]
  go_enter Try.func48, Try.ntmps48
  go_upto_region 2 with (fail)
  generalize w.alloc (.cells #[.slice none 0 0] 65) = w1 at *
  have q0 : w1.cell? ⟨w.heap.size, 0, none⟩ = some (.slice none 0 0) := hq.cellv 0 rfl
  have ltq := hq.lt
  go_wp2_with (go_at_call 122; refine (fEachNil w1 _).mono ?_; rintro en w' ⟨rfl, rfl⟩)
  go_ret
  exact ⟨rfl, hB⟩
set_option maxRecDepth 100000 in
theorem fSweepNil (w : World)  (v : Value) (hv : ∀ (w : World) (p : Addr) (m : Mode), True) (fn : Fn) (x y : Array Value) : Calls Try.prog 118 #[.pointer none, .func fn x y] w fun en w' => en = .returned (.slice none 0 0) ∧ Below w.heap.size w w' := by
  have hB := (((Below.refl w.heap.size w).alloc (Nat.le_refl _) (.cells #[.pointer none] 59)).alloc (by simp) (.cells #[.func fn x y] 182)).alloc (by simp; omega) (.cells #[.slice none 0 0] 65)
  have hq := Blk.new ((w.alloc (.cells #[.pointer none] 59)).alloc (.cells #[.func fn x y] 182)) 65 #[.slice none 0 0]
  have ht := ((Blk.new w 59 #[.pointer none]).alloc (.cells #[.func fn x y] 182)).alloc (.cells #[.slice none 0 0] 65)
  rw [show ((w.alloc (.cells #[.pointer none] 59)).alloc (.cells #[.func fn x y] 182)).heap.size = w.heap.size + 2 by simp] at hq
  go_enter Try.func118, Try.ntmps118
  go_upto_region 2 with (fail)
  generalize ((w.alloc (.cells #[.pointer none] 59)).alloc (.cells #[.func fn x y] 182)).alloc (.cells #[.slice none 0 0] 65) = w1 at *
  have q0 : w1.cell? ⟨w.heap.size + 2, 0, none⟩ = some (.slice none 0 0) := hq.cellv 0 rfl
  have t0 : w1.cell? ⟨w.heap.size, 0, none⟩ = some (.pointer none) := ht.cellv 0 rfl
  have q1 : w1.cell? ⟨w.heap.size + 1 + 1, 0, none⟩ = some (.slice none 0 0) := q0
  have ltq := hq.lt
  have ltt := ht.lt
  go_wp2_with (go_at_call 122; refine (fEachNil w1 _).mono ?_; rintro en w' ⟨rfl, rfl⟩)
  go_ret
  exact ⟨rfl, hB⟩
set_option maxRecDepth 100000 in
theorem fPurgeNil (w : World)  (z : Int) : Calls Try.prog 46 #[.pointer none, .int .i64 z] w fun en w' => en = .returned (.int .i64 0) ∧ Below w.heap.size w w' := by
  have hB := (Below.refl w.heap.size w).alloc (Nat.le_refl _) (.cells #[.int .i64 z] 3)
  go_enter Try.func46, Try.ntmps46
  go_upto_region 1 with (fail)
  generalize w.alloc (.cells #[.int .i64 z] 3) = w1 at *
  go_wp2_with (go_at_call 118; refine (fSweepNil w1 (.int .i64 0) (fun _ _ _ => trivial) _ _ _).mono ?_; rintro en w' ⟨rfl, hb⟩)
  go_ret
  exact ⟨rfl, hB.trans (hb.mono hB.size)⟩
set_option maxRecDepth 100000 in
theorem fExpireNil (w : World)  (t : Int) : Calls Try.prog 41 #[.pointer none, .int .i64 t] w fun en w' => en = .returned (.slice none 0 0) ∧ Below w.heap.size w w' := by
  have hB := (Below.refl w.heap.size w).alloc (Nat.le_refl _) (.cells #[.pointer none] 59)
  have hq := Blk.new w 59 #[.pointer none]
  go_enter Try.func41, Try.ntmps41
  go_upto_region 1 with (fail)
  generalize w.alloc (.cells #[.pointer none] 59) = w1 at *
  have q0 : w1.cell? ⟨w.heap.size, 0, none⟩ = some (.pointer none) := hq.cellv 0 rfl
  have ltq := hq.lt
  go_wp2_with (go_at_call 113; refine (madeF_nil w1).mono ?_; rintro en w' ⟨rfl, rfl⟩)
  go_ret
  exact ⟨rfl, hB⟩
set_option maxRecDepth 100000 in
theorem fCountsZero (w : World) (g : Nat) (h : Blk w g 76 zerC) : Calls Try.prog 44 #[.pointer (some ⟨g, 0, none⟩)] w fun en w' => en = .returned (.tuple #[.int .i64 0, .int .i64 0]) ∧ w = w' := by
  go_enter Try.func44, Try.ntmps44
  go_wp2_with (go_at_call 113; refine (madeF_zero w g h).mono ?_; rintro en w' ⟨rfl, rfl⟩)
  go_ret2
  exact ⟨rfl, rfl⟩
set_option maxRecDepth 100000 in
theorem fLenZero (w : World) (g : Nat) (h : Blk w g 76 zerC) : Calls Try.prog 47 #[.pointer (some ⟨g, 0, none⟩)] w fun en w' => en = .returned (.int .i64 0) ∧ w = w' := by
  go_enter Try.func47, Try.ntmps47
  go_wp2_with (go_at_call 113; refine (madeF_zero w g h).mono ?_; rintro en w' ⟨rfl, rfl⟩)
  go_ret
  exact ⟨rfl, rfl⟩
set_option maxRecDepth 100000 in
theorem fCopyZero (w : World) (g : Nat) (h : Blk w g 76 zerC) : Calls Try.prog 49 #[.pointer (some ⟨g, 0, none⟩)] w fun en w' => en = .returned (.pointer none) ∧ w = w' := by
  go_enter Try.func49, Try.ntmps49
  go_wp2_with (go_at_call 113; refine (madeF_zero w g h).mono ?_; rintro en w' ⟨rfl, rfl⟩)
  go_ret
  exact ⟨rfl, rfl⟩
set_option maxRecDepth 100000 in
theorem fEachZero (w : World) (g : Nat) (h : Blk w g 76 zerC) (v : Value) : Calls Try.prog 122 #[.pointer (some ⟨g, 0, none⟩), v] w fun en w' => en = .returned (.tuple #[]) ∧ w = w' := by
  go_enter Try.func122, Try.ntmps122
  go_wp2_with (go_at_call 113; refine (madeF_zero w g h).mono ?_; rintro en w' ⟨rfl, rfl⟩)
  refine bodyPost_ret (results_none rfl _ _ _) rfl ?_
  exact ⟨rfl, rfl⟩
set_option maxRecDepth 100000 in
theorem fGetZero (w : World) (g : Nat) (h : Blk w g 76 zerC) (f : Flo) (t : Int) : Calls Try.prog 42 #[.pointer (some ⟨g, 0, none⟩), .agg #[.int .i64 f.pr, .int .u32 f.src, .int .u32 f.dst, .int .i64 f.sp, .int .i64 f.dp], .int .i64 t] w fun en w' => en = .returned (.tuple #[.int .i64 0, .bool false]) ∧ Below w.heap.size w w' := by
  have hB := (Below.refl w.heap.size w).alloc (Nat.le_refl _) (.cells #[.int .i64 f.pr, .int .u32 f.src, .int .u32 f.dst, .int .i64 f.sp, .int .i64 f.dp] 57)
  have h1 := h.alloc (.cells #[.int .i64 f.pr, .int .u32 f.src, .int .u32 f.dst, .int .i64 f.sp, .int .i64 f.dp] 57)
  go_enter Try.func42, Try.ntmps42
  go_wp2_with (go_at_call 113; refine (madeF_zero _ g h1).mono ?_; rintro en w' ⟨rfl, rfl⟩)
  go_ret2
  exact ⟨rfl, hB⟩
set_option maxRecDepth 100000 in
theorem fAllZero (w : World) (g : Nat) (h : Blk w g 76 zerC) : Calls Try.prog 48 #[.pointer (some ⟨g, 0, none⟩)] w fun en w' => en = .returned (.slice none 0 0) ∧ Below w.heap.size w w' := by
  have hB := (Below.refl w.heap.size w).alloc (Nat.le_refl _) (.cells #[.slice none 0 0] 65)
  have hq := Blk.new w 65 #[.slice none 0 0]
  have h1 := h.alloc (.cells #[.slice none 0 0] 65)
  go_enter Try.func48, Try.ntmps48
  go_upto_region 2 with (fail)
  generalize w.alloc (.cells #[.slice none 0 0] 65) = w1 at *
  have q0 : w1.cell? ⟨w.heap.size, 0, none⟩ = some (.slice none 0 0) := hq.cellv 0 rfl
  have ltq := hq.lt
  go_wp2_with (go_at_call 122; refine (fEachZero w1 g h1 _).mono ?_; rintro en w' ⟨rfl, rfl⟩)
  go_ret
  exact ⟨rfl, hB⟩
set_option maxRecDepth 100000 in
theorem fSweepZero (w : World) (g : Nat) (h : Blk w g 76 zerC) (v : Value) (hv : ∀ (w : World) (p : Addr) (m : Mode), True) (fn : Fn) (x y : Array Value) : Calls Try.prog 118 #[.pointer (some ⟨g, 0, none⟩), .func fn x y] w fun en w' => en = .returned (.slice none 0 0) ∧ Below w.heap.size w w' := by
  have hB := (((Below.refl w.heap.size w).alloc (Nat.le_refl _) (.cells #[.pointer (some ⟨g, 0, none⟩)] 59)).alloc (by simp) (.cells #[.func fn x y] 182)).alloc (by simp; omega) (.cells #[.slice none 0 0] 65)
  have hq := Blk.new ((w.alloc (.cells #[.pointer (some ⟨g, 0, none⟩)] 59)).alloc (.cells #[.func fn x y] 182)) 65 #[.slice none 0 0]
  have ht := ((Blk.new w 59 #[.pointer (some ⟨g, 0, none⟩)]).alloc (.cells #[.func fn x y] 182)).alloc (.cells #[.slice none 0 0] 65)
  have h1 := ((h.alloc (.cells #[.pointer (some ⟨g, 0, none⟩)] 59)).alloc (.cells #[.func fn x y] 182)).alloc (.cells #[.slice none 0 0] 65)
  rw [show ((w.alloc (.cells #[.pointer (some ⟨g, 0, none⟩)] 59)).alloc (.cells #[.func fn x y] 182)).heap.size = w.heap.size + 2 by simp] at hq
  go_enter Try.func118, Try.ntmps118
  go_upto_region 2 with (fail)
  generalize ((w.alloc (.cells #[.pointer (some ⟨g, 0, none⟩)] 59)).alloc (.cells #[.func fn x y] 182)).alloc (.cells #[.slice none 0 0] 65) = w1 at *
  have q0 : w1.cell? ⟨w.heap.size + 2, 0, none⟩ = some (.slice none 0 0) := hq.cellv 0 rfl
  have t0 : w1.cell? ⟨w.heap.size, 0, none⟩ = some (.pointer (some ⟨g, 0, none⟩)) := ht.cellv 0 rfl
  have q1 : w1.cell? ⟨w.heap.size + 1 + 1, 0, none⟩ = some (.slice none 0 0) := q0
  have ltq := hq.lt
  have ltt := ht.lt
  go_wp2_with (go_at_call 122; refine (fEachZero w1 g h1 _).mono ?_; rintro en w' ⟨rfl, rfl⟩)
  go_ret
  exact ⟨rfl, hB⟩
set_option maxRecDepth 100000 in
theorem fPurgeZero (w : World) (g : Nat) (h : Blk w g 76 zerC) (z : Int) : Calls Try.prog 46 #[.pointer (some ⟨g, 0, none⟩), .int .i64 z] w fun en w' => en = .returned (.int .i64 0) ∧ Below w.heap.size w w' := by
  have hB := (Below.refl w.heap.size w).alloc (Nat.le_refl _) (.cells #[.int .i64 z] 3)
  have h1 := h.alloc (.cells #[.int .i64 z] 3)
  go_enter Try.func46, Try.ntmps46
  go_upto_region 1 with (fail)
  generalize w.alloc (.cells #[.int .i64 z] 3) = w1 at *
  go_wp2_with (go_at_call 118; refine (fSweepZero w1 g h1 (.int .i64 0) (fun _ _ _ => trivial) _ _ _).mono ?_; rintro en w' ⟨rfl, hb⟩)
  go_ret
  exact ⟨rfl, hB.trans (hb.mono hB.size)⟩
set_option maxRecDepth 100000 in
theorem fExpireZero (w : World) (g : Nat) (h : Blk w g 76 zerC) (t : Int) : Calls Try.prog 41 #[.pointer (some ⟨g, 0, none⟩), .int .i64 t] w fun en w' => en = .returned (.slice none 0 0) ∧ Below w.heap.size w w' := by
  have hB := (Below.refl w.heap.size w).alloc (Nat.le_refl _) (.cells #[.pointer (some ⟨g, 0, none⟩)] 59)
  have hq := Blk.new w 59 #[.pointer (some ⟨g, 0, none⟩)]
  have h1 := h.alloc (.cells #[.pointer (some ⟨g, 0, none⟩)] 59)
  go_enter Try.func41, Try.ntmps41
  go_upto_region 1 with (fail)
  generalize w.alloc (.cells #[.pointer (some ⟨g, 0, none⟩)] 59) = w1 at *
  have q0 : w1.cell? ⟨w.heap.size, 0, none⟩ = some (.pointer (some ⟨g, 0, none⟩)) := hq.cellv 0 rfl
  have ltq := hq.lt
  go_wp2_with (go_at_call 113; refine (madeF_zero w1 g h1).mono ?_; rintro en w' ⟨rfl, rfl⟩)
  go_ret
  exact ⟨rfl, hB⟩
end Go.Proofs.Ytejgekoinbdhjaa
