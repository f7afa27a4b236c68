/- wire: a source that no call made; End. -/
import Derived.Test.YthbjpefhpmbepaaWirL
namespace Go.Proofs.Ythbjpefhpmbepaa
set_option linter.unusedVariables false
open Go.RowKit

/-- nil, or a Source that is zero. -/
def Dead (w : World) (v : Value) : Prop := v = .pointer none ∨ ∃ g, v = .pointer (some ⟨g, 0, none⟩) ∧ Blk w g 55 #[.bool false, .slice none 0 0, .int .i64 0, .int .i64 0]
theorem Dead.below {w w' : World} {v : Value} (h : Dead w v) (hb : Below w.heap.size w w') : Dead w' v := by
  rcases h with h | ⟨g, h, hk⟩
  · exact .inl h
  · exact .inr ⟨g, h, hk.below hb hk.lt⟩

set_option maxHeartbeats 400000 in
theorem ok_dead (w : World) (v : Value) (h : Dead w v) :
    Calls Try.prog 42 #[v] w fun e w' => e = .returned (.bool false) ∧ w = w' := by
  rcases h with rfl | ⟨g, rfl, h3⟩
  · go_enter Try.func42, Try.ntmps42
    go_wp2_with fail
    go_ret
    exact ⟨rfl, rfl⟩
  · have c0 := h3.cellv 0 (v := .bool false) rfl
    go_enter Try.func42, Try.ntmps42
    go_wp2_with fail
    go_ret
    exact ⟨rfl, rfl⟩
set_option maxHeartbeats 400000 in
theorem take_dead (w : World) (v : Value) (h : Dead w v) (m : Int) :
    Calls Try.prog 43 #[v, .int .i64 m] w fun e w' => e = .returned (.slice none 0 0) ∧ w = w' := by
  go_enter Try.func43, Try.ntmps43
  go_wp2_with fail
  refine (ok_dead w v h).mono ?_
  rintro e w' ⟨rfl, rfl⟩
  go_wp2_with fail
  go_ret
  exact ⟨rfl, rfl⟩
set_option maxHeartbeats 400000 in
theorem num_dead (w : World) (v : Value) (h : Dead w v) (size : Nat) (h1 : 0 < size) :
    Calls Try.prog 34 #[v, .int .i64 (size : Int)] w fun e w' => e = .returned (.int .u64 0) ∧ w = w' := by
  go_enter Try.func34, Try.ntmps34
  go_wp2_with fail
  refine (take_dead w v h _).mono ?_
  rintro e w' ⟨rfl, rfl⟩
  go_wp2_with fail
  go_ret
  exact ⟨rfl, rfl⟩
set_option maxHeartbeats 400000 in
theorem u8_dead (w : World) (v : Value) (h : Dead w v) : Calls Try.prog 16 #[v] w fun e w' => e = .returned (.int .i64 0) ∧ w = w' := by
  go_enter Try.func16, Try.ntmps16
  go_wp2_with fail
  refine (num_dead w v h 1 (by omega)).mono ?_
  rintro e w' ⟨rfl, rfl⟩
  go_wp2_with fail
  go_ret
  exact ⟨rfl, rfl⟩
set_option maxHeartbeats 400000 in
theorem u16_dead (w : World) (v : Value) (h : Dead w v) : Calls Try.prog 17 #[v] w fun e w' => e = .returned (.int .i64 0) ∧ w = w' := by
  go_enter Try.func17, Try.ntmps17
  go_wp2_with fail
  refine (num_dead w v h 2 (by omega)).mono ?_
  rintro e w' ⟨rfl, rfl⟩
  go_wp2_with fail
  go_ret
  exact ⟨rfl, rfl⟩
set_option maxHeartbeats 400000 in
theorem u32_dead (w : World) (v : Value) (h : Dead w v) : Calls Try.prog 18 #[v] w fun e w' => e = .returned (.int .u32 0) ∧ w = w' := by
  go_enter Try.func18, Try.ntmps18
  go_wp2_with fail
  refine (num_dead w v h 4 (by omega)).mono ?_
  rintro e w' ⟨rfl, rfl⟩
  go_wp2_with fail
  go_ret
  exact ⟨rfl, rfl⟩
set_option maxHeartbeats 400000 in
theorem clone_nil (w : World) : Calls Try.prog 33 #[.slice none 0 0] w fun e w' => e = .returned (.slice none 0 0) ∧ w = w' := by
  have heq := fun w => Go.run_eql_slice_nil (P := Try.prog) w 22 5 none 0 0 Try.underlying22
  go_enter Try.func33, Try.ntmps33
  go_wp2_with fail
  go_ret
  exact ⟨rfl, rfl⟩
set_option maxHeartbeats 400000 in
theorem bytes_dead (w : World) (v : Value) (h : Dead w v) (m : Int) : Calls Try.prog 28 #[v, .int .i64 m] w fun e w' => e = .returned (.slice none 0 0) ∧ w = w' := by
  go_enter Try.func28, Try.ntmps28
  go_wp2_with fail
  refine (take_dead w v h _).mono ?_
  rintro e w' ⟨rfl, rfl⟩
  go_wp2_with fail
  refine (clone_nil w).mono ?_
  rintro e w' ⟨rfl, rfl⟩
  go_wp2_with fail
  go_ret
  exact ⟨rfl, rfl⟩
set_option maxHeartbeats 400000 in
theorem left_dead (w : World) (v : Value) (h : Dead w v) : Calls Try.prog 25 #[v] w fun e w' => e = .returned (.int .i64 0) ∧ w = w' := by
  go_enter Try.func25, Try.ntmps25
  go_wp2_with fail
  refine (ok_dead w v h).mono ?_
  rintro e w' ⟨rfl, rfl⟩
  go_wp2_with fail
  go_ret
  exact ⟨rfl, rfl⟩
set_option maxHeartbeats 400000 in
theorem rest_dead (w : World) (v : Value) (h : Dead w v) : Calls Try.prog 20 #[v] w fun e w' => e = .returned (.slice none 0 0) ∧ w = w' := by
  go_enter Try.func20, Try.ntmps20
  go_wp2_with fail
  refine (left_dead w v h).mono ?_
  rintro e w' ⟨rfl, rfl⟩
  go_wp2_with fail
  refine (bytes_dead w v h _).mono ?_
  rintro e w' ⟨rfl, rfl⟩
  go_wp2_with fail
  go_ret
  exact ⟨rfl, rfl⟩
set_option maxHeartbeats 400000 in
theorem sub_dead (w : World) (v : Value) (h : Dead w v) (m : Int) : Calls Try.prog 29 #[v, .int .i64 m] w fun e w' => e = .returned (.pointer none) ∧ w = w' := by
  rcases h with rfl | ⟨g, rfl, h3⟩
  · go_enter Try.func29, Try.ntmps29
    go_wp2_with fail
    go_ret
    exact ⟨rfl, rfl⟩
  · have c0 := h3.cellv 0 (v := .bool false) rfl
    go_enter Try.func29, Try.ntmps29
    go_wp2_with fail
    go_ret
    exact ⟨rfl, rfl⟩
set_option maxHeartbeats 400000 in
theorem at_dead (w : World) (v : Value) (h : Dead w v) : Calls Try.prog 19 #[v] w fun e w' => e = .returned (.int .i64 0) ∧ w = w' := by
  rcases h with rfl | ⟨g, rfl, h3⟩
  · go_enter Try.func19, Try.ntmps19
    go_wp2_with fail
    go_ret
    exact ⟨rfl, rfl⟩
  · have c0 := h3.cellv 2 (v := .int .i64 0) rfl
    go_enter Try.func19, Try.ntmps19
    go_wp2_with fail
    go_ret
    exact ⟨rfl, rfl⟩
set_option maxHeartbeats 400000 in
theorem err_dead (w : World) (v : Value) (h : Dead w v) : Calls Try.prog 24 #[v] w fun e w' => e = .returned (.int .i64 1) ∧ w = w' := by
  rcases h with rfl | ⟨g, rfl, h3⟩
  · go_enter Try.func24, Try.ntmps24
    go_wp2_with fail
    go_ret
    exact ⟨rfl, rfl⟩
  · have c0 := h3.cellv 0 (v := .bool false) rfl
    go_enter Try.func24, Try.ntmps24
    go_wp2_with fail
    go_ret
    exact ⟨rfl, rfl⟩

theorem fn0 : ∀ (x0 x1 : Value) (w : World), (Instr.index 64 (.agg #[x0, x1]) (.int .i64 0)).run Try.prog w = .ok x0 w := fun _ _ _ => by kernel_rfl
theorem fn1 : ∀ (x0 x1 : Value) (w : World), (Instr.index 64 (.agg #[x0, x1]) (.int .i64 1)).run Try.prog w = .ok x1 w := fun _ _ _ => by kernel_rfl

set_option maxHeartbeats 400000 in
theorem end_dead (w : World) (v : Value) (h : Dead w v) : Calls Try.prog 21 #[v] w fun e w' => e = .returned (.int .i64 1) ∧ Below w.heap.size w w' := by
  have i0 := fn0
  have i1 := fn1
  have hvv : ∃ a, v = .pointer a := by rcases h with rfl | ⟨g, rfl, _⟩ <;> exact ⟨_, rfl⟩
  obtain ⟨a, rfl⟩ := hvv
  go_enter Try.func21, Try.ntmps21
  have hst := fun (w : World) (p : Addr) (f : Fn) (x y : Array Value) (m : Mode) => run_store Try.prog w p (.func f x y) m rfl
  have hb1 := ((Below.refl w.heap.size w).alloc (Nat.le_refl _) (.cells #[.pointer a] 37)).alloc (by simp) (.cells #[.func (.func 24) #[.pointer a] #[], .func (.func 35) #[] #[.pointer (some ⟨w.heap.size, 0, none⟩)]] 64)
  have hD := h.below hb1
  go_wp2_with fail
  refine wp_loop_rounds 3 ?_
  rw [rounds_succ]
  go_wp2_with (go_at_call 24; refine (err_dead _ _ hD).mono ?_; rintro e w' ⟨rfl, rfl⟩)
  go_ret
  exact ⟨rfl, hb1⟩

set_option maxHeartbeats 1000000 in
theorem none_walk (l : List Int) (w : World) (hl : l.length = 2) (_hw : ∀ z ∈ l, (Lit.int .i64 z).wf = true) :
    Calls Try.prog 6 #[.agg (l.map (Value.int .i64)).toArray] w fun e w' => e = .returned (.bool true) ∧ Below w.heap.size w w' := by
  match l, hl with
  | [k, n], _ =>
  have i0 : ∀ (x0 x1 : Value) (w : World), (Instr.index 56 (.agg #[x0, x1]) (.int .i64 0)).run Try.prog w = .ok x0 w := fun _ _ _ => by kernel_rfl
  have i1 : ∀ (x0 x1 : Value) (w : World), (Instr.index 56 (.agg #[x0, x1]) (.int .i64 1)).run Try.prog w = .ok x1 w := fun _ _ _ => by kernel_rfl
  simp only [List.map_cons, List.map_nil]
  have hk0 := (Blk.new w 49 #[.int .i64 k, .int .i64 n]).alloc (.cells #[.bool false, .slice none 0 0, .int .i64 0, .int .i64 0] 55)
  have hz0 := Blk.new (w.alloc (.cells #[.int .i64 k, .int .i64 n] 49)) 55 #[.bool false, .slice none 0 0, .int .i64 0, .int .i64 0]
  have hB0 := ((Below.refl w.heap.size w).alloc (Nat.le_refl _) (.cells #[.int .i64 k, .int .i64 n] 49)).alloc (by simp) (.cells #[.bool false, .slice none 0 0, .int .i64 0, .int .i64 0] 55)
  rw [World.size_alloc] at hz0
  go_enter Try.func6, Try.ntmps6
  go_wp2_with fail
  generalize ((w.alloc (.cells #[.int .i64 k, .int .i64 n] 49)).alloc (.cells #[.bool false, .slice none 0 0, .int .i64 0, .int .i64 0] 55)) = w1 at *
  refine wp_loop_rounds 3 ?_
  rw [rounds_succ]
  have c1 := hk0.cellv 1 (v := .int .i64 n) rfl
  have D0 : ∀ w, Dead w (.pointer none) := fun w => .inl rfl
  go_wp2_with first
    | (go_at_call 16; refine (u8_dead _ _ (D0 _)).mono ?_; rintro e w' ⟨rfl, rfl⟩)
    | (go_at_call 17; refine (u16_dead _ _ (D0 _)).mono ?_; rintro e w' ⟨rfl, rfl⟩)
    | (go_at_call 18; refine (u32_dead _ _ (D0 _)).mono ?_; rintro e w' ⟨rfl, rfl⟩)
    | (go_at_call 28; refine (bytes_dead _ _ (D0 _) _).mono ?_; rintro e w' ⟨rfl, rfl⟩)
    | (go_at_call 20; refine (rest_dead _ _ (D0 _)).mono ?_; rintro e w' ⟨rfl, rfl⟩)
    | (go_at_call 29; refine (sub_dead _ _ (D0 _) _).mono ?_; rintro e w' ⟨rfl, rfl⟩)
    | (go_at_call 25; refine (left_dead _ _ (D0 _)).mono ?_; rintro e w' ⟨rfl, rfl⟩)
    | (go_at_call 19; refine (at_dead _ _ (D0 _)).mono ?_; rintro e w' ⟨rfl, rfl⟩)
    | (go_at_call 24; refine (err_dead _ _ (D0 _)).mono ?_; rintro e w' ⟨rfl, rfl⟩)
  refine (end_dead _ _ (D0 _)).mono ?_
  rintro e w2 ⟨rfl, hb2⟩
  have hk2 := hk0.below hb2 hk0.lt
  have hz2 := hz0.below hb2 hz0.lt
  have hB2 := hB0.trans (hb2.mono hB0.size)
  clear c1
  have c1 := hk2.cellv 1 (v := .int .i64 n) rfl
  have D1 : Dead w2 (.pointer (some ⟨w.heap.size + 1, 0, none⟩)) := .inr ⟨_, rfl, hz2⟩
  go_wp2_with fail
  rw [rounds_succ]
  go_wp2_with first
    | (go_at_call 16; refine (u8_dead _ _ D1).mono ?_; rintro e w' ⟨rfl, rfl⟩)
    | (go_at_call 17; refine (u16_dead _ _ D1).mono ?_; rintro e w' ⟨rfl, rfl⟩)
    | (go_at_call 18; refine (u32_dead _ _ D1).mono ?_; rintro e w' ⟨rfl, rfl⟩)
    | (go_at_call 28; refine (bytes_dead _ _ D1 _).mono ?_; rintro e w' ⟨rfl, rfl⟩)
    | (go_at_call 20; refine (rest_dead _ _ D1).mono ?_; rintro e w' ⟨rfl, rfl⟩)
    | (go_at_call 29; refine (sub_dead _ _ D1 _).mono ?_; rintro e w' ⟨rfl, rfl⟩)
    | (go_at_call 25; refine (left_dead _ _ D1).mono ?_; rintro e w' ⟨rfl, rfl⟩)
    | (go_at_call 19; refine (at_dead _ _ D1).mono ?_; rintro e w' ⟨rfl, rfl⟩)
    | (go_at_call 24; refine (err_dead _ _ D1).mono ?_; rintro e w' ⟨rfl, rfl⟩)
  refine (end_dead _ _ D1).mono ?_
  rintro e w3 ⟨rfl, hb3⟩
  have hB3 := hB2.trans (hb3.mono hB2.size)
  go_wp2_with fail
  rw [rounds_succ]
  go_wp2_with fail
  refine (lives_any _).mono ?_
  rintro e w4 ⟨rfl, hb4⟩
  go_wp2_with fail
  go_ret
  exact ⟨rfl, hB3.trans (hb4.mono hB3.size)⟩
end Go.Proofs.Ythbjpefhpmbepaa
