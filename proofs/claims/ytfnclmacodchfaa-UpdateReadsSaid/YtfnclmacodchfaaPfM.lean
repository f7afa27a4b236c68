/- slices.Grow at nil, slices.Concat of two rows of prefixes, of three of bytes. -/
import Derived.Lib.AppendZeros
import Derived.Test.YtfnclmacodchfaaPfL
namespace Go.Proofs.Ytfnclmacodchfaa
set_option linter.unusedVariables false
open Go Go.RowKit

theorem u8_ok : ElemOk Try.prog 36 5 1 1 (.int .u8 0) := ⟨Try.underlying36, by kernel_rfl, rfl, by omega⟩
theorem run_zeros {st et : TypeId} {size bytes : Nat} {z : Value} (E : ElemOk Try.prog st et size bytes z) (w : World) (n : Nat) (h0 : 0 < n) (h : n * bytes ≤ 140737488355328) (h2 : n ≤ 100000000) (ty : TypeId) :
    ∃ (cs : Array Value) (cap : Nat), (Builtin.append_ #[st, 3] ty #[.slice none 0 0, .int .i64 n]).run Try.prog w = .ok (.slice (some ⟨w.heap.size, 0, none⟩) n cap) (w.drew.alloc (.cells cs et)) ∧ n ≤ cap ∧ cap ≤ maxLen ∧ cs.size = cap * size := by
  obtain ⟨i, hi, hz, hs, hb⟩ := info_parts E.info
  have hg := grownCap_ge w n 0 et
  refine ⟨_, grownCap w n 0 et, Lib.run_append_nil_zeros w st 3 ty et i z .i64 .i64 E.slice Try.underlying3 hi hz n h0 (by rw [hs]; exact E.pos) (by omega) (by rw [hb]; omega), hg, grownCap_le_maxLen w n 0 et (by unfold maxLen; omega), ?_⟩
  rw [Array.size_append, size_zeroCells, size_zeroCells, E.cells, ← Nat.add_mul, show n + (grownCap w n 0 et - n) = grownCap w n 0 et by omega]
set_option maxRecDepth 100000 in
theorem growP_any (w : World) (n : Nat) (hn : n ≤ 10000000) :
    Calls Try.prog 93 #[.slice none 0 0, .int .i64 n] w fun e w' => ∃ v, e = .returned v ∧ Own1 w' w.heap.size 61 2 v 0 [] ∧ Below w.heap.size w w' := by
  go_enter Try.func93, Try.ntmps93
  by_cases h0 : n = 0
  · subst h0
    go_wp2_with fail
    go_ret
    exact ⟨_, rfl, Own1.nil _ _ _ _, Below.refl _ _⟩
  have hrz := fun ty => run_zeros pf_ok w n (by omega) (by omega) (by omega) ty
  have hpos : (0 : Int) < n := by omega
  go_wp2_with (at_builtin; obtain ⟨cs, cap, hr, h1, h2, h3⟩ := hrz 22; refine Lib.wpList_append_run _ rfl _ _ _ _ rfl _ _ rfl rfl _ _ hr ?_)
  go_ret
  have hB := (Below.refl w.heap.size w.drew).alloc (Nat.le_refl _) (.cells cs 61)
  exact ⟨_, rfl, World.ownsRow_made w.drew cs cap (Nat.le_refl _) h2 h3, (Below.refl _ _).drew.trans hB⟩
set_option maxRecDepth 100000 in
theorem growB_any (w : World) (n : Nat) (hn : n ≤ 10000000) :
    Calls Try.prog 95 #[.slice none 0 0, .int .i64 n] w fun e w' => ∃ v, e = .returned v ∧ Own1 w' w.heap.size 5 1 v 0 [] ∧ Below w.heap.size w w' := by
  go_enter Try.func95, Try.ntmps95
  by_cases h0 : n = 0
  · subst h0
    go_wp2_with fail
    go_ret
    exact ⟨_, rfl, Own1.nil _ _ _ _, Below.refl _ _⟩
  have hrz := fun ty => run_zeros u8_ok w n (by omega) (by omega) (by omega) ty
  have hpos : (0 : Int) < n := by omega
  go_wp2_with (at_builtin; obtain ⟨cs, cap, hr, h1, h2, h3⟩ := hrz 36; refine Lib.wpList_append_run _ rfl _ _ _ _ rfl _ _ rfl rfl _ _ hr ?_)
  go_ret
  have hB := (Below.refl w.heap.size w.drew).alloc (Nat.le_refl _) (.cells cs 5)
  exact ⟨_, rfl, World.ownsRow_made w.drew cs cap (Nat.le_refl _) h2 h3, (Below.refl _ _).drew.trans hB⟩
set_option maxRecDepth 100000 in
set_option maxHeartbeats 4000000 in
theorem concatP_any (w : World) (b : Nat) (hb : b < w.heap.size) (A1 : Option Addr) (n1 c1 : Nat) (l1 : List (Int × Int)) (A2 : Option Addr) (n2 c2 : Nat) (l2 : List (Int × Int)) (k1 : w.cell? ⟨b, 0, none⟩ = some (.slice A1 n1 c1)) (k2 : w.cell? ⟨b, 1, none⟩ = some (.slice A2 n2 c2)) (h1 : Seen pfK w (fun b => b < w.heap.size) A1 n1 l1) (h2 : Seen pfK w (fun b => b < w.heap.size) A2 n2 l2) (z1 : n1 ≤ 1000000) (z2 : n2 ≤ 1000000) :
    Calls Try.prog 61 #[.slice (some ⟨b, 0, none⟩) 2 2] w fun e w' => ∃ v, e = .returned v ∧ Rows pfK w' w.heap.size w.heap.size 61 v (l1 ++ l2) ∧ Below w.heap.size w w' := by
  have hg := fun w => growP_any w (n1 + n2) (by omega)
  simp only [Int.natCast_add] at hg
  go_enter Try.func61, Try.ntmps61
  go_wp2_with fail
  refine wp_loop_rounds 3 ?_
  change Code.rounds _ _ _ _ _ w
  rw [rounds_succ]
  go_wp2_with fail
  rw [rounds_succ]
  go_wp2_with fail
  rw [rounds_succ]
  go_wp2_with (go_at_call 93; refine (hg w).mono ?_; rintro e w0 ⟨v0, rfl, own0, hB0⟩)
  have k10 : w0.cell? ⟨b, 0, none⟩ = some (.slice A1 n1 c1) := (hB0.cell (p := ⟨b, 0, none⟩) hb).trans k1
  have k20 : w0.cell? ⟨b, 1, none⟩ = some (.slice A2 n2 c2) := (hB0.cell (p := ⟨b, 1, none⟩) hb).trans k2
  have h10 := h1.below hB0 fun _ q => q
  have h20 := h2.below hB0 fun _ q => q
  have lb0 : b < w0.heap.size := Nat.lt_of_lt_of_le hb hB0.size
  have hz0 := hB0.size
  refine wp_loop_rounds 3 ?_
  change Code.rounds _ _ _ _ _ w0
  have r0 : Rows pfK w0 w.heap.size w.heap.size 61 v0 [] := ⟨own0, by simp⟩
  rw [rounds_succ]
  go_wp2_with (at_builtin; refine wpList_rows pf_ok rfl (.tmp 31) (.tmp 32) rfl r0 rfl rfl h10 (fun e he => (h1.2.1 e he : _)) (by have := h1.1; have := h2.1; simp; unfold maxLen; omega) (by have := h1.1; have := h2.1; simp; omega) hz0 ?_; intro v1 w1 r1 hg1; have hb1 := r0.below_app hg1 hz0; have k21 : w1.cell? ⟨b, 1, none⟩ = some (.slice A2 n2 c2) := (hb1.cell (p := ⟨b, 1, none⟩) hb).trans k20; have h21 := h20.below hb1 fun _ q => q; have hB1 := hB0.trans hb1; have hz1 := hB1.size; have lb1 : b < w1.heap.size := Nat.lt_of_lt_of_le hb hz1)
  rw [rounds_succ]
  go_wp2_with (at_builtin; refine wpList_rows pf_ok rfl (.tmp 31) (.tmp 32) rfl r1 rfl rfl h21 (fun e he => (h2.2.1 e he : _)) (by have := h1.1; have := h2.1; simp; unfold maxLen; omega) (by have := h1.1; have := h2.1; simp; omega) hz1 ?_; intro v2 w2 r2 hg2; have hb2 := r1.below_app hg2 hz1; have hB2 := hB1.trans hb2; have hz2 := hB2.size; have lb2 : b < w2.heap.size := Nat.lt_of_lt_of_le hb hz2)
  rw [rounds_succ]
  go_wp2_with fail
  go_ret
  simp only [List.nil_append] at r2
  exact ⟨_, rfl, r2, hB2⟩
set_option maxRecDepth 100000 in
set_option maxHeartbeats 4000000 in
theorem concatB_any (w : World) (b : Nat) (hb : b < w.heap.size) (A1 : Option Addr) (n1 c1 : Nat) (l1 : List UInt8) (A2 : Option Addr) (n2 c2 : Nat) (l2 : List UInt8) (A3 : Option Addr) (n3 c3 : Nat) (l3 : List UInt8) (k1 : w.cell? ⟨b, 0, none⟩ = some (.slice A1 n1 c1)) (k2 : w.cell? ⟨b, 1, none⟩ = some (.slice A2 n2 c2)) (k3 : w.cell? ⟨b, 2, none⟩ = some (.slice A3 n3 c3)) (h1 : Byt w w.heap.size A1 n1 l1) (h2 : Byt w w.heap.size A2 n2 l2) (h3 : Byt w w.heap.size A3 n3 l3) (z1 : n1 ≤ 1000000) (z2 : n2 ≤ 1000000) (z3 : n3 ≤ 1000000) :
    Calls Try.prog 67 #[.slice (some ⟨b, 0, none⟩) 3 3] w fun e w' => ∃ v, e = .returned v ∧ OwnB w' w.heap.size v (n1 + n2 + n3) (l1 ++ l2 ++ l3) ∧ Below w.heap.size w w' := by
  have hg := fun w => growB_any w (n1 + n2 + n3) (by omega)
  simp only [Int.natCast_add] at hg
  go_enter Try.func67, Try.ntmps67
  go_wp2_with fail
  refine wp_loop_rounds 4 ?_
  change Code.rounds _ _ _ _ _ w
  rw [rounds_succ]
  go_wp2_with fail
  rw [rounds_succ]
  go_wp2_with fail
  rw [rounds_succ]
  go_wp2_with fail
  rw [rounds_succ]
  go_wp2_with (go_at_call 95; refine (hg w).mono ?_; rintro e w0 ⟨v0, rfl, own0, hB0⟩)
  have k10 : w0.cell? ⟨b, 0, none⟩ = some (.slice A1 n1 c1) := (hB0.cell (p := ⟨b, 0, none⟩) hb).trans k1
  have k20 : w0.cell? ⟨b, 1, none⟩ = some (.slice A2 n2 c2) := (hB0.cell (p := ⟨b, 1, none⟩) hb).trans k2
  have k30 : w0.cell? ⟨b, 2, none⟩ = some (.slice A3 n3 c3) := (hB0.cell (p := ⟨b, 2, none⟩) hb).trans k3
  have h10 := h1.below hB0
  have h20 := h2.below hB0
  have h30 := h3.below hB0
  have lb0 : b < w0.heap.size := Nat.lt_of_lt_of_le hb hB0.size
  have hz0 := hB0.size
  refine wp_loop_rounds 4 ?_
  change Code.rounds _ _ _ _ _ w0
  have r0 : OwnB w0 w.heap.size v0 0 [] := own0
  rw [rounds_succ]
  go_wp2_with (at_builtin; refine wpList_app _ rfl (.tmp 31) (.tmp 32) rfl w.heap.size _ _ _ rfl r0 _ _ n1 c1 _ rfl h10 (by omega) hz0 ?_; intro v1 w1 r1 hg1 hd1; clear hd1; have hb1 := r0.below_app hg1 hz0; have k21 : w1.cell? ⟨b, 1, none⟩ = some (.slice A2 n2 c2) := (hb1.cell (p := ⟨b, 1, none⟩) hb).trans k20; have h21 := h20.below hb1; have k31 : w1.cell? ⟨b, 2, none⟩ = some (.slice A3 n3 c3) := (hb1.cell (p := ⟨b, 2, none⟩) hb).trans k30; have h31 := h30.below hb1; have hB1 := hB0.trans hb1; have hz1 := hB1.size; have lb1 : b < w1.heap.size := Nat.lt_of_lt_of_le hb hz1)
  rw [rounds_succ]
  go_wp2_with (at_builtin; refine wpList_app _ rfl (.tmp 31) (.tmp 32) rfl w.heap.size _ _ _ rfl r1 _ _ n2 c2 _ rfl h21 (by omega) hz1 ?_; intro v2 w2 r2 hg2 hd2; clear hd2; have hb2 := r1.below_app hg2 hz1; have k32 : w2.cell? ⟨b, 2, none⟩ = some (.slice A3 n3 c3) := (hb2.cell (p := ⟨b, 2, none⟩) hb).trans k31; have h32 := h31.below hb2; have hB2 := hB1.trans hb2; have hz2 := hB2.size; have lb2 : b < w2.heap.size := Nat.lt_of_lt_of_le hb hz2)
  rw [rounds_succ]
  go_wp2_with (at_builtin; refine wpList_app _ rfl (.tmp 31) (.tmp 32) rfl w.heap.size _ _ _ rfl r2 _ _ n3 c3 _ rfl h32 (by omega) hz2 ?_; intro v3 w3 r3 hg3 hd3; clear hd3; have hb3 := r2.below_app hg3 hz2; have hB3 := hB2.trans hb3; have hz3 := hB3.size; have lb3 : b < w3.heap.size := Nat.lt_of_lt_of_le hb hz3)
  rw [rounds_succ]
  go_wp2_with fail
  go_ret
  simp only [List.nil_append, Nat.zero_add] at r3
  exact ⟨_, rfl, r3, hB3⟩
end Go.Proofs.Ytfnclmacodchfaa
