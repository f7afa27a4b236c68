/- notice: Good, Same, slices.Concat. -/
import Derived.Lib.AppendZeros
import Derived.BigQuiet
import Derived.Test.YtfnclmacodchfaaDoorWira
namespace Go.Proofs.YtfnclmacodchfaaDoor
set_option linter.unusedVariables false
open Go Go.RowKit

theorem u8_ok : ElemOk Tryd.prog 22 5 1 1 (.int .u8 0) := ⟨Tryd.underlying22, by kernel_rfl, rfl, by omega⟩
theorem run_zeros {st et : TypeId} {size bytes : Nat} {z : Value} (E : ElemOk Tryd.prog st et size bytes z) (w : World) (n : Nat) (h0 : 0 < n) (h : n * bytes ≤ 140737488355328) (h2 : n ≤ 100000000) (ty : TypeId) :
    ∃ (cs : Array Value) (cap : Nat), (Builtin.append_ #[st, 3] ty #[.slice none 0 0, .int .i64 n]).run Tryd.prog w = .ok (.slice (some ⟨w.heap.size, 0, none⟩) n cap) (w.drew.alloc (.cells cs et)) ∧ n ≤ cap ∧ cap ≤ maxLen ∧ cs.size = cap * size := by
  obtain ⟨i, hi, hz, hs, hb⟩ := info_parts E.info
  have hg := grownCap_ge w n 0 et
  refine ⟨_, grownCap w n 0 et, Lib.run_append_nil_zeros w st 3 ty et i z .i64 .i64 E.slice Tryd.underlying3 hi hz n h0 (by rw [hs]; exact E.pos) (by omega) (by rw [hb]; omega), hg, grownCap_le_maxLen w n 0 et (by unfold maxLen; omega), ?_⟩
  rw [Array.size_append, size_zeroCells, size_zeroCells, E.cells, ← Nat.add_mul, show n + (grownCap w n 0 et - n) = grownCap w n 0 et by omega]
set_option maxRecDepth 100000 in
theorem growB_any (w : World) (n : Nat) (hn : n ≤ 10000000) :
    Calls Tryd.prog 29 #[.slice none 0 0, .int .i64 n] w fun e w' => ∃ v, e = .returned v ∧ Own1 w' w.heap.size 5 1 v 0 [] ∧ Below w.heap.size w w' := by
  go_enter Tryd.func29, Tryd.ntmps29
  by_cases h0 : n = 0
  · subst h0
    go_wp2_with fail
    go_ret
    exact ⟨_, rfl, Own1.nil _ _ _ _, Below.refl _ _⟩
  have hrz := fun ty => run_zeros u8_ok w n (by omega) (by omega) (by omega) ty
  have hpos : (0 : Int) < n := by omega
  go_wp2_with (at_builtin; obtain ⟨cs, cap, hr, h1, h2, h3⟩ := hrz 22; refine Lib.wpList_append_run _ rfl _ _ _ _ rfl _ _ rfl rfl _ _ hr ?_)
  go_ret
  have hB := (Below.refl w.heap.size w.drew).alloc (Nat.le_refl _) (.cells cs 5)
  exact ⟨_, rfl, World.ownsRow_made w.drew cs cap (Nat.le_refl _) h2 h3, (Below.refl _ _).drew.trans hB⟩
set_option maxRecDepth 100000 in
set_option maxHeartbeats 4000000 in
theorem concatB_any (w : World) (b : Nat) (hb : b < w.heap.size) (A1 : Option Addr) (n1 c1 : Nat) (l1 : List UInt8) (A2 : Option Addr) (n2 c2 : Nat) (l2 : List UInt8) (k1 : w.cell? ⟨b, 0, none⟩ = some (.slice A1 n1 c1)) (k2 : w.cell? ⟨b, 1, none⟩ = some (.slice A2 n2 c2)) (h1 : Byt w w.heap.size A1 n1 l1) (h2 : Byt w w.heap.size A2 n2 l2) (z1 : n1 ≤ 1000000) (z2 : n2 ≤ 1000000) :
    Calls Tryd.prog 23 #[.slice (some ⟨b, 0, none⟩) 2 2] w fun e w' => ∃ v, e = .returned v ∧ OwnB w' w.heap.size v (n1 + n2) (l1 ++ l2) ∧ Below w.heap.size w w' := by
  have hg := fun w => growB_any w (n1 + n2) (by omega)
  simp only [Int.natCast_add] at hg
  go_enter Tryd.func23, Tryd.ntmps23
  go_wp2_with fail
  refine wp_loop_rounds 3 ?_
  change Code.rounds _ _ _ _ _ w
  rw [rounds_succ]
  go_wp2_with fail
  rw [rounds_succ]
  go_wp2_with fail
  rw [rounds_succ]
  go_wp2_with (go_at_call 29; refine (hg w).mono ?_; rintro e w0 ⟨v0, rfl, own0, hB0⟩)
  have k10 : w0.cell? ⟨b, 0, none⟩ = some (.slice A1 n1 c1) := (hB0.cell (p := ⟨b, 0, none⟩) hb).trans k1
  have k20 : w0.cell? ⟨b, 1, none⟩ = some (.slice A2 n2 c2) := (hB0.cell (p := ⟨b, 1, none⟩) hb).trans k2
  have h10 := h1.below hB0
  have h20 := h2.below hB0
  have lb0 : b < w0.heap.size := Nat.lt_of_lt_of_le hb hB0.size
  have hz0 := hB0.size
  refine wp_loop_rounds 3 ?_
  change Code.rounds _ _ _ _ _ w0
  have r0 : OwnB w0 w.heap.size v0 0 [] := own0
  rw [rounds_succ]
  go_wp2_with (at_builtin; refine wpList_app _ rfl (.tmp 31) (.tmp 32) rfl w.heap.size _ _ _ rfl r0 _ _ n1 c1 _ rfl h10 (by omega) hz0 ?_; intro v1 w1 r1 hg1 hd1; clear hd1; have hb1 := r0.below_app hg1 hz0; have k21 : w1.cell? ⟨b, 1, none⟩ = some (.slice A2 n2 c2) := (hb1.cell (p := ⟨b, 1, none⟩) hb).trans k20; have h21 := h20.below hb1; have hB1 := hB0.trans hb1; have hz1 := hB1.size; have lb1 : b < w1.heap.size := Nat.lt_of_lt_of_le hb hz1)
  rw [rounds_succ]
  go_wp2_with (at_builtin; refine wpList_app _ rfl (.tmp 31) (.tmp 32) rfl w.heap.size _ _ _ rfl r1 _ _ n2 c2 _ rfl h21 (by omega) hz1 ?_; intro v2 w2 r2 hg2 hd2; clear hd2; have hb2 := r1.below_app hg2 hz1; have hB2 := hB1.trans hb2; have hz2 := hB2.size; have lb2 : b < w2.heap.size := Nat.lt_of_lt_of_le hb hz2)
  rw [rounds_succ]
  go_wp2_with fail
  go_ret
  simp only [List.nil_append, Nat.zero_add] at r2
  exact ⟨_, rfl, r2, hB2⟩
theorem strB_list (l : List UInt8) : (strB l).toList = l := by
  rw [Lib.toList_data]; simp [strB]
theorem bytesEq_any (A A' : Option Addr) (n c n' c' : Nat) (l l' : List UInt8) (B B' : Nat) (w : World) (h : Byt w B A n l) (h' : Byt w B' A' n' l') :
    Calls Tryd.prog 24 #[.slice A n c, .slice A' n' c'] w fun e w' => e = .returned (.bool (l == l')) ∧ w = w' := by
  have q1 := run_str w h c
  have q2 := run_str w h' c'
  have e : ((strB l).toList == (strB l').toList) = (l == l') := by rw [strB_list, strB_list]
  replace e := Lib.hid e
  go_enter Tryd.func24, Tryd.ntmps24
  go_wp2_with fail
  go_ret
  exact ⟨ret_bool e.out, rfl⟩
def faultC (a s : Int) (d : List UInt8) (a' s' : Int) (d' : List UInt8) : Bool := a == a' && s == s' && d == d'
set_option maxHeartbeats 2000000 in
theorem faults7_any (w : World) (a s : Int) (A : Option Addr) (n c : Nat) (d : List UInt8) (a' s' : Int) (A' : Option Addr) (n' c' : Nat) (d' : List UInt8) (B B' : Nat) (h : Byt w B A n d) (h' : Byt w B' A' n' d') (hB : B ≤ w.heap.size) (hB' : B' ≤ w.heap.size) :
    Calls Tryd.prog 13 #[.agg #[.int .i64 a, .int .i64 s, .slice A n c], .agg #[.int .i64 a', .int .i64 s', .slice A' n' c']] w fun e w' => e = .returned (.bool (faultC a s d a' s' d')) ∧ Below w.heap.size w w' := by
  have hb := ((Below.refl w.heap.size w).alloc (Nat.le_refl _) (.cells #[.int .i64 a, .int .i64 s, .slice A n c] 24)).alloc (by simp) (.cells #[.int .i64 a', .int .i64 s', .slice A' n' c'] 24)
  have q1 := run_str _ ((h.more hB).below hb) c
  have q2 := run_str _ ((h'.more hB').below hb) c'
  go_enter Tryd.func13, Tryd.ntmps13
  by_cases ea : a = a'
  rotate_left
  · have b1 : (a == a') = false := by simpa using ea
    have f : faultC a s d a' s' d' = false := by unfold faultC; rw [b1]; rfl
    replace f := Lib.hid f
    go_wp2_with fail
    go_ret
    exact ⟨ret_bool f.out.symm, hb⟩
  have b1 : (a == a') = true := by simpa using ea
  replace ea := Lib.hid ea
  by_cases es : s = s'
  rotate_left
  · have b2 : (s == s') = false := by simpa using es
    have f : faultC a s d a' s' d' = false := by unfold faultC; rw [b2]; simp
    replace f := Lib.hid f
    go_wp2_with fail
    go_ret
    exact ⟨ret_bool f.out.symm, hb⟩
  have b2 : (s == s') = true := by simpa using es
  have f : faultC a s d a' s' d' = ((strB d).toList == (strB d').toList) := by unfold faultC; rw [b1, b2, strB_list, strB_list]; rfl
  replace es := Lib.hid es
  replace f := Lib.hid f
  go_wp2_with fail
  go_ret
  exact ⟨ret_bool f.out.symm, hb⟩

def goodN (cd sb : Int) (n : Nat) : Bool := (decide (1 ≤ cd) && decide (cd ≤ 255)) && (decide (0 ≤ sb) && decide (sb ≤ 255)) && decide (n ≤ 4075)
set_option maxRecDepth 100000 in
set_option maxHeartbeats 4000000 in
theorem noGood_any (w : World) (cd sb : Int) (A : Option Addr) (n c : Nat) : Calls Tryd.prog 8 #[.agg #[.int .i64 cd, .int .i64 sb, .slice A n c]] w fun e w' => e = .returned (.bool (goodN cd sb n)) ∧ Below w.heap.size w w' := by
  have hB := (Below.refl w.heap.size w).alloc (Nat.le_refl _) (.cells #[.int .i64 cd, .int .i64 sb, .slice A n c] 24)
  go_enter Tryd.func8, Tryd.ntmps8
  by_cases h0 : 1 ≤ cd
  rotate_left
  · have k0 : ¬ (1 ≤ cd) := by omega
    have e : false = goodN cd sb n := by unfold goodN; simp; omega
    replace e := Lib.hid e
    go_wp2_with fail
    go_ret
    exact ⟨ret_bool e.out, hB⟩
  have k0 : 1 ≤ cd := by omega
  by_cases h1 : cd ≤ 255
  rotate_left
  · have k1 : ¬ (cd ≤ 255) := by omega
    have e : false = goodN cd sb n := by unfold goodN; simp; omega
    replace e := Lib.hid e
    go_wp2_with fail
    go_ret
    exact ⟨ret_bool e.out, hB⟩
  have k1 : cd ≤ 255 := by omega
  by_cases h2 : 0 ≤ sb
  rotate_left
  · have k2 : ¬ (0 ≤ sb) := by omega
    have e : false = goodN cd sb n := by unfold goodN; simp; omega
    replace e := Lib.hid e
    go_wp2_with fail
    go_ret
    exact ⟨ret_bool e.out, hB⟩
  have k2 : 0 ≤ sb := by omega
  by_cases h3 : sb ≤ 255
  rotate_left
  · have k3 : ¬ (sb ≤ 255) := by omega
    have e : false = goodN cd sb n := by unfold goodN; simp; omega
    replace e := Lib.hid e
    go_wp2_with fail
    go_ret
    exact ⟨ret_bool e.out, hB⟩
  have k3 : sb ≤ 255 := by omega
  by_cases h4 : n ≤ 4075
  rotate_left
  · have k4 : ¬ ((n : Int) ≤ 4075) := by omega
    have e : false = goodN cd sb n := by unfold goodN; simp; omega
    replace e := Lib.hid e
    go_wp2_with fail
    go_ret
    exact ⟨ret_bool e.out, hB⟩
  have k4 : (n : Int) ≤ 4075 := by omega
  have e : true = goodN cd sb n := by unfold goodN; simp; omega
  replace e := Lib.hid e
  go_wp2_with fail
  go_ret
  exact ⟨ret_bool e.out, hB⟩
set_option maxRecDepth 100000 in
set_option maxHeartbeats 4000000 in
theorem refNoGood_any (w : World) (cd sb : Int) (A : Option Addr) (n c : Nat) : Calls Tryd.prog 9 #[.agg #[.int .i64 cd, .int .i64 sb, .slice A n c]] w fun e w' => e = .returned (.bool (goodN cd sb n)) ∧ Below w.heap.size w w' := by
  have hB := (Below.refl w.heap.size w).alloc (Nat.le_refl _) (.cells #[.int .i64 cd, .int .i64 sb, .slice A n c] 24)
  go_enter Tryd.func9, Tryd.ntmps9
  by_cases h0 : 1 ≤ cd
  rotate_left
  · have k0 : ¬ (1 ≤ cd) := by omega
    have e : false = goodN cd sb n := by unfold goodN; simp; omega
    replace e := Lib.hid e
    go_wp2_with fail
    go_ret
    exact ⟨ret_bool e.out, hB⟩
  have k0 : 1 ≤ cd := by omega
  by_cases h1 : cd ≤ 255
  rotate_left
  · have k1 : ¬ (cd ≤ 255) := by omega
    have e : false = goodN cd sb n := by unfold goodN; simp; omega
    replace e := Lib.hid e
    go_wp2_with fail
    go_ret
    exact ⟨ret_bool e.out, hB⟩
  have k1 : cd ≤ 255 := by omega
  by_cases h2 : 0 ≤ sb
  rotate_left
  · have k2 : ¬ (0 ≤ sb) := by omega
    have e : false = goodN cd sb n := by unfold goodN; simp; omega
    replace e := Lib.hid e
    go_wp2_with fail
    go_ret
    exact ⟨ret_bool e.out, hB⟩
  have k2 : 0 ≤ sb := by omega
  by_cases h3 : sb ≤ 255
  rotate_left
  · have k3 : ¬ (sb ≤ 255) := by omega
    have e : false = goodN cd sb n := by unfold goodN; simp; omega
    replace e := Lib.hid e
    go_wp2_with fail
    go_ret
    exact ⟨ret_bool e.out, hB⟩
  have k3 : sb ≤ 255 := by omega
  by_cases h4 : n ≤ 4075
  rotate_left
  · have k4 : ¬ ((n : Int) ≤ 4075) := by omega
    have e : false = goodN cd sb n := by unfold goodN; simp; omega
    replace e := Lib.hid e
    go_wp2_with fail
    go_ret
    exact ⟨ret_bool e.out, hB⟩
  have k4 : (n : Int) ≤ 4075 := by omega
  have e : true = goodN cd sb n := by unfold goodN; simp; omega
  replace e := Lib.hid e
  go_wp2_with fail
  go_ret
  exact ⟨ret_bool e.out, hB⟩
set_option maxHeartbeats 4000000 in
theorem noSame_any (w : World) (a s : Int) (A : Option Addr) (n c : Nat) (d : List UInt8) (a' s' : Int) (A' : Option Addr) (n' c' : Nat) (d' : List UInt8) (h : Byt w w.heap.size A n d) (h' : Byt w w.heap.size A' n' d') :
    Calls Tryd.prog 12 #[.agg #[.int .i64 a, .int .i64 s, .slice A n c], .agg #[.int .i64 a', .int .i64 s', .slice A' n' c']] w fun e w' => e = .returned (.bool (faultC a s d a' s' d')) ∧ Below w.heap.size w w' := by
  have hb := ((Below.refl w.heap.size w).alloc (Nat.le_refl _) (.cells #[.int .i64 a, .int .i64 s, .slice A n c] 24)).alloc (by simp) (.cells #[.int .i64 a', .int .i64 s', .slice A' n' c'] 24)
  have q1 := h.below hb
  have q2 := h'.below hb
  go_enter Tryd.func12, Tryd.ntmps12
  by_cases ea : a = a'
  rotate_left
  · have b1 : (a == a') = false := by simpa using ea
    have f : faultC a s d a' s' d' = false := by unfold faultC; rw [b1]; rfl
    replace f := Lib.hid f
    go_wp2_with fail
    go_ret
    exact ⟨ret_bool f.out.symm, hb⟩
  have b1 : (a == a') = true := by simpa using ea
  replace ea := Lib.hid ea
  by_cases es : s = s'
  rotate_left
  · have b2 : (s == s') = false := by simpa using es
    have f : faultC a s d a' s' d' = false := by unfold faultC; rw [b2]; simp
    replace f := Lib.hid f
    go_wp2_with fail
    go_ret
    exact ⟨ret_bool f.out.symm, hb⟩
  have b2 : (s == s') = true := by simpa using es
  have f : faultC a s d a' s' d' = (d == d') := by unfold faultC; rw [b1, b2]; rfl
  replace es := Lib.hid es
  replace f := Lib.hid f
  go_wp2_with fail
  refine (bytesEq_any A A' n c n' c' d d' _ _ _ q1 q2).mono ?_
  rintro e w2 ⟨rfl, rfl⟩
  go_wp2_with fail
  go_ret
  exact ⟨ret_bool f.out.symm, hb⟩
end Go.Proofs.YtfnclmacodchfaaDoor
