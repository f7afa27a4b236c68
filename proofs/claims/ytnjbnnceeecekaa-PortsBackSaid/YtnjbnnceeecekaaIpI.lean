/- ip: both builds are the same bytes; Same. -/
import Derived.Test.YtnjbnnceeecekaaIpG
import Derived.BigGuardPart
namespace Go.Proofs.Ytnjbnnceeecekaa
set_option linter.unusedVariables false
open Go.RowKit

theorem be_one (x : Int) : be x 1 = [byOf x] := by simp [be]
theorem head_ref (t i f g l p s d : Int) (n m : Nat) (hgd : goodH t i f g l p n = true) (hmn : m + n ≤ 8980) : headL t i f g l p s d n m = refL t i f g l p s d n (20 + n + m) 0 := by
  have hb : 0 ≤ t ∧ t ≤ 255 ∧ 0 ≤ l ∧ l ≤ 255 ∧ 0 ≤ p ∧ p ≤ 255 ∧ 0 ≤ i ∧ i ≤ 65535 ∧ n ≤ 40 := by simp [goodH, inH] at hgd; omega
  unfold headL refL
  rw [be_one, be_one, be_one, be_one, Int.emod_eq_of_lt (a := 20 + (n : Int) + m) (by omega) (by omega), Int.emod_eq_of_lt (a := i) (by omega) (by omega), Int.emod_eq_of_lt (a := 0) (by omega) (by omega)]
  simp [List.append_assoc]
theorem refL_len (t i f g l p s d : Int) (n : Nat) (N sum : Int) : (refL t i f g l p s d n N sum).length = 20 := by simp [refL, be_len]
theorem refL_set (t i f g l p s d : Int) (n : Nat) (N sum x : Int) (o : List UInt8) (h0 : 0 ≤ x) (h1 : x ≤ 65535) : set10 (refL t i f g l p s d n N sum ++ o) x = refL t i f g l p s d n N x ++ o := by
  have e : ∀ y, refL t i f g l p s d n N y ++ o = ([byOf (64 + (20 + (n : Int)) / 4), byOf t] ++ be (N % 18446744073709551616) 2 ++ be (i % 18446744073709551616) 2 ++ be (f * 8192 + g) 2 ++ [byOf l, byOf p]) ++ (be (y % 18446744073709551616) 2 ++ (be s 4 ++ be d 4 ++ o)) := fun y => by simp [refL, List.append_assoc]
  have hl : ([byOf (64 + (20 + (n : Int)) / 4), byOf t] ++ be (N % 18446744073709551616) 2 ++ be (i % 18446744073709551616) 2 ++ be (f * 8192 + g) 2 ++ [byOf l, byOf p]).length = 10 := by simp [be_len]
  rw [e, e]
  generalize [byOf (64 + (20 + (n : Int)) / 4), byOf t] ++ be (N % 18446744073709551616) 2 ++ be (i % 18446744073709551616) 2 ++ be (f * 8192 + g) 2 ++ [byOf l, byOf p] = H at hl ⊢
  unfold set10
  rw [List.take_left' hl, Int.emod_eq_of_lt h0 (by omega)]
  congr 2
  rw [← List.append_assoc, List.drop_left' (by simp [hl, be_len])]
theorem builds_same (t i f g l p s d : Int) (n m : Nat) (o pl : List UInt8) (hgd : goodH t i f g l p n = true) (hmn : m + n ≤ 8980) (ho : o.length = n) :
    set10 (headL t i f g l p s d n m ++ o) (sealV (headL t i f g l p s d n m ++ o) (20 + n)) ++ pl = refL t i f g l p s d n (20 + n + m) (65535 - csum (refL t i f g l p s d n (20 + n + m) 0 ++ o)) ++ o ++ pl := by
  rw [head_ref t i f g l p s d n m hgd hmn]
  have h1 := csum_lo (refL t i f g l p s d n (20 + n + m) 0 ++ o)
  have h2 := csum_hi (refL t i f g l p s d n (20 + n + m) 0 ++ o)
  have hs : sealV (refL t i f g l p s d n (20 + n + m) 0 ++ o) (20 + n) = 65535 - csum (refL t i f g l p s d n (20 + n + m) 0 ++ o) := by
    unfold sealV
    rw [refL_set _ _ _ _ _ _ _ _ _ _ _ _ _ (by omega) (by omega), List.take_of_length_le (by rw [List.length_append, refL_len, ho]; omega)]
  rw [hs, refL_set _ _ _ _ _ _ _ _ _ _ _ _ _ (by omega) (by omega)]

/-- two heads are alike. -/
def sameH (t i f g l p s d : Int) (o : List UInt8) (t' i' f' g' l' p' s' d' : Int) (o' : List UInt8) : Bool :=
  t == t' && i == i' && f == f' && g == g' && l == l' && p == p' && s == s' && d == d' && ((strB o).toList == (strB o').toList)
set_option maxHeartbeats 4000000 in
theorem refSame_any (t i f g l p s d : Int) (A : Option Addr) (n c : Nat) (o : List UInt8) (t' i' f' g' l' p' s' d' : Int) (A' : Option Addr) (n' c' : Nat) (o' : List UInt8) (B B' : Nat) (w : World)
    (h : Byt w B A n o) (h' : Byt w B' A' n' o') (hB : B ≤ w.heap.size) (hB' : B' ≤ w.heap.size) :
    Calls Try.prog 24 #[.agg #[.int .i64 t, .int .i64 i, .int .i64 f, .int .i64 g, .int .i64 l, .int .i64 p, .int .u32 s, .int .u32 d, .slice A n c], .agg #[.int .i64 t', .int .i64 i', .int .i64 f', .int .i64 g', .int .i64 l', .int .i64 p', .int .u32 s', .int .u32 d', .slice A' n' c']] w fun e w' => e = .returned (.bool (sameH t i f g l p s d o t' i' f' g' l' p' s' d' o')) ∧ Below w.heap.size w w' := by
  have hB1 := ((Below.refl w.heap.size w).alloc (Nat.le_refl _) (.cells (hdrCs t i f g l p s d A n c) 58)).alloc (by simp) (.cells (hdrCs t' i' f' g' l' p' s' d' A' n' c') 58)
  unfold hdrCs at hB1
  by_cases et : t = t'
  rotate_left
  · have bt : (t == t') = false := by simpa using et
    go_enter Try.func24, Try.ntmps24
    go_wp2_with fail
    go_ret
    exact ⟨ret_bool (by simp [sameH, bt]), hB1⟩
  subst et
  by_cases ei : i = i'
  rotate_left
  · have bi : (i == i') = false := by simpa using ei
    go_enter Try.func24, Try.ntmps24
    go_wp2_with fail
    go_ret
    exact ⟨ret_bool (by simp [sameH, bi]), hB1⟩
  subst ei
  by_cases ef : f = f'
  rotate_left
  · have bf : (f == f') = false := by simpa using ef
    go_enter Try.func24, Try.ntmps24
    go_wp2_with fail
    go_ret
    exact ⟨ret_bool (by simp [sameH, bf]), hB1⟩
  subst ef
  by_cases eg : g = g'
  rotate_left
  · have bg : (g == g') = false := by simpa using eg
    go_enter Try.func24, Try.ntmps24
    go_wp2_with fail
    go_ret
    exact ⟨ret_bool (by simp [sameH, bg]), hB1⟩
  subst eg
  by_cases el : l = l'
  rotate_left
  · have bl : (l == l') = false := by simpa using el
    go_enter Try.func24, Try.ntmps24
    go_wp2_with fail
    go_ret
    exact ⟨ret_bool (by simp [sameH, bl]), hB1⟩
  subst el
  by_cases ep : p = p'
  rotate_left
  · have bp : (p == p') = false := by simpa using ep
    go_enter Try.func24, Try.ntmps24
    go_wp2_with fail
    go_ret
    exact ⟨ret_bool (by simp [sameH, bp]), hB1⟩
  subst ep
  by_cases es : s = s'
  rotate_left
  · have bs : (s == s') = false := by simpa using es
    go_enter Try.func24, Try.ntmps24
    go_wp2_with fail
    go_ret
    exact ⟨ret_bool (by simp [sameH, bs]), hB1⟩
  subst es
  by_cases ed : d = d'
  rotate_left
  · have bd : (d == d') = false := by simpa using ed
    go_enter Try.func24, Try.ntmps24
    go_wp2_with fail
    go_ret
    exact ⟨ret_bool (by simp [sameH, bd]), hB1⟩
  subst ed
  have q1 := run_str _ ((h.alloc hB (.cells (hdrCs t i f g l p s d A n c) 58)).alloc (by simp; omega) (.cells (hdrCs t i f g l p s d A' n' c') 58)) c
  have q2 := run_str _ ((h'.alloc hB' (.cells (hdrCs t i f g l p s d A n c) 58)).alloc (by simp; omega) (.cells (hdrCs t i f g l p s d A' n' c') 58)) c'
  unfold hdrCs at q1 q2
  go_enter Try.func24, Try.ntmps24
  go_wp2_with fail
  go_ret
  exact ⟨ret_bool (by simp [sameH]), hB1⟩
end Go.Proofs.Ytnjbnnceeecekaa
