/- attr: an attribute as it stands, in bytes. -/
import Derived.Test.YtfnclmacodchfaaLib
import Derived.Test.YtfnclmacodchfaaWirr
import Derived.LoopTactic
namespace Go.Proofs.Ytfnclmacodchfaa
set_option linter.unusedVariables false
open Go.RowKit

theorem nat_and16 (x : Nat) : x &&& 16 = 16 * (x / 16 % 2) := by
  have h3 : x &&& 2 ^ 4 = if x.testBit 4 then 2 ^ 4 else 0 := by
    apply Nat.eq_of_testBit_eq
    intro i
    rw [Nat.testBit_and, Nat.testBit_two_pow]
    by_cases h : x.testBit 4 = true
    · rw [if_pos h, Nat.testBit_two_pow]
      by_cases e : 4 = i
      · subst e; simp [h]
      · simp [e]
    · rw [if_neg h, Nat.zero_testBit]
      by_cases e : 4 = i
      · subst e; simp at h; simp [h]
      · simp [e]
  rw [Nat.testBit_eq_decide_div_mod_eq] at h3
  show x &&& 2 ^ 4 = _
  rw [h3]
  by_cases h : x / 2 ^ 4 % 2 = 1
  · simp [h]
  · simp [h]; omega
theorem and16b (n : Int) : bits .and .i64 n 16 = 16 * (n / 16 % 2) := by
  show IntKind.i64.wrap ((BitVec.ofInt 64 n &&& BitVec.ofInt 64 16).toNat : Int) = _
  rw [BitVec.toNat_and, show (BitVec.ofInt 64 16).toNat = 16 from by decide, nat_and16, IntKind.wrap_i64, BitVec.toNat_ofInt]
  omega
theorem Byt.nx {w w' : World} {A : Option Addr} {n : Nat} {l : List UInt8} (h : Byt w w.heap.size A n l) (hb : Below w.heap.size w w') : Byt w' w'.heap.size A n l := (h.below hb).more hb.size
/-- is a length of two bytes? -/
def extB (f : Int) : Bool := f / 16 % 2 == 1
theorem ext_bit (f : Int) : (bits .and .i64 f 16 != 0) = extB f := by
  rw [and16b]; unfold extB
  have := Int.emod_nonneg (f / 16) (show (2 : Int) ≠ 0 by omega)
  have := Int.emod_lt_of_pos (f / 16) (show (0 : Int) < 2 by omega)
  rcases (show f / 16 % 2 = 0 ∨ f / 16 % 2 = 1 by omega) with h | h <;> rw [h] <;> decide
/-- an attribute as it stands in memory. -/
structure RawV where
  f : Int
  t : Int
  A : Option Addr
  n : Nat
  c : Nat
  v : List UInt8
def rawK : RK RawV where
  size := 3
  cel r := [.int .i64 r.f, .int .i64 r.t, .slice r.A r.n r.c]
  ok w S r := r.n ≤ r.c ∧ r.c ≤ maxLen ∧ BytS w S r.A r.n r.v
  pos := by omega
  len _ := rfl
  one _ u hu := by simp at hu; rcases hu with rfl | rfl | rfl <;> rfl
  keep h hk := ⟨h.1, h.2.1, h.2.2.keep hk⟩
  more h hS := ⟨h.1, h.2.1, h.2.2.more hS⟩
def rawZ : Value := .agg #[.int .i64 0, .int .i64 0, .slice none 0 0]
theorem raw_ok : ElemOk Try.prog 93 90 rawK.size 40 rawZ := ⟨Try.underlying93, by kernel_rfl, rfl, rawK.pos⟩
theorem refRaw_ok : ElemOk Try.prog 121 124 rawK.size 40 rawZ := ⟨Try.underlying121, by kernel_rfl, rfl, rawK.pos⟩
def oneL (f t : Int) (v : List UInt8) : List UInt8 :=
  [byOf f, byOf t] ++ ((if extB f then be (min v.length 65535 : Nat) 2 else [byOf (min v.length 255 : Nat)]) ++ v.take (if extB f then 65535 else 255))
theorem oneL_ff {f t : Int} {v : List UInt8} (h : extB f = false) : oneL f t v = [byOf f, byOf t] ++ ([byOf (min v.length 255 : Nat)] ++ v.take 255) := by unfold oneL; rw [h]; rfl
theorem oneL_tt {f t : Int} {v : List UInt8} (h : extB f = true) : oneL f t v = [byOf f, byOf t] ++ (be (min v.length 65535 : Nat) 2 ++ v.take 65535) := by unfold oneL; rw [h]; rfl
theorem oneL_len (f t : Int) (v : List UInt8) : (oneL f t v).length ≤ 65539 := by
  unfold oneL; split <;> simp [be_len] <;> omega
theorem byOf_mod (x : Int) : byOf (x % 18446744073709551616) = byOf x := by unfold byOf; rw [Int.emod_emod_of_dvd _ (by decide)]
theorem be1_mod (x : Int) : be (x % 18446744073709551616) 1 = [byOf x] := by simp [be, byOf_mod]
theorem be2_mod (x : Int) (h0 : 0 ≤ x) (h1 : x ≤ 65535) : be (x % 18446744073709551616) 2 = be x 2 := by rw [Int.emod_eq_of_lt h0 (by omega)]
set_option maxRecDepth 100000 in
set_option maxHeartbeats 4000000 in
theorem rawBytes_any (w : World) (r : RawV) (h : rawK.ok w (fun b => b < w.heap.size) r) :
    Calls Try.prog 79 #[.agg #[.int .i64 r.f, .int .i64 r.t, .slice r.A r.n r.c]] w fun e w' => ∃ v, e = .returned v ∧ OwnB w' w.heap.size v (oneL r.f r.t r.v).length (oneL r.f r.t r.v) ∧ Below w.heap.size w w' := by
  obtain ⟨f, t, A, n, c, l⟩ := r
  obtain ⟨hc, hc2, hb0⟩ := h
  have hP : Byt w w.heap.size A n l := hb0.byt fun _ h => h
  clear hb0
  show Calls _ _ #[.agg #[.int .i64 f, .int .i64 t, .slice A n c]] _ _
  simp only
  have hl := hP.1
  have hB := (Below.refl w.heap.size w).alloc (Nat.le_refl _) (.cells #[.int .i64 f, .int .i64 t, .slice A n c] 90)
  have hq := Blk.new w 90 #[.int .i64 f, .int .i64 t, .slice A n c]
  have hI := hP.nx hB
  have hx := ext_bit f
  replace hl := Lib.hid hl
  go_enter Try.func79, Try.ntmps79
  go_wp2_with fail
  generalize w.alloc (.cells #[.int .i64 f, .int .i64 t, .slice A n c] 90) = w1 at *
  have lt1 := hq.lt
  have f0 : w1.cell? ⟨w.heap.size, 0, none⟩ = some (.int .i64 f) := hq.cellv 0 rfl
  have f1 : w1.cell? ⟨w.heap.size, 1, none⟩ = some (.int .i64 t) := hq.cellv 1 rfl
  -- region 1: 0 1 2C 3 4 5C 6
  try refine wp_region_noPanic ?_
  have hs1r : Below w1.heap.size w1 w1.drew := (Below.refl _ _).drew
  refine wp_region_held_drew (S := fun w' => Below w1.heap.size w1 w') (by kernel_rfl) hs1r (fun _ => ?_)
  (refine held_takeA 0 (by rfl) ?_ (by kernel_rfl) (fun _ _ _ h => h) hs1r ?_ ?_; rotate_left; (focus (intro wq hSw; have hrd : ∀ b o, b < w1.heap.size → wq.cell? ⟨b, o, none⟩ = w1.cell? ⟨b, o, none⟩ := (fun b o h => hSw.cell (p := ⟨b, o, none⟩) h); go_simp; try with_reducible rfl; done)); try simp only [Act.put, List.setIfInBounds_toArray, List.set_cons_zero, List.set_cons_succ])
  (refine held_takeA 1 (by rfl) ?_ (by kernel_rfl) (fun _ _ _ h => h) hs1r ?_ ?_; rotate_left; (focus (intro wq hSw; have hrd : ∀ b o, b < w1.heap.size → wq.cell? ⟨b, o, none⟩ = w1.cell? ⟨b, o, none⟩ := (fun b o h => hSw.cell (p := ⟨b, o, none⟩) h); go_simp; try with_reducible rfl; done)); try simp only [Act.put, List.setIfInBounds_toArray, List.set_cons_zero, List.set_cons_succ])
  (refine held_takeA 3 (by rfl) ?_ (by kernel_rfl) (fun _ _ _ h => h) hs1r ?_ ?_; rotate_left; (focus (intro wq hSw; have hrd : ∀ b o, b < w1.heap.size → wq.cell? ⟨b, o, none⟩ = w1.cell? ⟨b, o, none⟩ := (fun b o h => hSw.cell (p := ⟨b, o, none⟩) h); go_simp; try with_reducible rfl; done)); try simp only [Act.put, List.setIfInBounds_toArray, List.set_cons_zero, List.set_cons_succ])
  (refine held_takeA 4 (by rfl) ?_ (by kernel_rfl) (fun _ _ _ h => h) hs1r ?_ ?_; rotate_left; (focus (intro wq hSw; have hrd : ∀ b o, b < w1.heap.size → wq.cell? ⟨b, o, none⟩ = w1.cell? ⟨b, o, none⟩ := (fun b o h => hSw.cell (p := ⟨b, o, none⟩) h); go_simp; try with_reducible rfl; done)); try simp only [Act.put, List.setIfInBounds_toArray, List.set_cons_zero, List.set_cons_succ])
  refine held_callA 2 (by rfl) (by kernel_rfl) (by rfl) (fun KQ hKQ => ?_)
  go_simp
  refine (put8_any w1.drew none 0 0 [] 0 Byt.none_ (by omega) (by omega) f).mono ?_
  rintro e w2 ⟨v2, rfl, own2, hb⟩
  rw [be1_mod, List.nil_append, Nat.zero_add] at own2
  obtain ⟨A2, c2, rfl, _, by2, _⟩ := own2.any
  replace hI := hI.drew.nx hb
  replace hq := hq.drew.below hb (show w.heap.size < w1.drew.heap.size from lt1)
  have lt1 := hq.lt
  have f1 : w2.cell? ⟨w.heap.size, 1, none⟩ = some (.int .i64 t) := hq.cellv 1 rfl
  clear own2
  refine hKQ.out _ _ (hs1r.trans hb) (held_mono (S' := fun w' => Below w2.heap.size w2 w') (fun w' h => (hs1r.trans hb).trans (h.mono (hs1r.trans hb).size)) _ _ _ _ ?_)
  clear hKQ KQ
  replace hB := hB.trans ((hs1r.trans hb).mono hB.size)
  have hs2r : Below w2.heap.size w2 w2 := Below.refl _ _
  try simp only [Act.put, List.setIfInBounds_toArray, List.set_cons_zero, List.set_cons_succ]
  clear hb
  refine held_callA 5 (by rfl) (by kernel_rfl) (by rfl) (fun KQ hKQ => ?_)
  go_simp
  refine (put8_any w2 A2 1 c2 _ _ by2 (Nat.le_refl _) (by omega) t).mono ?_
  rintro e w3 ⟨v3, rfl, own3, hb⟩
  rw [be1_mod] at own3
  obtain ⟨A3, c3, rfl, _, by3, _⟩ := own3.any
  replace hI := hI.nx hb
  replace hq := hq.below hb hq.lt
  clear own3
  refine hKQ.out _ _ (hs2r.trans hb) (held_mono (S' := fun w' => Below w3.heap.size w3 w') (fun w' h => (hs2r.trans hb).trans (h.mono (hs2r.trans hb).size)) _ _ _ _ ?_)
  clear hKQ KQ
  replace hB := hB.trans ((hs2r.trans hb).mono hB.size)
  have hs3r : Below w3.heap.size w3 w3 := Below.refl _ _
  try simp only [Act.put, List.setIfInBounds_toArray, List.set_cons_zero, List.set_cons_succ]
  (refine held_takeA 6 (by rfl) ?_ (by kernel_rfl) (fun _ _ _ h => h) hs3r ?_ ?_; rotate_left; (focus (intro wq hSw; have hrd : ∀ b o, b < w3.heap.size → wq.cell? ⟨b, o, none⟩ = w3.cell? ⟨b, o, none⟩ := (fun b o h => hSw.cell (p := ⟨b, o, none⟩) h); go_simp; try with_reducible rfl; done)); try simp only [Act.put, List.setIfInBounds_toArray, List.set_cons_zero, List.set_cons_succ])
  clear hb
  refine wpAnyH_done (by kernel_rfl) ?_ _
  try refine NoPanic.normal ?_
  have lt1 := hq.lt
  have f0 : w3.cell? ⟨w.heap.size, 0, none⟩ = some (.int .i64 f) := hq.cellv 0 rfl
  have f2 : w3.cell? ⟨w.heap.size, 2, none⟩ = some (.slice A n c) := hq.cellv 2 rfl
  cases hxb : extB f
  · rw [hxb] at hx
    by_cases hk : n ≤ 255
    rotate_left
    have i1 : (255 : Int) < n := by omega
    obtain ⟨As, hsl, hby⟩ := slice_take A n c 255 (by omega) hc
    have hsb := hby w3 _ l hI
    rw [show ((255 : Nat) : Int) = 255 from rfl] at hsl
    have hone : oneL f t l = [byOf f, byOf t] ++ ([byOf 255] ++ l.take 255) := by
      rw [oneL_ff hxb, hl.out, Nat.min_eq_right (by omega)]
      rfl
    replace hone := Lib.hid hone
    replace hxb := Lib.hid hxb
    clear hby
    go_wp2_with fail
    refine (put8_any w3 A3 2 c3 _ _ by3 (Nat.le_refl _) (by omega) 255).mono ?_
    rintro e w4 ⟨v4, rfl, own4, hb⟩
    rw [be1_mod] at own4
    replace hsb := hsb.nx hb
    replace hq := hq.below hb hq.lt
    have hz3 := hB.size
    replace hB := hB.trans (hb.mono hB.size)
    have lt1 := hq.lt
    have f2 : w4.cell? ⟨w.heap.size, 2, none⟩ = some (.slice A n c) := hq.cellv 2 rfl
    have hz := hB.size
    have hz4 := hb.size
    obtain ⟨A4, c4, rfl, _, _, _⟩ := own4.any
    clear hb
    go_wp2_with (at_builtin; refine wpList_app _ rfl (.tmp 29) (.tmp 33) rfl _ _ _ _ rfl own4 _ _ 255 _ _ rfl hsb (by omega) (by omega) ?_; intro v5 w5 own5 hg5 hd5; clear hd5)
    go_ret
    refine ⟨v5, rfl, ?_, hB.trans ((own4.below_app hg5 (by omega)).mono hz3)⟩
    have hln := own5.len
    rw [hone.out]
    simp only [List.cons_append, List.nil_append] at own5 hln ⊢
    rw [← hln] at own5
    exact own5.less hz3
    have i1 : (n : Int) ≤ 255 := by omega
    obtain ⟨As, hsl, hby⟩ := slice_take A n c n (by omega) hc
    have hsb := hby w3 _ l hI
    have hone : oneL f t l = [byOf f, byOf t] ++ ([byOf (n : Int)] ++ l.take n) := by
      rw [oneL_ff hxb, hl.out, Nat.min_eq_left (by omega)]
      rw [List.take_of_length_le (i := n) (by have := hl.out; omega), List.take_of_length_le (by have := hl.out; omega)]
    replace hone := Lib.hid hone
    replace hxb := Lib.hid hxb
    clear hby
    go_wp2_with fail
    refine (put8_any w3 A3 2 c3 _ _ by3 (Nat.le_refl _) (by omega) (n : Int)).mono ?_
    rintro e w4 ⟨v4, rfl, own4, hb⟩
    rw [be1_mod] at own4
    replace hsb := hsb.nx hb
    replace hq := hq.below hb hq.lt
    have hz3 := hB.size
    replace hB := hB.trans (hb.mono hB.size)
    have lt1 := hq.lt
    have f2 : w4.cell? ⟨w.heap.size, 2, none⟩ = some (.slice A n c) := hq.cellv 2 rfl
    have hz := hB.size
    have hz4 := hb.size
    obtain ⟨A4, c4, rfl, _, _, _⟩ := own4.any
    clear hb
    go_wp2_with (at_builtin; refine wpList_app _ rfl (.tmp 29) (.tmp 33) rfl _ _ _ _ rfl own4 _ _ n _ _ rfl hsb (by omega) (by omega) ?_; intro v5 w5 own5 hg5 hd5; clear hd5)
    go_ret
    refine ⟨v5, rfl, ?_, hB.trans ((own4.below_app hg5 (by omega)).mono hz3)⟩
    have hln := own5.len
    rw [hone.out]
    simp only [List.cons_append, List.nil_append] at own5 hln ⊢
    rw [← hln] at own5
    exact own5.less hz3
  · rw [hxb] at hx
    by_cases hk : n ≤ 65535
    rotate_left
    have i1 : (65535 : Int) < n := by omega
    have i2 : (255 : Int) < n := by omega
    obtain ⟨As, hsl, hby⟩ := slice_take A n c 65535 (by omega) hc
    have hsb := hby w3 _ l hI
    rw [show ((65535 : Nat) : Int) = 65535 from rfl] at hsl
    have hone : oneL f t l = [byOf f, byOf t] ++ (be 65535 2 ++ l.take 65535) := by
      rw [oneL_tt hxb, hl.out, Nat.min_eq_right (by omega)]
      rfl
    replace hone := Lib.hid hone
    replace hxb := Lib.hid hxb
    clear hby
    go_wp2_with fail
    refine (put16_any w3 A3 2 c3 _ _ by3 (Nat.le_refl _) (by omega) 65535).mono ?_
    rintro e w4 ⟨v4, rfl, own4, hb⟩
    rw [be2_mod _ (by omega) (by omega)] at own4
    replace hsb := hsb.nx hb
    replace hq := hq.below hb hq.lt
    have hz3 := hB.size
    replace hB := hB.trans (hb.mono hB.size)
    have lt1 := hq.lt
    have f2 : w4.cell? ⟨w.heap.size, 2, none⟩ = some (.slice A n c) := hq.cellv 2 rfl
    have hz := hB.size
    have hz4 := hb.size
    obtain ⟨A4, c4, rfl, _, _, _⟩ := own4.any
    clear hb
    go_wp2_with (at_builtin; refine wpList_app _ rfl (.tmp 29) (.tmp 33) rfl _ _ _ _ rfl own4 _ _ 65535 _ _ rfl hsb (by omega) (by omega) ?_; intro v5 w5 own5 hg5 hd5; clear hd5)
    go_ret
    refine ⟨v5, rfl, ?_, hB.trans ((own4.below_app hg5 (by omega)).mono hz3)⟩
    have hln := own5.len
    rw [hone.out]
    simp only [List.cons_append, List.nil_append] at own5 hln ⊢
    rw [← hln] at own5
    exact own5.less hz3
    by_cases hk2 : n ≤ 255
    rotate_left
    have i1 : (n : Int) ≤ 65535 := by omega
    have i2 : (255 : Int) < n := by omega
    obtain ⟨As, hsl, hby⟩ := slice_take A n c n (by omega) hc
    have hsb := hby w3 _ l hI
    have hone : oneL f t l = [byOf f, byOf t] ++ (be (n : Int) 2 ++ l.take n) := by
      rw [oneL_tt hxb, hl.out, Nat.min_eq_left (by omega)]
      rw [List.take_of_length_le (i := n) (by have := hl.out; omega), List.take_of_length_le (by have := hl.out; omega)]
    replace hone := Lib.hid hone
    replace hxb := Lib.hid hxb
    clear hby
    go_wp2_with fail
    refine (put16_any w3 A3 2 c3 _ _ by3 (Nat.le_refl _) (by omega) (n : Int)).mono ?_
    rintro e w4 ⟨v4, rfl, own4, hb⟩
    rw [be2_mod _ (by omega) (by omega)] at own4
    replace hsb := hsb.nx hb
    replace hq := hq.below hb hq.lt
    have hz3 := hB.size
    replace hB := hB.trans (hb.mono hB.size)
    have lt1 := hq.lt
    have f2 : w4.cell? ⟨w.heap.size, 2, none⟩ = some (.slice A n c) := hq.cellv 2 rfl
    have hz := hB.size
    have hz4 := hb.size
    obtain ⟨A4, c4, rfl, _, _, _⟩ := own4.any
    clear hb
    go_wp2_with (at_builtin; refine wpList_app _ rfl (.tmp 29) (.tmp 33) rfl _ _ _ _ rfl own4 _ _ n _ _ rfl hsb (by omega) (by omega) ?_; intro v5 w5 own5 hg5 hd5; clear hd5)
    go_ret
    refine ⟨v5, rfl, ?_, hB.trans ((own4.below_app hg5 (by omega)).mono hz3)⟩
    have hln := own5.len
    rw [hone.out]
    simp only [List.cons_append, List.nil_append] at own5 hln ⊢
    rw [← hln] at own5
    exact own5.less hz3
    have i1 : (n : Int) ≤ 65535 := by omega
    have i2 : (n : Int) ≤ 255 := by omega
    obtain ⟨As, hsl, hby⟩ := slice_take A n c n (by omega) hc
    have hsb := hby w3 _ l hI
    have hone : oneL f t l = [byOf f, byOf t] ++ (be (n : Int) 2 ++ l.take n) := by
      rw [oneL_tt hxb, hl.out, Nat.min_eq_left (by omega)]
      rw [List.take_of_length_le (i := n) (by have := hl.out; omega), List.take_of_length_le (by have := hl.out; omega)]
    replace hone := Lib.hid hone
    replace hxb := Lib.hid hxb
    clear hby
    go_wp2_with fail
    all_goals try (exfalso; omega)
    refine (put16_any w3 A3 2 c3 _ _ by3 (Nat.le_refl _) (by omega) (n : Int)).mono ?_
    rintro e w4 ⟨v4, rfl, own4, hb⟩
    rw [be2_mod _ (by omega) (by omega)] at own4
    replace hsb := hsb.nx hb
    replace hq := hq.below hb hq.lt
    have hz3 := hB.size
    replace hB := hB.trans (hb.mono hB.size)
    have lt1 := hq.lt
    have f2 : w4.cell? ⟨w.heap.size, 2, none⟩ = some (.slice A n c) := hq.cellv 2 rfl
    have hz := hB.size
    have hz4 := hb.size
    obtain ⟨A4, c4, rfl, _, _, _⟩ := own4.any
    clear hb
    go_wp2_with (at_builtin; refine wpList_app _ rfl (.tmp 29) (.tmp 33) rfl _ _ _ _ rfl own4 _ _ n _ _ rfl hsb (by omega) (by omega) ?_; intro v5 w5 own5 hg5 hd5; clear hd5)
    go_ret
    refine ⟨v5, rfl, ?_, hB.trans ((own4.below_app hg5 (by omega)).mono hz3)⟩
    have hln := own5.len
    rw [hone.out]
    simp only [List.cons_append, List.nil_append] at own5 hln ⊢
    rw [← hln] at own5
    exact own5.less hz3
end Go.Proofs.Ytfnclmacodchfaa
