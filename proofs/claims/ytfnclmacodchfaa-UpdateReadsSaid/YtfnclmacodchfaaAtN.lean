/- attr: take. -/
import Derived.Test.YtfnclmacodchfaaAtM
namespace Go.Proofs.Ytfnclmacodchfaa
set_option linter.unusedVariables false
open Go.RowKit

set_option maxRecDepth 100000 in
set_option maxHeartbeats 4000000 in
theorem takeK1_any (w : World) (L g : Nat) (a : AttV) (f : Int) (V : Option Addr) (n vc : Nat) (v : List UInt8) (hA : AttIn w L g a) (hgL : g < L) (hL : L ≤ w.heap.size) (hv : Byt w w.heap.size V n v) (hvc : n ≤ vc) (hvm : vc ≤ maxLen) (hn : n ≤ 10000000) :
    Calls Try.prog 78 #[.pointer (some ⟨g, 0, none⟩), .agg #[.int .i64 f, .int .i64 1, .slice V n vc]] w fun e w' => w.grownBy w' (some g) ∧ TakeP w' L g e (takeS a f 1 v) := by
  have hgw := hA.lt
  have hl := Lib.hid hv.1
  have hB := (Below.refl w.heap.size w).alloc (Nat.le_refl _) (.cells #[.int .i64 f, .int .i64 1, .slice V n vc] 90)
  have hr := Blk.new w 90 #[.int .i64 f, .int .i64 1, .slice V n vc]
  have hst := fun (w : World) (p : Addr) (f : Fn) (x y : Array Value) (m : Mode) => run_store Try.prog w p (.func f x y) m rfl
  have hst2 := fun (w : World) (p : Addr) (m : Mode) => run_store Try.prog w p .nilFunc m rfl
  replace hv := hv.nx hB
  replace hA := hA.below hB
  have hx0 : w.heap.size < (w.alloc (.cells #[.int .i64 f, .int .i64 1, .slice V n vc] 90)).heap.size := by simp
  generalize hw0 : w.alloc (.cells #[.int .i64 f, .int .i64 1, .slice V n vc] 90) = w0 at *
  have ltr := hr.lt
  have r1 : w0.cell? ⟨w.heap.size, 1, none⟩ = some (.int .i64 1) := hr.cellv 1 rfl
  go_enter Try.func78, Try.ntmps78
  go_wp2_with fail
  refine (rule1_any w0 g).mono ?_
  rintro e w1 ⟨rfl, hb, hbx⟩
  replace hv := hv.nx hb
  replace hA := hA.below hb
  replace hr := hr.below hb hr.lt
  replace hB := hB.trans (hb.mono hB.size)
  have hz1 := hb.size
  clear hw0 ltr r1 hb
  have hba := (Below.refl w1.heap.size w1).alloc (Nat.le_refl _) (.cells #[.int .i64 64, .int .i64 1, .func (.func 108) #[] #[.pointer (some ⟨w0.heap.size, 0, none⟩)]] 142)
  have hu := Blk.new w1 142 #[.int .i64 64, .int .i64 1, .func (.func 108) #[] #[.pointer (some ⟨w0.heap.size, 0, none⟩)]]
  have hbl := hbx.lt
  replace hv := hv.nx hba
  replace hA := hA.below hba
  replace hr := hr.below hba hr.lt
  replace hbx := hbx.below hba hbx.lt
  replace hB := hB.trans (hba.mono hB.size)
  clear hba
  go_upto_region 2 with (fail)
  generalize w1.alloc (.cells #[.int .i64 64, .int .i64 1, .func (.func 108) #[] #[.pointer (some ⟨w0.heap.size, 0, none⟩)]] 142) = w2 at *
  generalize hgu : w1.heap.size = gu at *
  generalize hgb : w0.heap.size = gb at *
  have hG := grown_of hB (Nat.le_refl _) (some g)
  have ltr := hr.lt
  have ltu := hu.lt
  have f0 : w2.cell? ⟨w.heap.size, 0, none⟩ = some (.int .i64 f) := hr.cellv 0 rfl
  have f2 : w2.cell? ⟨w.heap.size, 2, none⟩ = some (.slice V n vc) := hr.cellv 2 rfl
  have u0 : w2.cell? ⟨gu, 0, none⟩ = some (.int .i64 64) := hu.cellv 0 rfl
  have u1 : w2.cell? ⟨gu, 1, none⟩ = some (.int .i64 1) := hu.cellv 1 rfl
  have u2 : w2.cell? ⟨gu, 2, none⟩ = some (.func (.func 108) #[] #[.pointer (some ⟨gb, 0, none⟩)]) := hu.cellv 2 rfl
  have hgne : gb ≠ g := by omega
  replace hgu := Lib.hid hgu
  replace hgb := Lib.hid hgb
  by_cases hf : baseF f = 64
  rotate_left
  · have b1 : (bits .andNot .i64 f 16 != 64) = true := by rw [bne_iff_ne]; exact hf
    have spec : takeS a f 1 v = .error 4 := by unfold takeS; rw [if_pos rfl, if_pos hf]
    replace spec := Lib.hid spec
    replace hf := Lib.hid hf
    go_wp2_with fail
    go_ret
    exact ⟨hG, by rw [spec.out]; exact ⟨rfl, by decide⟩⟩
  have b1 : (bits .andNot .i64 f 16 != 64) = false := by rw [bne_eq_false_iff_eq]; exact hf
  by_cases hs : n = 1
  rotate_left
  · have b2 : ((n : Int) != 1) = true := by rw [bne_iff_ne]; omega
    have spec : takeS a f 1 v = .error 5 := by unfold takeS; rw [if_pos rfl, if_neg (by simpa using hf), if_pos (by rw [hl.out]; exact hs)]
    replace spec := Lib.hid spec
    replace hf := Lib.hid hf
    replace hs := Lib.hid hs
    go_wp2_with fail
    go_ret
    exact ⟨hG, by rw [spec.out]; exact ⟨rfl, by decide⟩⟩
  subst hs
  obtain ⟨A0, n0, c0, hq, hS⟩ := hA
  replace hf := Lib.hid hf
  go_wp2_with fail
  refine (take1_any w2 g gb a.o A0 n0 c0 a.h a.m a.b V vc v hq hbx hv hvc hvm hgne).mono ?_
  rintro e w3 ⟨rfl, hq3, hg3⟩
  have hS3 := (hS.grown hg3 (fun b hb => ⟨hb.2, by intro e; injection e with e; omega⟩)).more (S' := fun b => L ≤ b ∧ b < w3.heap.size) (fun b hb => ⟨hb.1, Nat.lt_of_lt_of_le hb.2 hg3.size⟩)
  replace hG := grown_trans hG hg3
  by_cases h2 : 2 < byAt v 0
  · have hsub : sub1 v = 6 := if_pos h2
    have spec : takeS a f 1 v = .error 6 := by unfold takeS; rw [if_pos rfl, if_neg (by simpa using hf.out), if_neg (by rw [hl.out]; decide), if_pos h2]
    replace spec := Lib.hid spec
    rw [hsub]
    go_wp2_with fail
    go_ret
    exact ⟨hG, by rw [spec.out]; exact ⟨rfl, by decide⟩⟩
  have hsub : sub1 v = 0 := if_neg h2
  have spec : takeS a f 1 v = .ok { a with o := byAt v 0 } := by unfold takeS; rw [if_pos rfl, if_neg (by simpa using hf.out), if_neg (by rw [hl.out]; decide), if_neg h2]
  replace spec := Lib.hid spec
  rw [hsub]
  go_wp2_with fail
  go_ret
  exact ⟨hG, by rw [spec.out]; exact ⟨rfl, A0, n0, c0, hq3, hS3⟩⟩
set_option maxRecDepth 100000 in
set_option maxHeartbeats 4000000 in
theorem takeK2_any (w : World) (L g : Nat) (a : AttV) (f : Int) (V : Option Addr) (n vc : Nat) (v : List UInt8) (hA : AttIn w L g a) (hgL : g < L) (hL : L ≤ w.heap.size) (hv : Byt w w.heap.size V n v) (hvc : n ≤ vc) (hvm : vc ≤ maxLen) (hn : n ≤ 10000000) :
    Calls Try.prog 78 #[.pointer (some ⟨g, 0, none⟩), .agg #[.int .i64 f, .int .i64 2, .slice V n vc]] w fun e w' => w.grownBy w' (some g) ∧ TakeP w' L g e (takeS a f 2 v) := by
  have hgw := hA.lt
  have hl := Lib.hid hv.1
  have hB := (Below.refl w.heap.size w).alloc (Nat.le_refl _) (.cells #[.int .i64 f, .int .i64 2, .slice V n vc] 90)
  have hr := Blk.new w 90 #[.int .i64 f, .int .i64 2, .slice V n vc]
  have hst := fun (w : World) (p : Addr) (f : Fn) (x y : Array Value) (m : Mode) => run_store Try.prog w p (.func f x y) m rfl
  have hst2 := fun (w : World) (p : Addr) (m : Mode) => run_store Try.prog w p .nilFunc m rfl
  replace hv := hv.nx hB
  replace hA := hA.below hB
  have hx0 : w.heap.size < (w.alloc (.cells #[.int .i64 f, .int .i64 2, .slice V n vc] 90)).heap.size := by simp
  generalize hw0 : w.alloc (.cells #[.int .i64 f, .int .i64 2, .slice V n vc] 90) = w0 at *
  have ltr := hr.lt
  have r1 : w0.cell? ⟨w.heap.size, 1, none⟩ = some (.int .i64 2) := hr.cellv 1 rfl
  go_enter Try.func78, Try.ntmps78
  go_wp2_with fail
  refine (rule2_any w0 g).mono ?_
  rintro e w1 ⟨rfl, hb, hbx⟩
  replace hv := hv.nx hb
  replace hA := hA.below hb
  replace hr := hr.below hb hr.lt
  replace hB := hB.trans (hb.mono hB.size)
  have hz1 := hb.size
  clear hw0 ltr r1 hb
  have hba := (Below.refl w1.heap.size w1).alloc (Nat.le_refl _) (.cells #[.int .i64 64, .int .i64 0, .func (.func 109) #[] #[.pointer (some ⟨w0.heap.size, 0, none⟩)]] 142)
  have hu := Blk.new w1 142 #[.int .i64 64, .int .i64 0, .func (.func 109) #[] #[.pointer (some ⟨w0.heap.size, 0, none⟩)]]
  have hbl := hbx.lt
  replace hv := hv.nx hba
  replace hA := hA.below hba
  replace hr := hr.below hba hr.lt
  replace hbx := hbx.below hba hbx.lt
  replace hB := hB.trans (hba.mono hB.size)
  clear hba
  go_upto_region 2 with (fail)
  generalize w1.alloc (.cells #[.int .i64 64, .int .i64 0, .func (.func 109) #[] #[.pointer (some ⟨w0.heap.size, 0, none⟩)]] 142) = w2 at *
  generalize hgu : w1.heap.size = gu at *
  generalize hgb : w0.heap.size = gb at *
  have hG := grown_of hB (Nat.le_refl _) (some g)
  have ltr := hr.lt
  have ltu := hu.lt
  have f0 : w2.cell? ⟨w.heap.size, 0, none⟩ = some (.int .i64 f) := hr.cellv 0 rfl
  have f2 : w2.cell? ⟨w.heap.size, 2, none⟩ = some (.slice V n vc) := hr.cellv 2 rfl
  have u0 : w2.cell? ⟨gu, 0, none⟩ = some (.int .i64 64) := hu.cellv 0 rfl
  have u1 : w2.cell? ⟨gu, 1, none⟩ = some (.int .i64 0) := hu.cellv 1 rfl
  have u2 : w2.cell? ⟨gu, 2, none⟩ = some (.func (.func 109) #[] #[.pointer (some ⟨gb, 0, none⟩)]) := hu.cellv 2 rfl
  have hgne : gb ≠ g := by omega
  replace hgu := Lib.hid hgu
  replace hgb := Lib.hid hgb
  by_cases hf : baseF f = 64
  rotate_left
  · have b1 : (bits .andNot .i64 f 16 != 64) = true := by rw [bne_iff_ne]; exact hf
    have spec : takeS a f 2 v = .error 4 := by unfold takeS; rw [if_neg (by decide), if_pos rfl, if_pos hf]
    replace spec := Lib.hid spec
    replace hf := Lib.hid hf
    go_wp2_with fail
    go_ret
    exact ⟨hG, by rw [spec.out]; exact ⟨rfl, by decide⟩⟩
  have b1 : (bits .andNot .i64 f 16 != 64) = false := by rw [bne_eq_false_iff_eq]; exact hf
  replace hf := Lib.hid hf
  obtain ⟨A0, n0, c0, hq, hS⟩ := hA
  go_wp2_with fail
  refine (take2_any w2 g gb a.o A0 n0 c0 a.h a.m a.b V n vc v hq hbx hv hn hgne).mono ?_
  rintro e w3 ⟨hg3, hP⟩
  replace hG := grown_trans hG hg3
  have hz3 := hg3.size
  cases hp : pathP ⟨v, 0, 0⟩ [] with
  | none =>
    rw [hp] at hP
    obtain rfl := hP
    have spec : takeS a f 2 v = .error 11 := by unfold takeS; rw [if_neg (by decide), if_pos rfl, if_neg (by simpa using hf.out), hp]
    replace spec := Lib.hid spec
    replace hp := Lib.hid hp
    go_wp2_with fail
    go_ret
    exact ⟨hG, by rw [spec.out]; exact ⟨rfl, by decide⟩⟩
  | some zs =>
    rw [hp] at hP
    obtain ⟨rfl, X, q, d, hq3, hS3⟩ := hP
    have spec : takeS a f 2 v = .ok { a with zs := zs } := by unfold takeS; rw [if_neg (by decide), if_pos rfl, if_neg (by simpa using hf.out), hp]
    replace spec := Lib.hid spec
    replace hp := Lib.hid hp
    have hz2 := hB.size
    go_wp2_with fail
    go_ret
    exact ⟨hG, by rw [spec.out]; exact ⟨rfl, X, q, d, hq3, hS3.more fun b hb => ⟨by omega, hb.2⟩⟩⟩
set_option maxRecDepth 100000 in
set_option maxHeartbeats 4000000 in
theorem takeK3_any (w : World) (L g : Nat) (a : AttV) (f : Int) (V : Option Addr) (n vc : Nat) (v : List UInt8) (hA : AttIn w L g a) (hgL : g < L) (hL : L ≤ w.heap.size) (hv : Byt w w.heap.size V n v) (hvc : n ≤ vc) (hvm : vc ≤ maxLen) (hn : n ≤ 10000000) :
    Calls Try.prog 78 #[.pointer (some ⟨g, 0, none⟩), .agg #[.int .i64 f, .int .i64 3, .slice V n vc]] w fun e w' => w.grownBy w' (some g) ∧ TakeP w' L g e (takeS a f 3 v) := by
  have hgw := hA.lt
  have hl := Lib.hid hv.1
  have hB := (Below.refl w.heap.size w).alloc (Nat.le_refl _) (.cells #[.int .i64 f, .int .i64 3, .slice V n vc] 90)
  have hr := Blk.new w 90 #[.int .i64 f, .int .i64 3, .slice V n vc]
  have hst := fun (w : World) (p : Addr) (f : Fn) (x y : Array Value) (m : Mode) => run_store Try.prog w p (.func f x y) m rfl
  have hst2 := fun (w : World) (p : Addr) (m : Mode) => run_store Try.prog w p .nilFunc m rfl
  replace hv := hv.nx hB
  replace hA := hA.below hB
  have hx0 : w.heap.size < (w.alloc (.cells #[.int .i64 f, .int .i64 3, .slice V n vc] 90)).heap.size := by simp
  generalize hw0 : w.alloc (.cells #[.int .i64 f, .int .i64 3, .slice V n vc] 90) = w0 at *
  have ltr := hr.lt
  have r1 : w0.cell? ⟨w.heap.size, 1, none⟩ = some (.int .i64 3) := hr.cellv 1 rfl
  go_enter Try.func78, Try.ntmps78
  go_wp2_with fail
  refine (rule3_any w0 g).mono ?_
  rintro e w1 ⟨rfl, hb, hbx⟩
  replace hv := hv.nx hb
  replace hA := hA.below hb
  replace hr := hr.below hb hr.lt
  replace hB := hB.trans (hb.mono hB.size)
  have hz1 := hb.size
  clear hw0 ltr r1 hb
  have hba := (Below.refl w1.heap.size w1).alloc (Nat.le_refl _) (.cells #[.int .i64 64, .int .i64 4, .func (.func 111) #[] #[.pointer (some ⟨w0.heap.size, 0, none⟩)]] 142)
  have hu := Blk.new w1 142 #[.int .i64 64, .int .i64 4, .func (.func 111) #[] #[.pointer (some ⟨w0.heap.size, 0, none⟩)]]
  have hbl := hbx.lt
  replace hv := hv.nx hba
  replace hA := hA.below hba
  replace hr := hr.below hba hr.lt
  replace hbx := hbx.below hba hbx.lt
  replace hB := hB.trans (hba.mono hB.size)
  clear hba
  go_upto_region 2 with (fail)
  generalize w1.alloc (.cells #[.int .i64 64, .int .i64 4, .func (.func 111) #[] #[.pointer (some ⟨w0.heap.size, 0, none⟩)]] 142) = w2 at *
  generalize hgu : w1.heap.size = gu at *
  generalize hgb : w0.heap.size = gb at *
  have hG := grown_of hB (Nat.le_refl _) (some g)
  have ltr := hr.lt
  have ltu := hu.lt
  have f0 : w2.cell? ⟨w.heap.size, 0, none⟩ = some (.int .i64 f) := hr.cellv 0 rfl
  have f2 : w2.cell? ⟨w.heap.size, 2, none⟩ = some (.slice V n vc) := hr.cellv 2 rfl
  have u0 : w2.cell? ⟨gu, 0, none⟩ = some (.int .i64 64) := hu.cellv 0 rfl
  have u1 : w2.cell? ⟨gu, 1, none⟩ = some (.int .i64 4) := hu.cellv 1 rfl
  have u2 : w2.cell? ⟨gu, 2, none⟩ = some (.func (.func 111) #[] #[.pointer (some ⟨gb, 0, none⟩)]) := hu.cellv 2 rfl
  have hgne : gb ≠ g := by omega
  replace hgu := Lib.hid hgu
  replace hgb := Lib.hid hgb
  by_cases hf : baseF f = 64
  rotate_left
  · have b1 : (bits .andNot .i64 f 16 != 64) = true := by rw [bne_iff_ne]; exact hf
    have spec : takeS a f 3 v = .error 4 := by unfold takeS; rw [if_neg (by decide), if_neg (by decide), if_pos rfl, if_pos hf]
    replace spec := Lib.hid spec
    replace hf := Lib.hid hf
    go_wp2_with fail
    go_ret
    exact ⟨hG, by rw [spec.out]; exact ⟨rfl, by decide⟩⟩
  have b1 : (bits .andNot .i64 f 16 != 64) = false := by rw [bne_eq_false_iff_eq]; exact hf
  by_cases hs : n = 4
  rotate_left
  · have b2 : ((n : Int) != 4) = true := by rw [bne_iff_ne]; omega
    have spec : takeS a f 3 v = .error 5 := by unfold takeS; rw [if_neg (by decide), if_neg (by decide), if_pos rfl, if_neg (by simpa using hf), if_pos (by rw [hl.out]; exact hs)]
    replace spec := Lib.hid spec
    replace hf := Lib.hid hf
    replace hs := Lib.hid hs
    go_wp2_with fail
    go_ret
    exact ⟨hG, by rw [spec.out]; exact ⟨rfl, by decide⟩⟩
  subst hs
  obtain ⟨A0, n0, c0, hq, hS⟩ := hA
  replace hf := Lib.hid hf
  go_wp2_with fail
  refine (take3_any w2 g gb a.o A0 n0 c0 a.h a.m a.b V vc v hq hbx hv hvc hvm hgne).mono ?_
  rintro e w3 ⟨rfl, hq3, hg3⟩
  have hS3 := (hS.grown hg3 (fun b hb => ⟨hb.2, by intro e; injection e with e; omega⟩)).more (S' := fun b => L ≤ b ∧ b < w3.heap.size) (fun b hb => ⟨hb.1, Nat.lt_of_lt_of_le hb.2 hg3.size⟩)
  replace hG := grown_trans hG hg3
  cases h2 : hopV (getN v 4)
  · have hsub : sub3 v = 8 := by unfold sub3; rw [h2]; rfl
    have spec : takeS a f 3 v = .error 8 := by unfold takeS; rw [if_neg (by decide), if_neg (by decide), if_pos rfl, if_neg (by simpa using hf.out), if_neg (by rw [hl.out]; decide), if_pos h2]
    replace spec := Lib.hid spec
    rw [hsub]
    go_wp2_with fail
    go_ret
    exact ⟨hG, by rw [spec.out]; exact ⟨rfl, by decide⟩⟩
  have hsub : sub3 v = 0 := by unfold sub3; rw [h2]; rfl
  have spec : takeS a f 3 v = .ok { a with h := getN v 4 } := by unfold takeS; rw [if_neg (by decide), if_neg (by decide), if_pos rfl, if_neg (by simpa using hf.out), if_neg (by rw [hl.out]; decide), if_neg (by rw [h2]; decide)]
  replace spec := Lib.hid spec
  rw [hsub]
  go_wp2_with fail
  go_ret
  exact ⟨hG, by rw [spec.out]; exact ⟨rfl, A0, n0, c0, hq3, hS3⟩⟩
set_option maxRecDepth 100000 in
set_option maxHeartbeats 4000000 in
theorem takeK4_any (w : World) (L g : Nat) (a : AttV) (f : Int) (V : Option Addr) (n vc : Nat) (v : List UInt8) (hA : AttIn w L g a) (hgL : g < L) (hL : L ≤ w.heap.size) (hv : Byt w w.heap.size V n v) (hvc : n ≤ vc) (hvm : vc ≤ maxLen) (hn : n ≤ 10000000) :
    Calls Try.prog 78 #[.pointer (some ⟨g, 0, none⟩), .agg #[.int .i64 f, .int .i64 4, .slice V n vc]] w fun e w' => w.grownBy w' (some g) ∧ TakeP w' L g e (takeS a f 4 v) := by
  have hgw := hA.lt
  have hl := Lib.hid hv.1
  have hB := (Below.refl w.heap.size w).alloc (Nat.le_refl _) (.cells #[.int .i64 f, .int .i64 4, .slice V n vc] 90)
  have hr := Blk.new w 90 #[.int .i64 f, .int .i64 4, .slice V n vc]
  have hst := fun (w : World) (p : Addr) (f : Fn) (x y : Array Value) (m : Mode) => run_store Try.prog w p (.func f x y) m rfl
  have hst2 := fun (w : World) (p : Addr) (m : Mode) => run_store Try.prog w p .nilFunc m rfl
  replace hv := hv.nx hB
  replace hA := hA.below hB
  have hx0 : w.heap.size < (w.alloc (.cells #[.int .i64 f, .int .i64 4, .slice V n vc] 90)).heap.size := by simp
  generalize hw0 : w.alloc (.cells #[.int .i64 f, .int .i64 4, .slice V n vc] 90) = w0 at *
  have ltr := hr.lt
  have r1 : w0.cell? ⟨w.heap.size, 1, none⟩ = some (.int .i64 4) := hr.cellv 1 rfl
  go_enter Try.func78, Try.ntmps78
  go_wp2_with fail
  refine (rule4_any w0 g).mono ?_
  rintro e w1 ⟨rfl, hb, hbx⟩
  replace hv := hv.nx hb
  replace hA := hA.below hb
  replace hr := hr.below hb hr.lt
  replace hB := hB.trans (hb.mono hB.size)
  have hz1 := hb.size
  clear hw0 ltr r1 hb
  have hba := (Below.refl w1.heap.size w1).alloc (Nat.le_refl _) (.cells #[.int .i64 128, .int .i64 4, .func (.func 112) #[] #[.pointer (some ⟨w0.heap.size, 0, none⟩)]] 142)
  have hu := Blk.new w1 142 #[.int .i64 128, .int .i64 4, .func (.func 112) #[] #[.pointer (some ⟨w0.heap.size, 0, none⟩)]]
  have hbl := hbx.lt
  replace hv := hv.nx hba
  replace hA := hA.below hba
  replace hr := hr.below hba hr.lt
  replace hbx := hbx.below hba hbx.lt
  replace hB := hB.trans (hba.mono hB.size)
  clear hba
  go_upto_region 2 with (fail)
  generalize w1.alloc (.cells #[.int .i64 128, .int .i64 4, .func (.func 112) #[] #[.pointer (some ⟨w0.heap.size, 0, none⟩)]] 142) = w2 at *
  generalize hgu : w1.heap.size = gu at *
  generalize hgb : w0.heap.size = gb at *
  have hG := grown_of hB (Nat.le_refl _) (some g)
  have ltr := hr.lt
  have ltu := hu.lt
  have f0 : w2.cell? ⟨w.heap.size, 0, none⟩ = some (.int .i64 f) := hr.cellv 0 rfl
  have f2 : w2.cell? ⟨w.heap.size, 2, none⟩ = some (.slice V n vc) := hr.cellv 2 rfl
  have u0 : w2.cell? ⟨gu, 0, none⟩ = some (.int .i64 128) := hu.cellv 0 rfl
  have u1 : w2.cell? ⟨gu, 1, none⟩ = some (.int .i64 4) := hu.cellv 1 rfl
  have u2 : w2.cell? ⟨gu, 2, none⟩ = some (.func (.func 112) #[] #[.pointer (some ⟨gb, 0, none⟩)]) := hu.cellv 2 rfl
  have hgne : gb ≠ g := by omega
  replace hgu := Lib.hid hgu
  replace hgb := Lib.hid hgb
  by_cases hf : baseF f = 128
  rotate_left
  · have b1 : (bits .andNot .i64 f 16 != 128) = true := by rw [bne_iff_ne]; exact hf
    have spec : takeS a f 4 v = .error 4 := by unfold takeS; rw [if_neg (by decide), if_neg (by decide), if_neg (by decide), if_pos rfl, if_pos hf]
    replace spec := Lib.hid spec
    replace hf := Lib.hid hf
    go_wp2_with fail
    go_ret
    exact ⟨hG, by rw [spec.out]; exact ⟨rfl, by decide⟩⟩
  have b1 : (bits .andNot .i64 f 16 != 128) = false := by rw [bne_eq_false_iff_eq]; exact hf
  by_cases hs : n = 4
  rotate_left
  · have b2 : ((n : Int) != 4) = true := by rw [bne_iff_ne]; omega
    have spec : takeS a f 4 v = .error 5 := by unfold takeS; rw [if_neg (by decide), if_neg (by decide), if_neg (by decide), if_pos rfl, if_neg (by simpa using hf), if_pos (by rw [hl.out]; exact hs)]
    replace spec := Lib.hid spec
    replace hf := Lib.hid hf
    replace hs := Lib.hid hs
    go_wp2_with fail
    go_ret
    exact ⟨hG, by rw [spec.out]; exact ⟨rfl, by decide⟩⟩
  subst hs
  obtain ⟨A0, n0, c0, hq, hS⟩ := hA
  replace hf := Lib.hid hf
  go_wp2_with fail
  refine (take4_any w2 g gb a.o A0 n0 c0 a.h a.m a.b V vc v hq hbx hv hvc hvm hgne).mono ?_
  rintro e w3 ⟨rfl, hq3, hg3⟩
  have hS3 := (hS.grown hg3 (fun b hb => ⟨hb.2, by intro e; injection e with e; omega⟩)).more (S' := fun b => L ≤ b ∧ b < w3.heap.size) (fun b hb => ⟨hb.1, Nat.lt_of_lt_of_le hb.2 hg3.size⟩)
  replace hG := grown_trans hG hg3
  have spec : takeS a f 4 v = .ok { a with m := getN v 4, b := true } := by unfold takeS; rw [if_neg (by decide), if_neg (by decide), if_neg (by decide), if_pos rfl, if_neg (by simpa using hf.out), if_neg (by rw [hl.out]; decide)]
  replace spec := Lib.hid spec
  go_wp2_with fail
  go_ret
  exact ⟨hG, by rw [spec.out]; exact ⟨rfl, A0, n0, c0, hq3, hS3⟩⟩
set_option maxRecDepth 100000 in
set_option maxHeartbeats 4000000 in
theorem takeK0_any (w : World) (L g : Nat) (a : AttV) (f t : Int) (V : Option Addr) (n vc : Nat) (v : List UInt8) (hA : AttIn w L g a) (hgL : g < L) (hL : L ≤ w.heap.size) (hv : Byt w w.heap.size V n v) (hvc : n ≤ vc) (hvm : vc ≤ maxLen) (hn : n ≤ 10000000) (h1 : t ≠ 1) (h2 : t ≠ 2) (h3 : t ≠ 3) (h4 : t ≠ 4) :
    Calls Try.prog 78 #[.pointer (some ⟨g, 0, none⟩), .agg #[.int .i64 f, .int .i64 t, .slice V n vc]] w fun e w' => w.grownBy w' (some g) ∧ TakeP w' L g e (takeS a f t v) := by
  have hgw := hA.lt
  have hl := Lib.hid hv.1
  have hB := (Below.refl w.heap.size w).alloc (Nat.le_refl _) (.cells #[.int .i64 f, .int .i64 t, .slice V n vc] 90)
  have hr := Blk.new w 90 #[.int .i64 f, .int .i64 t, .slice V n vc]
  have hst := fun (w : World) (p : Addr) (f : Fn) (x y : Array Value) (m : Mode) => run_store Try.prog w p (.func f x y) m rfl
  have hst2 := fun (w : World) (p : Addr) (m : Mode) => run_store Try.prog w p .nilFunc m rfl
  replace hv := hv.nx hB
  replace hA := hA.below hB
  have hx0 : w.heap.size < (w.alloc (.cells #[.int .i64 f, .int .i64 t, .slice V n vc] 90)).heap.size := by simp
  generalize hw0 : w.alloc (.cells #[.int .i64 f, .int .i64 t, .slice V n vc] 90) = w0 at *
  have ltr := hr.lt
  have r1 : w0.cell? ⟨w.heap.size, 1, none⟩ = some (.int .i64 t) := hr.cellv 1 rfl
  go_enter Try.func78, Try.ntmps78
  go_wp2_with fail
  refine (rule0_any w0 g t h1 h2 h3 h4).mono ?_
  rintro e w1 ⟨rfl, hb, hbx⟩
  replace hv := hv.nx hb
  replace hA := hA.below hb
  replace hr := hr.below hb hr.lt
  replace hB := hB.trans (hb.mono hB.size)
  have hz1 := hb.size
  clear hw0 ltr r1 hb
  have hba := (Below.refl w1.heap.size w1).alloc (Nat.le_refl _) (.cells #[.int .i64 0, .int .i64 0, .nilFunc] 142)
  have hu := Blk.new w1 142 #[.int .i64 0, .int .i64 0, .nilFunc]
  have hbl := hbx.lt
  replace hv := hv.nx hba
  replace hA := hA.below hba
  replace hr := hr.below hba hr.lt
  replace hbx := hbx.below hba hbx.lt
  replace hB := hB.trans (hba.mono hB.size)
  clear hba
  go_upto_region 2 with (fail)
  generalize w1.alloc (.cells #[.int .i64 0, .int .i64 0, .nilFunc] 142) = w2 at *
  generalize hgu : w1.heap.size = gu at *
  generalize hgb : w0.heap.size = gb at *
  have hG := grown_of hB (Nat.le_refl _) (some g)
  have ltr := hr.lt
  have ltu := hu.lt
  have f0 : w2.cell? ⟨w.heap.size, 0, none⟩ = some (.int .i64 f) := hr.cellv 0 rfl
  have f2 : w2.cell? ⟨w.heap.size, 2, none⟩ = some (.slice V n vc) := hr.cellv 2 rfl
  have u0 : w2.cell? ⟨gu, 0, none⟩ = some (.int .i64 0) := hu.cellv 0 rfl
  have u1 : w2.cell? ⟨gu, 1, none⟩ = some (.int .i64 0) := hu.cellv 1 rfl
  have u2 : w2.cell? ⟨gu, 2, none⟩ = some (.nilFunc) := hu.cellv 2 rfl
  have hgne : gb ≠ g := by omega
  replace hgu := Lib.hid hgu
  replace hgb := Lib.hid hgb
  by_cases hp : optB f = false
  · have b1 : (bits .and .i64 f 128 == 0) = true := by unfold optB at hp; simpa using hp
    have spec : takeS a f t v = .error 2 := by unfold takeS; rw [if_neg h1, if_neg h2, if_neg h3, if_neg h4, if_pos hp]
    replace spec := Lib.hid spec
    replace hp := Lib.hid hp
    go_wp2_with fail
    go_ret
    exact ⟨hG, by rw [spec.out]; exact ⟨rfl, by decide⟩⟩
  have b1 : (bits .and .i64 f 128 == 0) = false := by unfold optB at hp; simpa using hp
  have spec : takeS a f t v = .ok a := by unfold takeS; rw [if_neg h1, if_neg h2, if_neg h3, if_neg h4, if_neg hp]
  replace spec := Lib.hid spec
  replace hp := Lib.hid hp
  go_wp2_with fail
  go_ret
  exact ⟨hG, by rw [spec.out]; exact ⟨rfl, hA⟩⟩
theorem attrTake_any (w : World) (L g : Nat) (a : AttV) (f t : Int) (V : Option Addr) (n vc : Nat) (v : List UInt8) (hA : AttIn w L g a) (hgL : g < L) (hL : L ≤ w.heap.size) (hv : Byt w w.heap.size V n v) (hvc : n ≤ vc) (hvm : vc ≤ maxLen) (hn : n ≤ 10000000) :
    Calls Try.prog 78 #[.pointer (some ⟨g, 0, none⟩), .agg #[.int .i64 f, .int .i64 t, .slice V n vc]] w fun e w' => w.grownBy w' (some g) ∧ TakeP w' L g e (takeS a f t v) := by
  by_cases h1 : t = 1
  · subst h1; exact takeK1_any w L g a f V n vc v hA hgL hL hv hvc hvm hn
  by_cases h2 : t = 2
  · subst h2; exact takeK2_any w L g a f V n vc v hA hgL hL hv hvc hvm hn
  by_cases h3 : t = 3
  · subst h3; exact takeK3_any w L g a f V n vc v hA hgL hL hv hvc hvm hn
  by_cases h4 : t = 4
  · subst h4; exact takeK4_any w L g a f V n vc v hA hgL hL hv hvc hvm hn
  exact takeK0_any w L g a f t V n vc v hA hgL hL hv hvc hvm hn h1 h2 h3 h4
end Go.Proofs.Ytfnclmacodchfaa
