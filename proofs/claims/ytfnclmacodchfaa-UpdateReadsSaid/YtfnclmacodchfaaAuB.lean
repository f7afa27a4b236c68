/- attr: the document's take. -/
import Derived.Test.YtfnclmacodchfaaAuA
namespace Go.Proofs.Ytfnclmacodchfaa
set_option linter.unusedVariables false
open Go.RowKit

theorem refHop_any (h : Int) (w : World) (h0 : 0 ≤ h) (h1 : h ≤ 4294967295) : Calls Try.prog 66 #[.int .u32 h] w fun e w' => e = .returned (.bool (hopV h)) ∧ w = w' := by
  go_enter Try.func66, Try.ntmps66
  go_wp2_with fail
  all_goals go_ret
  all_goals (refine ⟨ret_bool ?_, rfl⟩; simp_all [hopV])
set_option maxHeartbeats 400000 in
theorem refGet0_any (w : World) (A : Option Addr) (n c : Nat) (l : List UInt8) (h : Byt w w.heap.size A n l) (hc : n ≤ c) (hc2 : c ≤ maxLen) (hn : n ≤ 10000000) :
    Calls Try.prog 104 #[.slice A n c, .int .i64 0, .int .i64 0] w fun e w' => e = .returned (.tuple #[.int .u64 0, .bool true]) ∧ w = w' := by
  obtain ⟨A', hsl, _⟩ := slice_mid A n c 0 0 (Nat.le_refl _) (Nat.zero_le _) hc
  have e0 : ((0 : Nat) : Int) = 0 := rfl
  rw [e0] at hsl
  go_enter Try.func104, Try.ntmps104
  have d0 : (0 : Int) ≤ n := by omega
  go_wp2_with fail
  all_goals try (exfalso; omega)
  refine wp_loop_rounds 1 ?_
  rw [rounds_succ]
  go_wp2_with fail
  go_ret2
  exact ⟨rfl, rfl⟩
/-- block g is these attributes, in the document's form. -/
def RefIn (w : World) (L g : Nat) (a : AttV) : Prop := ∃ A n c, Blk w g 31 (attC a.o A n c a.h a.m a.b) ∧ Seen intK w (fun b => L ≤ b ∧ b < w.heap.size) A n a.zs
section
variable {w w' : World} {L g : Nat} {a : AttV}
theorem RefIn.lt (h : RefIn w L g a) : g < w.heap.size := by obtain ⟨A, n, c, h1, _⟩ := h; exact h1.lt
theorem RefIn.below (h : RefIn w L g a) (hb : Below w.heap.size w w') : RefIn w' L g a := by
  obtain ⟨A, n, c, h1, h2⟩ := h
  exact ⟨A, n, c, h1.below hb h1.lt, (h2.below hb fun _ h => h.2).more fun b hb' => ⟨hb'.1, Nat.lt_of_lt_of_le hb'.2 hb.size⟩⟩
theorem RefIn.kept {k : Nat} (h : RefIn w L g a) (hg : w.grownBy w' (some k)) (hk : k < L) (hkg : k ≠ g) : RefIn w' L g a := by
  obtain ⟨A, n, c, h1, h2⟩ := h
  exact ⟨A, n, c, h1.grown hg (by intro e; injection e with e; exact hkg e.symm), (h2.grown hg fun b hb => ⟨hb.2, by intro e; injection e with e; omega⟩).more fun b hb' => ⟨hb'.1, Nat.lt_of_lt_of_le hb'.2 hg.size⟩⟩
end
def RefTakeP (w' : World) (L g : Nat) (e : Ending) : Except Int AttV → Prop
  | .error x => e = .returned (.int .i64 x) ∧ x ≠ 0
  | .ok a => e = .returned (.int .i64 0) ∧ RefIn w' L g a
set_option maxRecDepth 100000 in
set_option maxHeartbeats 4000000 in
theorem refTakeK1_any (w : World) (L g : Nat) (a : AttV) (f : Int) (V : Option Addr) (n vc : Nat) (v : List UInt8) (hA : RefIn w L g a) (hgL : g < L) (hL : L ≤ w.heap.size) (hv : Byt w w.heap.size V n v) (hvc : n ≤ vc) (hvm : vc ≤ maxLen) (hn : n ≤ 10000000) :
    Calls Try.prog 86 #[.pointer (some ⟨g, 0, none⟩), .agg #[.int .i64 f, .int .i64 1, .slice V n vc]] w fun e w' => w.grownBy w' (some g) ∧ RefTakeP w' L g e (takeS a f 1 v) := by
  have hgw := hA.lt
  have hl := Lib.hid hv.1
  have hB := (Below.refl w.heap.size w).alloc (Nat.le_refl _) (.cells #[.int .i64 f, .int .i64 1, .slice V n vc] 124)
  have hr := Blk.new w 124 #[.int .i64 f, .int .i64 1, .slice V n vc]
  replace hv := hv.nx hB
  replace hA := hA.below hB
  go_enter Try.func86, Try.ntmps86
  go_upto_region 1 with (fail)
  generalize w.alloc (.cells #[.int .i64 f, .int .i64 1, .slice V n vc] 124) = w2 at *
  have hG := grown_of hB (Nat.le_refl _) (some g)
  have ltr := hr.lt
  have f0 : w2.cell? ⟨w.heap.size, 0, none⟩ = some (.int .i64 f) := hr.cellv 0 rfl
  have f1 : w2.cell? ⟨w.heap.size, 1, none⟩ = some (.int .i64 1) := hr.cellv 1 rfl
  have f2 : w2.cell? ⟨w.heap.size, 2, none⟩ = some (.slice V n vc) := hr.cellv 2 rfl
  by_cases hf : baseF f = 64
  rotate_left
  · have b1 : (bits .andNot .i64 f 16 != 64) = true := by rw [bne_iff_ne]; exact hf
    have spec : takeS a f 1 v = .error 4 := by unfold takeS; rw [if_pos rfl, if_pos hf]
    replace spec := Lib.hid spec
    replace hf := Lib.hid hf
    go_wp2_with fail
    go_ret
    exact ⟨hG, by rw [spec.out]; exact ⟨rfl, by decide⟩⟩
  have b1 : (bits .andNot .i64 f 16 != 64) = false := by rw [bne_eq_false_iff_eq]; exact hf
  replace hf := Lib.hid hf
  obtain ⟨A0, n0, c0, hq, hS⟩ := hA
  unfold attC at hq
  have ltq := hq.lt
  by_cases hs : n = 1
  rotate_left
  · have b2 : ((n : Int) != 1) = true := by rw [bne_iff_ne]; omega
    have spec : takeS a f 1 v = .error 5 := by unfold takeS; rw [if_pos rfl, if_neg (by simpa using hf.out), if_pos (by rw [hl.out]; exact hs)]
    replace spec := Lib.hid spec
    replace hs := Lib.hid hs
    go_wp2_with fail
    go_ret
    exact ⟨hG, by rw [spec.out]; exact ⟨rfl, by decide⟩⟩
  subst hs
  have hgv := Lib.hid (getV_all v 1 hl.out)
  have n0' := getN_lo v 1
  have n1' := getN_4 v 1 (by omega)
  go_wp2_with fail
  refine (refGet_any w2 V 1 vc v _ hv hvc hvm 0 (by omega) 1 (by omega) (by omega)).mono ?_
  rintro e w3 ⟨rfl, rfl⟩
  rw [hgv.out]
  have hby : getN v 1 = byAt v 0 := by
    have : getN v 1 = 0 * 256 + byAt v 0 := rfl
    omega
  by_cases h2 : 2 < byAt v 0
  · have spec : takeS a f 1 v = .error 6 := by unfold takeS; rw [if_pos rfl, if_neg (by simpa using hf.out), if_neg (by rw [hl.out]; decide), if_pos h2]
    replace spec := Lib.hid spec
    have d2 : 2 < getN v 1 := by omega
    replace hby := Lib.hid hby
    go_wp2_with fail
    go_ret
    exact ⟨hG, by rw [spec.out]; exact ⟨rfl, by decide⟩⟩
  have d2 : getN v 1 ≤ 2 := by omega
  have spec : takeS a f 1 v = .ok { a with o := getN v 1 } := by unfold takeS; rw [if_pos rfl, if_neg (by simpa using hf.out), if_neg (by rw [hl.out]; decide), if_neg h2, hby]
  replace hby := Lib.hid hby
  clear h2
  replace spec := Lib.hid spec
  have ce0 : w2.cell? ⟨g, 0, none⟩ = some (.int .i64 a.o) := hq.cellv 0 rfl
  have fz0 := hq.frozen 0
  obtain ⟨hq0x, hg0x⟩ := blk_store hq 0 (.int .i64 (getN v 1))
  have hgx := hg0x
  have hSx := (hS.grown hgx (fun b hb => ⟨hb.2, by intro e; injection e with e; omega⟩)).more (S' := fun b => L ≤ b ∧ b < (w2.setCell ⟨g, 0, none⟩ (.int .i64 (getN v 1))).heap.size) (fun b hb => ⟨hb.1, Nat.lt_of_lt_of_le hb.2 hgx.size⟩)
  have hqx : Blk (w2.setCell ⟨g, 0, none⟩ (.int .i64 (getN v 1))) g 31 (attC (getN v 1) A0 n0 c0 a.h a.m a.b) := hq0x
  replace hG := grown_trans hG hgx
  replace hqx := Lib.hid hqx
  replace hSx := Lib.hid hSx
  replace hG := Lib.hid hG
  clear hq hS hgx hq0x hg0x
  go_wp2_with fail
  go_ret
  exact ⟨hG.out, by rw [spec.out]; exact ⟨rfl, A0, n0, c0, hqx.out, hSx.out⟩⟩
set_option maxRecDepth 100000 in
set_option maxHeartbeats 4000000 in
theorem refTakeK2_any (w : World) (L g : Nat) (a : AttV) (f : Int) (V : Option Addr) (n vc : Nat) (v : List UInt8) (hA : RefIn w L g a) (hgL : g < L) (hL : L ≤ w.heap.size) (hv : Byt w w.heap.size V n v) (hvc : n ≤ vc) (hvm : vc ≤ maxLen) (hn : n ≤ 10000000) :
    Calls Try.prog 86 #[.pointer (some ⟨g, 0, none⟩), .agg #[.int .i64 f, .int .i64 2, .slice V n vc]] w fun e w' => w.grownBy w' (some g) ∧ RefTakeP w' L g e (takeS a f 2 v) := by
  have hgw := hA.lt
  have hl := Lib.hid hv.1
  have hB := (Below.refl w.heap.size w).alloc (Nat.le_refl _) (.cells #[.int .i64 f, .int .i64 2, .slice V n vc] 124)
  have hr := Blk.new w 124 #[.int .i64 f, .int .i64 2, .slice V n vc]
  replace hv := hv.nx hB
  replace hA := hA.below hB
  go_enter Try.func86, Try.ntmps86
  go_upto_region 1 with (fail)
  generalize w.alloc (.cells #[.int .i64 f, .int .i64 2, .slice V n vc] 124) = w2 at *
  have hG := grown_of hB (Nat.le_refl _) (some g)
  have ltr := hr.lt
  have f0 : w2.cell? ⟨w.heap.size, 0, none⟩ = some (.int .i64 f) := hr.cellv 0 rfl
  have f1 : w2.cell? ⟨w.heap.size, 1, none⟩ = some (.int .i64 2) := hr.cellv 1 rfl
  have f2 : w2.cell? ⟨w.heap.size, 2, none⟩ = some (.slice V n vc) := hr.cellv 2 rfl
  by_cases hf : baseF f = 64
  rotate_left
  · have b1 : (bits .andNot .i64 f 16 != 64) = true := by rw [bne_iff_ne]; exact hf
    have spec : takeS a f 2 v = .error 4 := by unfold takeS; rw [if_neg (by decide), if_pos rfl, if_pos hf]
    replace spec := Lib.hid spec
    replace hf := Lib.hid hf
    go_wp2_with fail
    go_ret
    exact ⟨hG, by rw [spec.out]; exact ⟨rfl, by decide⟩⟩
  have b1 : (bits .andNot .i64 f 16 != 64) = false := by rw [bne_eq_false_iff_eq]; exact hf
  replace hf := Lib.hid hf
  obtain ⟨A0, n0, c0, hq, hS⟩ := hA
  unfold attC at hq
  have ltq := hq.lt
  go_wp2_with fail
  refine (refGet0_any w2 V n vc v hv hvc hvm hn).mono ?_
  rintro e w3 ⟨rfl, rfl⟩
  go_wp2_with fail
  refine (refPath_any w2 V n vc v hv hn).mono ?_
  rintro e w3 ⟨hb3, hP⟩
  have hg3 := grown_of hb3 (Nat.le_refl _) (some g)
  have hz2 := hB.size
  replace hG := grown_trans hG hg3
  replace hq := hq.below hb3 hq.lt
  have hz3 := hb3.size
  replace hr := hr.below hb3 hr.lt
  have ltr3 := hr.lt
  have f13 : w3.cell? ⟨w.heap.size, 1, none⟩ = some (.int .i64 2) := hr.cellv 1 rfl
  clear f0 f1 f2
  cases hp : pathP ⟨v, 0, 0⟩ [] with
  | none =>
    rw [hp] at hP
    obtain ⟨vx, rfl⟩ := hP
    have spec : takeS a f 2 v = .error 11 := by unfold takeS; rw [if_neg (by decide), if_pos rfl, if_neg (by simpa using hf.out), hp]
    replace spec := Lib.hid spec
    replace hp := Lib.hid hp
    go_wp2_with fail
    go_ret
    exact ⟨hG, by rw [spec.out]; exact ⟨rfl, by decide⟩⟩
  | some zs =>
    rw [hp] at hP
    obtain ⟨vx, rfl, hrow⟩ := hP
    obtain ⟨X, q, rfl, _, _, hSn⟩ := hrow.seen (Nat.le_refl _)
    have spec : takeS a f 2 v = .ok { a with zs := zs } := by unfold takeS; rw [if_neg (by decide), if_pos rfl, if_neg (by simpa using hf.out), hp]
    replace spec := Lib.hid spec
    replace hp := Lib.hid hp
    have ltq3 := hq.lt
    have c1 : w3.cell? ⟨g, 1, none⟩ = some (.slice A0 n0 c0) := hq.cellv 1 rfl
    have fz := hq.frozen 1
    obtain ⟨hq2, hg2⟩ := blk_store hq 1 (.slice X zs.length q)
    replace hq2 : Blk (w3.setCell ⟨g, 1, none⟩ (.slice X zs.length q)) g 31 (attC a.o X zs.length q a.h a.m a.b) := hq2
    have hS2 := hSn.grown hg2 (fun b hb => ⟨hb.2, by intro e; injection e with e; omega⟩)
    have hsz2 := hg2.size
    replace hG := grown_trans hG hg2
    replace hS2 := hS2.more (S' := fun b => L ≤ b ∧ b < (w3.setCell ⟨g, 1, none⟩ (.slice X zs.length q)).heap.size) (fun b hb => ⟨by omega, by omega⟩)
    replace hq2 := Lib.hid hq2
    replace hS2 := Lib.hid hS2
    replace hG := Lib.hid hG
    clear hq hrow hSn hg2
    go_wp2_with fail
    go_ret
    exact ⟨hG.out, by rw [spec.out]; exact ⟨rfl, X, _, q, hq2.out, hS2.out⟩⟩
set_option maxRecDepth 100000 in
set_option maxHeartbeats 4000000 in
theorem refTakeK3_any (w : World) (L g : Nat) (a : AttV) (f : Int) (V : Option Addr) (n vc : Nat) (v : List UInt8) (hA : RefIn w L g a) (hgL : g < L) (hL : L ≤ w.heap.size) (hv : Byt w w.heap.size V n v) (hvc : n ≤ vc) (hvm : vc ≤ maxLen) (hn : n ≤ 10000000) :
    Calls Try.prog 86 #[.pointer (some ⟨g, 0, none⟩), .agg #[.int .i64 f, .int .i64 3, .slice V n vc]] w fun e w' => w.grownBy w' (some g) ∧ RefTakeP w' L g e (takeS a f 3 v) := by
  have hgw := hA.lt
  have hl := Lib.hid hv.1
  have hB := (Below.refl w.heap.size w).alloc (Nat.le_refl _) (.cells #[.int .i64 f, .int .i64 3, .slice V n vc] 124)
  have hr := Blk.new w 124 #[.int .i64 f, .int .i64 3, .slice V n vc]
  replace hv := hv.nx hB
  replace hA := hA.below hB
  go_enter Try.func86, Try.ntmps86
  go_upto_region 1 with (fail)
  generalize w.alloc (.cells #[.int .i64 f, .int .i64 3, .slice V n vc] 124) = w2 at *
  have hG := grown_of hB (Nat.le_refl _) (some g)
  have ltr := hr.lt
  have f0 : w2.cell? ⟨w.heap.size, 0, none⟩ = some (.int .i64 f) := hr.cellv 0 rfl
  have f1 : w2.cell? ⟨w.heap.size, 1, none⟩ = some (.int .i64 3) := hr.cellv 1 rfl
  have f2 : w2.cell? ⟨w.heap.size, 2, none⟩ = some (.slice V n vc) := hr.cellv 2 rfl
  by_cases hf : baseF f = 64
  rotate_left
  · have b1 : (bits .andNot .i64 f 16 != 64) = true := by rw [bne_iff_ne]; exact hf
    have spec : takeS a f 3 v = .error 4 := by unfold takeS; rw [if_neg (by decide), if_neg (by decide), if_pos rfl, if_pos hf]
    replace spec := Lib.hid spec
    replace hf := Lib.hid hf
    go_wp2_with fail
    go_ret
    exact ⟨hG, by rw [spec.out]; exact ⟨rfl, by decide⟩⟩
  have b1 : (bits .andNot .i64 f 16 != 64) = false := by rw [bne_eq_false_iff_eq]; exact hf
  replace hf := Lib.hid hf
  obtain ⟨A0, n0, c0, hq, hS⟩ := hA
  unfold attC at hq
  have ltq := hq.lt
  by_cases hs : n = 4
  rotate_left
  · have b2 : ((n : Int) != 4) = true := by rw [bne_iff_ne]; omega
    have spec : takeS a f 3 v = .error 5 := by unfold takeS; rw [if_neg (by decide), if_neg (by decide), if_pos rfl, if_neg (by simpa using hf.out), if_pos (by rw [hl.out]; exact hs)]
    replace spec := Lib.hid spec
    replace hs := Lib.hid hs
    go_wp2_with fail
    go_ret
    exact ⟨hG, by rw [spec.out]; exact ⟨rfl, by decide⟩⟩
  subst hs
  have hgv := Lib.hid (getV_all v 4 hl.out)
  have n0' := getN_lo v 4
  have n1' := getN_4 v 4 (by omega)
  go_wp2_with fail
  refine (refGet_any w2 V 4 vc v _ hv hvc hvm 0 (by omega) 4 (by omega) (by omega)).mono ?_
  rintro e w3 ⟨rfl, rfl⟩
  rw [hgv.out]
  go_wp2_with fail
  refine (refHop_any (getN v 4) w2 n0' n1').mono ?_
  rintro e w3 ⟨rfl, rfl⟩
  cases h2 : hopV (getN v 4)
  · have spec : takeS a f 3 v = .error 8 := by unfold takeS; rw [if_neg (by decide), if_neg (by decide), if_pos rfl, if_neg (by simpa using hf.out), if_neg (by rw [hl.out]; decide), if_pos h2]
    replace spec := Lib.hid spec
    go_wp2_with fail
    go_ret
    exact ⟨hG, by rw [spec.out]; exact ⟨rfl, by decide⟩⟩
  have spec : takeS a f 3 v = .ok { a with h := getN v 4 } := by unfold takeS; rw [if_neg (by decide), if_neg (by decide), if_pos rfl, if_neg (by simpa using hf.out), if_neg (by rw [hl.out]; decide), if_neg (by rw [h2]; decide)]
  replace spec := Lib.hid spec
  have ce2 : w2.cell? ⟨g, 2, none⟩ = some (.int .u32 a.h) := hq.cellv 2 rfl
  have fz2 := hq.frozen 2
  obtain ⟨hq0x, hg0x⟩ := blk_store hq 2 (.int .u32 (getN v 4))
  have hgx := hg0x
  have hSx := (hS.grown hgx (fun b hb => ⟨hb.2, by intro e; injection e with e; omega⟩)).more (S' := fun b => L ≤ b ∧ b < (w2.setCell ⟨g, 2, none⟩ (.int .u32 (getN v 4))).heap.size) (fun b hb => ⟨hb.1, Nat.lt_of_lt_of_le hb.2 hgx.size⟩)
  have hqx : Blk (w2.setCell ⟨g, 2, none⟩ (.int .u32 (getN v 4))) g 31 (attC a.o A0 n0 c0 (getN v 4) a.m a.b) := hq0x
  replace hG := grown_trans hG hgx
  replace hqx := Lib.hid hqx
  replace hSx := Lib.hid hSx
  replace hG := Lib.hid hG
  clear hq hS hgx hq0x hg0x
  go_wp2_with fail
  go_ret
  exact ⟨hG.out, by rw [spec.out]; exact ⟨rfl, A0, n0, c0, hqx.out, hSx.out⟩⟩
set_option maxRecDepth 100000 in
set_option maxHeartbeats 4000000 in
theorem refTakeK4_any (w : World) (L g : Nat) (a : AttV) (f : Int) (V : Option Addr) (n vc : Nat) (v : List UInt8) (hA : RefIn w L g a) (hgL : g < L) (hL : L ≤ w.heap.size) (hv : Byt w w.heap.size V n v) (hvc : n ≤ vc) (hvm : vc ≤ maxLen) (hn : n ≤ 10000000) :
    Calls Try.prog 86 #[.pointer (some ⟨g, 0, none⟩), .agg #[.int .i64 f, .int .i64 4, .slice V n vc]] w fun e w' => w.grownBy w' (some g) ∧ RefTakeP w' L g e (takeS a f 4 v) := by
  have hgw := hA.lt
  have hl := Lib.hid hv.1
  have hB := (Below.refl w.heap.size w).alloc (Nat.le_refl _) (.cells #[.int .i64 f, .int .i64 4, .slice V n vc] 124)
  have hr := Blk.new w 124 #[.int .i64 f, .int .i64 4, .slice V n vc]
  replace hv := hv.nx hB
  replace hA := hA.below hB
  go_enter Try.func86, Try.ntmps86
  go_upto_region 1 with (fail)
  generalize w.alloc (.cells #[.int .i64 f, .int .i64 4, .slice V n vc] 124) = w2 at *
  have hG := grown_of hB (Nat.le_refl _) (some g)
  have ltr := hr.lt
  have f0 : w2.cell? ⟨w.heap.size, 0, none⟩ = some (.int .i64 f) := hr.cellv 0 rfl
  have f1 : w2.cell? ⟨w.heap.size, 1, none⟩ = some (.int .i64 4) := hr.cellv 1 rfl
  have f2 : w2.cell? ⟨w.heap.size, 2, none⟩ = some (.slice V n vc) := hr.cellv 2 rfl
  by_cases hf : baseF f = 128
  rotate_left
  · have b1 : (bits .andNot .i64 f 16 != 128) = true := by rw [bne_iff_ne]; exact hf
    have spec : takeS a f 4 v = .error 4 := by unfold takeS; rw [if_neg (by decide), if_neg (by decide), if_neg (by decide), if_pos rfl, if_pos hf]
    replace spec := Lib.hid spec
    replace hf := Lib.hid hf
    go_wp2_with fail
    go_ret
    exact ⟨hG, by rw [spec.out]; exact ⟨rfl, by decide⟩⟩
  have b1 : (bits .andNot .i64 f 16 != 128) = false := by rw [bne_eq_false_iff_eq]; exact hf
  replace hf := Lib.hid hf
  obtain ⟨A0, n0, c0, hq, hS⟩ := hA
  unfold attC at hq
  have ltq := hq.lt
  by_cases hs : n = 4
  rotate_left
  · have b2 : ((n : Int) != 4) = true := by rw [bne_iff_ne]; omega
    have spec : takeS a f 4 v = .error 5 := by unfold takeS; rw [if_neg (by decide), if_neg (by decide), if_neg (by decide), if_pos rfl, if_neg (by simpa using hf.out), if_pos (by rw [hl.out]; exact hs)]
    replace spec := Lib.hid spec
    replace hs := Lib.hid hs
    go_wp2_with fail
    go_ret
    exact ⟨hG, by rw [spec.out]; exact ⟨rfl, by decide⟩⟩
  subst hs
  have hgv := Lib.hid (getV_all v 4 hl.out)
  have n0' := getN_lo v 4
  have n1' := getN_4 v 4 (by omega)
  go_wp2_with fail
  refine (refGet_any w2 V 4 vc v _ hv hvc hvm 0 (by omega) 4 (by omega) (by omega)).mono ?_
  rintro e w3 ⟨rfl, rfl⟩
  rw [hgv.out]
  have spec : takeS a f 4 v = .ok { a with m := getN v 4, b := true } := by unfold takeS; rw [if_neg (by decide), if_neg (by decide), if_neg (by decide), if_pos rfl, if_neg (by simpa using hf.out), if_neg (by rw [hl.out]; decide)]
  replace spec := Lib.hid spec
  have ce3 : w2.cell? ⟨g, 3, none⟩ = some (.int .i64 a.m) := hq.cellv 3 rfl
  have fz3 := hq.frozen 3
  have ce4 : w2.cell? ⟨g, 4, none⟩ = some (.bool a.b) := hq.cellv 4 rfl
  have fz4 := hq.frozen 4
  obtain ⟨hq0x, hg0x⟩ := blk_store hq 3 (.int .i64 (getN v 4))
  obtain ⟨hq1x, hg1x⟩ := blk_store hq0x 4 (.bool true)
  have hgx := grown_trans hg0x hg1x
  have hSx := (hS.grown hgx (fun b hb => ⟨hb.2, by intro e; injection e with e; omega⟩)).more (S' := fun b => L ≤ b ∧ b < ((w2.setCell ⟨g, 3, none⟩ (.int .i64 (getN v 4))).setCell ⟨g, 4, none⟩ (.bool true)).heap.size) (fun b hb => ⟨hb.1, Nat.lt_of_lt_of_le hb.2 hgx.size⟩)
  have hqx : Blk ((w2.setCell ⟨g, 3, none⟩ (.int .i64 (getN v 4))).setCell ⟨g, 4, none⟩ (.bool true)) g 31 (attC a.o A0 n0 c0 a.h (getN v 4) true) := hq1x
  replace hG := grown_trans hG hgx
  replace hqx := Lib.hid hqx
  replace hSx := Lib.hid hSx
  replace hG := Lib.hid hG
  clear hq hS hgx hq0x hg0x hq1x hg1x
  go_wp2_with fail
  go_ret
  exact ⟨hG.out, by rw [spec.out]; exact ⟨rfl, A0, n0, c0, hqx.out, hSx.out⟩⟩
set_option maxRecDepth 100000 in
set_option maxHeartbeats 4000000 in
theorem refTakeK0_any (w : World) (L g : Nat) (a : AttV) (f t : Int) (V : Option Addr) (n vc : Nat) (v : List UInt8) (hA : RefIn w L g a) (hgL : g < L) (hL : L ≤ w.heap.size) (hv : Byt w w.heap.size V n v) (hvc : n ≤ vc) (hvm : vc ≤ maxLen) (hn : n ≤ 10000000) (h1 : t ≠ 1) (h2 : t ≠ 2) (h3 : t ≠ 3) (h4 : t ≠ 4) :
    Calls Try.prog 86 #[.pointer (some ⟨g, 0, none⟩), .agg #[.int .i64 f, .int .i64 t, .slice V n vc]] w fun e w' => w.grownBy w' (some g) ∧ RefTakeP w' L g e (takeS a f t v) := by
  have hgw := hA.lt
  have hl := Lib.hid hv.1
  have hB := (Below.refl w.heap.size w).alloc (Nat.le_refl _) (.cells #[.int .i64 f, .int .i64 t, .slice V n vc] 124)
  have hr := Blk.new w 124 #[.int .i64 f, .int .i64 t, .slice V n vc]
  replace hv := hv.nx hB
  replace hA := hA.below hB
  go_enter Try.func86, Try.ntmps86
  go_upto_region 1 with (fail)
  generalize w.alloc (.cells #[.int .i64 f, .int .i64 t, .slice V n vc] 124) = w2 at *
  have hG := grown_of hB (Nat.le_refl _) (some g)
  have ltr := hr.lt
  have f0 : w2.cell? ⟨w.heap.size, 0, none⟩ = some (.int .i64 f) := hr.cellv 0 rfl
  have f1 : w2.cell? ⟨w.heap.size, 1, none⟩ = some (.int .i64 t) := hr.cellv 1 rfl
  have f2 : w2.cell? ⟨w.heap.size, 2, none⟩ = some (.slice V n vc) := hr.cellv 2 rfl
  have t1 : (t == 1) = false := by simpa using h1
  have t2 : (t == 2) = false := by simpa using h2
  have t3 : (t == 3) = false := by simpa using h3
  have t4 : (t == 4) = false := by simpa using h4
  by_cases hp : optB f = false
  · have b1 : (bits .and .i64 f 128 == 0) = true := by unfold optB at hp; simpa using hp
    have spec : takeS a f t v = .error 2 := by unfold takeS; rw [if_neg h1, if_neg h2, if_neg h3, if_neg h4, if_pos hp]
    replace spec := Lib.hid spec
    replace hp := Lib.hid hp
    clear h1 h2 h3 h4
    go_wp2_with fail
    go_ret
    exact ⟨hG, by rw [spec.out]; exact ⟨rfl, by decide⟩⟩
  have b1 : (bits .and .i64 f 128 == 0) = false := by unfold optB at hp; simpa using hp
  have spec : takeS a f t v = .ok a := by unfold takeS; rw [if_neg h1, if_neg h2, if_neg h3, if_neg h4, if_neg hp]
  replace spec := Lib.hid spec
  replace hp := Lib.hid hp
  clear h1 h2 h3 h4
  go_wp2_with fail
  go_ret
  exact ⟨hG, by rw [spec.out]; exact ⟨rfl, hA⟩⟩
theorem refTake_any (w : World) (L g : Nat) (a : AttV) (f t : Int) (V : Option Addr) (n vc : Nat) (v : List UInt8) (hA : RefIn w L g a) (hgL : g < L) (hL : L ≤ w.heap.size) (hv : Byt w w.heap.size V n v) (hvc : n ≤ vc) (hvm : vc ≤ maxLen) (hn : n ≤ 10000000) :
    Calls Try.prog 86 #[.pointer (some ⟨g, 0, none⟩), .agg #[.int .i64 f, .int .i64 t, .slice V n vc]] w fun e w' => w.grownBy w' (some g) ∧ RefTakeP w' L g e (takeS a f t v) := by
  by_cases h1 : t = 1
  · subst h1; exact refTakeK1_any w L g a f V n vc v hA hgL hL hv hvc hvm hn
  by_cases h2 : t = 2
  · subst h2; exact refTakeK2_any w L g a f V n vc v hA hgL hL hv hvc hvm hn
  by_cases h3 : t = 3
  · subst h3; exact refTakeK3_any w L g a f V n vc v hA hgL hL hv hvc hvm hn
  by_cases h4 : t = 4
  · subst h4; exact refTakeK4_any w L g a f V n vc v hA hgL hL hv hvc hvm hn
  exact refTakeK0_any w L g a f t V n vc v hA hgL hL hv hvc hvm hn h1 h2 h3 h4
end Go.Proofs.Ytfnclmacodchfaa
