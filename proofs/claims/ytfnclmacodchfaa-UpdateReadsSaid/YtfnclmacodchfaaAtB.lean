/- attr: Join. -/
import Derived.Test.YtfnclmacodchfaaAtA
namespace Go.Proofs.Ytfnclmacodchfaa
set_option linter.unusedVariables false
open Go.RowKit

def joinL (rs : List RawV) : List UInt8 := rs.flatMap fun r => oneL r.f r.t r.v
theorem joinL_take (rs : List RawV) (k : Nat) (r : RawV) (h : rs[k]? = some r) : joinL (rs.take (k + 1)) = joinL (rs.take k) ++ oneL r.f r.t r.v := by
  unfold joinL
  rw [List.take_add_one, h]; simp
theorem joinL_len (rs : List RawV) : (joinL rs).length ≤ 65539 * rs.length := by
  unfold joinL
  induction rs with
  | nil => simp
  | cons r rs ih => rw [List.flatMap_cons, List.length_append, List.length_cons]; have := oneL_len r.f r.t r.v; omega
/-- the k-th of them, in memory. -/
theorem raw_cells {w : World} {S : Nat → Prop} {A : Option Addr} {n : Nat} {rs : List RawV} (h : Seen rawK w S A n rs) {k : Nat} (hk : k < n) :
    ∃ b off r, A = some ⟨b, off, none⟩ ∧ S b ∧ rs[k]? = some r ∧ rawK.ok w S r ∧ w.cell? ⟨b, off + k * 3, none⟩ = some (.int .i64 r.f) ∧ w.cell? ⟨b, off + k * 3 + 1, none⟩ = some (.int .i64 r.t) ∧ w.cell? ⟨b, off + k * 3 + 2, none⟩ = some (.slice r.A r.n r.c) := by
  have hlt : k < rs.length := by rw [h.1]; exact hk
  have hr := List.getElem?_eq_getElem hlt
  obtain ⟨b, off, e, hb, hc⟩ := h.cell hr
  exact ⟨b, off, _, e, hb, hr, h.2.1 _ (List.getElem_mem hlt), hc 0 (by decide), hc 1 (by decide), hc 2 (by decide)⟩
theorem byt_two (w : World) (x y : Int) : Byt (w.alloc (.cells #[.int .u8 (x % 256), .int .u8 (y % 256)] 5)) (w.heap.size + 1) (some ⟨w.heap.size, 0, none⟩) 2 [byOf x, byOf y] := by
  have h := Byt.new w [byOf x, byOf y] 5 (0, 0)
  have e : byCells [byOf x, byOf y] = #[.int .u8 (x % 256), .int .u8 (y % 256)] := by simp [byCells, byOf_val]
  rw [e] at h
  exact h
theorem own_two (w : World) (x y : Int) : OwnB (w.alloc (.cells #[.int .u8 (x % 256), .int .u8 (y % 256)] 5)) w.heap.size (.slice (some ⟨w.heap.size, 0, none⟩) 2 2) 2 [byOf x, byOf y] := by
  have h := OwnB.lit (base := w.heap.size) w [byOf x, byOf y] (Nat.le_refl _) (by unfold maxLen; simp)
  have e : byCells [byOf x, byOf y] = #[.int .u8 (x % 256), .int .u8 (y % 256)] := by simp [byCells, byOf_val]
  rw [e] at h
  exact h
theorem byt_one (w : World) (x : Int) : Byt (w.alloc (.cells #[.int .u8 (x % 256)] 5)) (w.heap.size + 1) (some ⟨w.heap.size, 0, none⟩) 1 [byOf x] := by
  have h := Byt.new w [byOf x] 5 (0, 0)
  have e : byCells [byOf x] = #[.int .u8 (x % 256)] := by simp [byCells, byOf_val]
  rw [e] at h
  exact h
set_option maxRecDepth 100000 in
set_option maxHeartbeats 8000000 in
theorem refOne_any (w : World) (r : RawV) (h : rawK.ok w (fun b => b < w.heap.size) r) :
    Calls Try.prog 87 #[.agg #[.int .i64 r.f, .int .i64 r.t, .slice r.A r.n r.c]] w fun e w' => ∃ v, e = .returned v ∧ OwnB w' w.heap.size v (oneL r.f r.t r.v).length (oneL r.f r.t r.v) ∧ Below w.heap.size w w' := by
  obtain ⟨f, t, A, n, c, l⟩ := r
  obtain ⟨hc, hc2, hb0⟩ := h
  have hP : Byt w w.heap.size A n l := hb0.byt fun _ h => h
  clear hb0
  show Calls _ _ #[.agg #[.int .i64 f, .int .i64 t, .slice A n c]] _ _
  simp only
  have hl := hP.1
  have hB := (Below.refl w.heap.size w).alloc (Nat.le_refl _) (.cells #[.int .i64 f, .int .i64 t, .slice A n c] 124)
  have hx := ext_bit f
  have hI := hP.nx hB
  have hz1 := hB.size
  have hq := Blk.new w 124 #[.int .i64 f, .int .i64 t, .slice A n c]
  generalize hw1 : w.alloc (.cells #[.int .i64 f, .int .i64 t, .slice A n c] 124) = w1 at hB hI hz1 hq
  have lt1 := hq.lt
  have f0 : w1.cell? ⟨w.heap.size, 0, none⟩ = some (.int .i64 f) := hq.cellv 0 rfl
  have f1 : w1.cell? ⟨w.heap.size, 1, none⟩ = some (.int .i64 t) := hq.cellv 1 rfl
  have f2 : w1.cell? ⟨w.heap.size, 2, none⟩ = some (.slice A n c) := hq.cellv 2 rfl
  have hb2 := (Below.refl w1.heap.size w1).alloc (Nat.le_refl _) (.cells #[.int .u8 (f % 256), .int .u8 (t % 256)] 5)
  have own2 := own_two w1 f t
  have hI1 := hI
  have hB1 := hB
  replace hI := hI.nx hb2
  replace hB := hB.trans (hb2.mono hz1)
  have hq2 := hq.below hb2 lt1
  generalize hw2 : w1.alloc (.cells #[.int .u8 (f % 256), .int .u8 (t % 256)] 5) = w2 at own2 hB hI hq2 hb2
  have hlt2 := hb2.size
  have lt2 := hq2.lt
  have g0 : w2.cell? ⟨w.heap.size, 0, none⟩ = some (.int .i64 f) := hq2.cellv 0 rfl
  have g2 : w2.cell? ⟨w.heap.size, 2, none⟩ = some (.slice A n c) := hq2.cellv 2 rfl
  replace hl := Lib.hid hl
  clear hP
  cases hxb : extB f
  · rw [hxb] at hx
    by_cases hk : n ≤ 255
    rotate_left
    have i1 : (255 : Int) < n := by omega
    obtain ⟨As, hsl, hby⟩ := slice_take A n c 255 (by omega) hc
    rw [show ((255 : Nat) : Int) = 255 from rfl] at hsl
    have hsb := hby _ _ l hI1
    clear hby
    have hone : oneL f t l = [byOf f, byOf t] ++ ([byOf 255] ++ l.take 255) := by
      rw [oneL_ff hxb, hl.out, Nat.min_eq_right (by omega)]
      rfl
    replace hone := Lib.hid hone
    replace hxb := Lib.hid hxb
    go_enter Try.func87, Try.ntmps87
    have e255 : ((255 : Int) % 256) = 255 := by omega
    have own2a := own2.alloc (.cells #[.int .u8 (255 % 256)] 5)
    have one3 := byt_one w2 255
    rw [e255] at own2a one3
    have hb3 := (Below.refl w2.heap.size w2).alloc (Nat.le_refl _) (.cells #[.int .u8 255] 5)
    have hb13 := hb2.trans (hb3.mono hlt2)
    have hz2 := hB.size
    have hz3 := hb3.size
    go_wp2_with first
      | (at_builtin; refine wpList_app _ rfl (.tmp 33) (.tmp 37) rfl w1.heap.size _ 2 _ rfl own2a _ _ 1 1 _ rfl one3 (by omega) (by omega) ?_; intro v4 w4 own4 hg4 hd4; clear hd4; have hb4 := hb13.trans (own2a.below_app hg4 (by omega)); have hz4 := hb4.size; clear hg4)
      | (at_builtin; refine wpList_app _ rfl (.tmp 39) (.tmp 40) rfl _ _ _ _ rfl own4 _ _ 255 _ _ rfl (hsb.nx hb4) (by omega) (by omega) ?_; intro v5 w5 own5 hg5 hd5; clear hd5)
    go_ret
    refine ⟨v5, rfl, ?_, hB1.trans ((hb4.trans (own4.below_app hg5 hz4)).mono hz1)⟩
    have hln := own5.len
    rw [hone.out]
    simp only [List.cons_append, List.nil_append] at own5 hln ⊢
    rw [← hln] at own5
    exact own5.less hz1
    have i1 : (n : Int) ≤ 255 := by omega
    have hsb := hI1
    have hone : oneL f t l = [byOf f, byOf t] ++ ([byOf (n : Int)] ++ l) := by
      rw [oneL_ff hxb, hl.out, Nat.min_eq_left (by omega)]
      rw [List.take_of_length_le (by have := hl.out; omega)]
    replace hone := Lib.hid hone
    replace hxb := Lib.hid hxb
    go_enter Try.func87, Try.ntmps87
    have e255 : (((n : Int) : Int) % 256) = (n : Int) := by omega
    have own2a := own2.alloc (.cells #[.int .u8 ((n : Int) % 256)] 5)
    have one3 := byt_one w2 (n : Int)
    rw [e255] at own2a one3
    have hb3 := (Below.refl w2.heap.size w2).alloc (Nat.le_refl _) (.cells #[.int .u8 (n : Int)] 5)
    have hb13 := hb2.trans (hb3.mono hlt2)
    have hz2 := hB.size
    have hz3 := hb3.size
    go_wp2_with first
      | (at_builtin; refine wpList_app _ rfl (.tmp 33) (.tmp 37) rfl w1.heap.size _ 2 _ rfl own2a _ _ 1 1 _ rfl one3 (by omega) (by omega) ?_; intro v4 w4 own4 hg4 hd4; clear hd4; have hb4 := hb13.trans (own2a.below_app hg4 (by omega)); have hz4 := hb4.size; clear hg4)
      | (at_builtin; refine wpList_app _ rfl (.tmp 39) (.tmp 40) rfl _ _ _ _ rfl own4 _ _ n _ _ rfl (hsb.nx hb4) (by omega) (by omega) ?_; intro v5 w5 own5 hg5 hd5; clear hd5)
    go_ret
    refine ⟨v5, rfl, ?_, hB1.trans ((hb4.trans (own4.below_app hg5 hz4)).mono hz1)⟩
    have hln := own5.len
    rw [hone.out]
    simp only [List.cons_append, List.nil_append] at own5 hln ⊢
    rw [← hln] at own5
    exact own5.less hz1
  · rw [hxb] at hx
    by_cases hk : n ≤ 65535
    rotate_left
    have i1 : (65535 : Int) < n := by omega
    obtain ⟨As, hsl, hby⟩ := slice_take A n c 65535 (by omega) hc
    rw [show ((65535 : Nat) : Int) = 65535 from rfl] at hsl
    have hsb := hby _ _ l hI
    clear hby
    have hone : oneL f t l = [byOf f, byOf t] ++ (be 65535 2 ++ l.take 65535) := by
      rw [oneL_tt hxb, hl.out, Nat.min_eq_right (by omega)]
      rfl
    replace hone := Lib.hid hone
    replace hxb := Lib.hid hxb
    go_enter Try.func87, Try.ntmps87
    go_wp2_with fail
    refine (refPut_any _ _ 2 2 _ _ own2.byt (Nat.le_refl _) (by omega) 65535 (by omega) 2 (by omega)).mono ?_
    rintro e w4 ⟨v4, rfl, own4, hb⟩
    replace hsb := hsb.nx hb
    have hz3 := hB.size
    replace hB := hB.trans (hb.mono hz3)
    have hz4 := hb.size
    clear hb
    go_wp2_with (at_builtin; refine wpList_app _ rfl (.tmp 39) (.tmp 40) rfl _ _ _ _ rfl own4 _ _ 65535 _ _ rfl hsb (by omega) (by omega) ?_; intro v5 w5 own5 hg5 hd5; clear hd5)
    go_ret
    refine ⟨v5, rfl, ?_, hB.trans ((own4.below_app hg5 (by omega)).mono hz3)⟩
    have hln := own5.len
    rw [hone.out]
    simp only [List.cons_append, List.nil_append] at own5 hln ⊢
    rw [← hln] at own5
    exact own5.less hz3
    have i1 : (n : Int) ≤ 65535 := by omega
    have hsb := hI
    have hone : oneL f t l = [byOf f, byOf t] ++ (be (n : Int) 2 ++ l) := by
      rw [oneL_tt hxb, hl.out, Nat.min_eq_left (by omega)]
      rw [List.take_of_length_le (by have := hl.out; omega)]
    replace hone := Lib.hid hone
    replace hxb := Lib.hid hxb
    go_enter Try.func87, Try.ntmps87
    go_wp2_with fail
    refine (refPut_any _ _ 2 2 _ _ own2.byt (Nat.le_refl _) (by omega) (n : Int) (by omega) 2 (by omega)).mono ?_
    rintro e w4 ⟨v4, rfl, own4, hb⟩
    replace hsb := hsb.nx hb
    have hz3 := hB.size
    replace hB := hB.trans (hb.mono hz3)
    have hz4 := hb.size
    clear hb
    go_wp2_with (at_builtin; refine wpList_app _ rfl (.tmp 39) (.tmp 40) rfl _ _ _ _ rfl own4 _ _ n _ _ rfl hsb (by omega) (by omega) ?_; intro v5 w5 own5 hg5 hd5; clear hd5)
    go_ret
    refine ⟨v5, rfl, ?_, hB.trans ((own4.below_app hg5 (by omega)).mono hz3)⟩
    have hln := own5.len
    rw [hone.out]
    simp only [List.cons_append, List.nil_append] at own5 hln ⊢
    rw [← hln] at own5
    exact own5.less hz3
end Go.Proofs.Ytfnclmacodchfaa
