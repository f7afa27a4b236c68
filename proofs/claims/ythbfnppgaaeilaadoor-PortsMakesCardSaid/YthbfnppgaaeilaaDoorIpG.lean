/- ip: the document's head. ip: the document's Build; both build the same bytes. -/
import Derived.Test.YthbfnppgaaeilaaDoorIpE
import Derived.Test.YthbfnppgaaeilaaDoorLib
namespace Go.Proofs.YthbfnppgaaeilaaDoor
set_option linter.unusedVariables false
open Go.RowKit

theorem two_bytes (w : World) (y z : Int) : Byt (w.alloc (.cells #[.int .u8 (y % 256), .int .u8 (z % 256)] 5)) (w.heap.size + 1) (some ⟨w.heap.size, 0, none⟩) 2 [byOf y, byOf z] := by
  have h := Byt.new w [byOf y, byOf z] 5 (0, 0)
  rw [show byCells [byOf y, byOf z] = #[.int .u8 (y % 256), .int .u8 (z % 256)] from by simp [byCells, byOf_val]] at h
  exact h
theorem refPut2w_any (w : World) (A : Option Addr) (n c : Nat) (l : List UInt8) (B : Nat) (h : Byt w B A n l) (hB : B ≤ w.heap.size) (hn : n ≤ 100000000) (x : Int) :
    Calls Tryd.prog 42 #[.slice A n c, .int .u64 (IntKind.u64.wrap x), .int .i64 2] w fun e w' => ∃ v, e = .returned v ∧ OwnB w' w.heap.size v (n + 2) (l ++ be (x % 18446744073709551616) 2) ∧ Below w.heap.size w w' := by
  rw [IntKind.wrap_u64]
  exact refPut_any w A n c l B h hB hn (x % 18446744073709551616) (by omega) 2 (by omega)
theorem refPut4u_any (w : World) (A : Option Addr) (n c : Nat) (l : List UInt8) (B : Nat) (h : Byt w B A n l) (hB : B ≤ w.heap.size) (hn : n ≤ 100000000) (x : Int) (x0 : 0 ≤ x) (x1 : x ≤ 4294967295) :
    Calls Tryd.prog 42 #[.slice A n c, .int .u64 (IntKind.u64.wrap x), .int .i64 4] w fun e w' => ∃ v, e = .returned v ∧ OwnB w' w.heap.size v (n + 4) (l ++ be x 4) ∧ Below w.heap.size w w' := by
  rw [IntKind.wrap_u64, Int.emod_eq_of_lt x0 (by omega)]
  exact refPut_any w A n c l B h hB hn x x0 4 (by omega)
/-- the bytes of the document's head. -/
def refL (t i f g l p s d : Int) (n : Nat) (N sum : Int) : List UInt8 := [byOf (64 + (20 + (n : Int)) / 4), byOf t] ++ be (N % 18446744073709551616) 2 ++ be (i % 18446744073709551616) 2 ++ be (f * 8192 + g) 2 ++ [byOf l, byOf p] ++ be (sum % 18446744073709551616) 2 ++ be s 4 ++ be d 4
set_option maxRecDepth 100000 in
set_option maxHeartbeats 4000000 in
theorem refHead_any (t i f g l p s d : Int) (A : Option Addr) (n c : Nat) (o : List UInt8) (N sum : Int) (w : World) (hn : n ≤ 40) (hO : Byt w w.heap.size A n o) (s0 : 0 ≤ s) (s1 : s ≤ 4294967295) (d0 : 0 ≤ d) (d1 : d ≤ 4294967295)
    (f0 : 0 ≤ f) (f1 : f ≤ 7) (g0 : 0 ≤ g) (g1 : g ≤ 8191) :
    Calls Tryd.prog 79 #[.agg #[.int .i64 t, .int .i64 i, .int .i64 f, .int .i64 g, .int .i64 l, .int .i64 p, .int .u32 s, .int .u32 d, .slice A n c], .int .i64 N, .int .i64 sum] w fun e w' => ∃ v, e = .returned v ∧ OwnB w' w.heap.size v (20 + n) (refL t i f g l p s d n N sum ++ o) ∧ Below w.heap.size w w' := by
  have hq := Blk.new w 94 (hdrCs t i f g l p s d A n c)
  have hB := (Below.refl w.heap.size w).alloc (Nat.le_refl _) (.cells (hdrCs t i f g l p s d A n c) 94)
  go_enter Tryd.func79, Tryd.ntmps79
  have by0 := two_bytes (w.alloc (.cells (hdrCs t i f g l p s d A n c) 94)) (64 + (20 + (n : Int)) / 4) t
  have hq0 := hq.alloc (.cells #[.int .u8 ((64 + (20 + (n : Int)) / 4) % 256), .int .u8 (t % 256)] 5)
  have hB0 := hB.alloc hB.size (.cells #[.int .u8 ((64 + (20 + (n : Int)) / 4) % 256), .int .u8 (t % 256)] 5)
  rw [Int.emod_eq_of_lt (a := 64 + (20 + (n : Int)) / 4) (by omega) (by omega)] at by0 hq0 hB0
  rw [World.size_alloc] at by0
  clear hq hB
  go_wp2_with fail
  refine (refPut2w_any _ _ 2 2 _ _ by0 (by simp) (by omega) _).mono ?_
  rintro e w1 ⟨v1, rfl, own1, hb1⟩
  obtain ⟨A1, c1, rfl, _, by1, _⟩ := own1.any
  have hB1 := hB0.trans (hb1.mono hB0.size)
  have hq1 := hq0.below hb1 hq0.lt
  have k11 := hq1.cellv 1 (v := .int .i64 i) rfl
  clear own1 by0 hq0 hB0 hb1
  revert by1
  generalize hl1 : [byOf (64 + (20 + (n : Int)) / 4), byOf t] ++ be (N % 18446744073709551616) 2 = L1
  intro by1
  replace hl1 := Lib.hid hl1
  go_wp2_with fail
  refine (refPut2w_any w1 A1 _ c1 _ _ by1 (Nat.le_refl _) (by omega) _).mono ?_
  rintro e w2 ⟨v2, rfl, own2, hb2⟩
  obtain ⟨A2, c2, rfl, _, by2, _⟩ := own2.any
  have hB2 := hB1.trans (hb2.mono hB1.size)
  have hq2 := hq1.below hb2 hq1.lt
  have k22 := hq2.cellv 2 (v := .int .i64 f) rfl
  have k23 := hq2.cellv 3 (v := .int .i64 g) rfl
  clear own2 by1 hq1 hB1 hb2 k11
  revert by2
  generalize hl2 : L1 ++ be (i % 18446744073709551616) 2 = L2
  intro by2
  replace hl2 := Lib.hid hl2
  go_wp2_with fail
  --@a
  refine (refPut_any w2 A2 _ c2 _ _ by2 (Nat.le_refl _) (by omega) (f * 8192 + g) (by omega) 2 (by omega)).mono ?_
  rintro e w3 ⟨v3, rfl, own3, hb3⟩
  have hB3 := hB2.trans (hb3.mono hB2.size)
  have hq3 := hq2.below hb3 hq2.lt
  have k34 := hq3.cellv 4 (v := .int .i64 l) rfl
  have k35 := hq3.cellv 5 (v := .int .i64 p) rfl
  have hz3 := hb3.size
  have two3 := two_bytes w3 l p
  have hq3a := hq3.alloc (.cells #[.int .u8 (l % 256), .int .u8 (p % 256)] 5)
  have hB3a := hB3.alloc hB3.size (.cells #[.int .u8 (l % 256), .int .u8 (p % 256)] 5)
  have own3a := own3.alloc (.cells #[.int .u8 (l % 256), .int .u8 (p % 256)] 5)
  have hq2l := hq2.lt
  clear by2 hq2 hB2 hb3 k22 k23 own3 hq3 hB3
  --@b
  go_wp2_with (at_builtin; refine wpList_app _ rfl (.tmp 37) (.tmp 44) rfl w2.heap.size _ _ _ rfl own3a _ _ 2 2 _ rfl two3 (by omega) (by simp; omega) ?_; intro v4 w4 own4 hg4 hd4; clear hd4; have hb4 := own3a.below_app hg4 (by simp; omega); clear hg4)
  --@c
  obtain ⟨A4, c4, rfl, _, by4, _⟩ := own4.any
  replace hq3a := hq3a.below hb4 hq2l
  replace hB3a := hB3a.trans (hb4.mono (by omega))
  revert by4
  generalize hl4 : L2 ++ be (f * 8192 + g) 2 ++ [byOf l, byOf p] = L4
  intro by4
  replace hl4 := Lib.hid hl4
  clear own3a two3 k34 k35 own4 hb4
  --@d show
  refine (refPut2w_any w4 A4 _ c4 _ _ by4 (Nat.le_refl _) (by omega) _).mono ?_
  rintro e w5 ⟨v5, rfl, own5, hb5⟩
  obtain ⟨A5, c5, rfl, _, by5, _⟩ := own5.any
  replace hB3a := hB3a.trans (hb5.mono hB3a.size)
  replace hq3a := hq3a.below hb5 hq3a.lt
  have k56 := hq3a.cellv 6 (v := .int .u32 s) rfl
  have k57 := hq3a.cellv 7 (v := .int .u32 d) rfl
  have k5l := hq3a.lt
  go_wp2_with fail
  --@e show
  -- region 7: 0 1 2 3 4C 5 6 7 8C 9
  try refine wp_region_noPanic ?_
  have hs1r : Below w5.heap.size w5 w5.drew := (Below.refl _ _).drew
  refine wp_region_held_drew (S := fun w' => Below w5.heap.size w5 w') (by kernel_rfl) hs1r (fun _ => ?_)
  (refine held_takeA 0 (by rfl) ?_ (by kernel_rfl) (fun _ _ _ h => h) hs1r ?_ ?_; rotate_left; (focus (intro wq hSw; have hrd : ∀ b o, b < w5.heap.size → wq.cell? ⟨b, o, none⟩ = w5.cell? ⟨b, o, none⟩ := (fun b o h => hSw.cell (p := ⟨b, o, none⟩) h); go_simp; try with_reducible rfl; done)); try simp only [Act.put, List.setIfInBounds_toArray, List.set_cons_zero, List.set_cons_succ])
  (refine held_takeA 1 (by rfl) ?_ (by kernel_rfl) (fun _ _ _ h => h) hs1r ?_ ?_; rotate_left; (focus (intro wq hSw; have hrd : ∀ b o, b < w5.heap.size → wq.cell? ⟨b, o, none⟩ = w5.cell? ⟨b, o, none⟩ := (fun b o h => hSw.cell (p := ⟨b, o, none⟩) h); go_simp; try with_reducible rfl; done)); try simp only [Act.put, List.setIfInBounds_toArray, List.set_cons_zero, List.set_cons_succ])
  (refine held_takeA 2 (by rfl) ?_ (by kernel_rfl) (fun _ _ _ h => h) hs1r ?_ ?_; rotate_left; (focus (intro wq hSw; have hrd : ∀ b o, b < w5.heap.size → wq.cell? ⟨b, o, none⟩ = w5.cell? ⟨b, o, none⟩ := (fun b o h => hSw.cell (p := ⟨b, o, none⟩) h); go_simp; try with_reducible rfl; done)); try simp only [Act.put, List.setIfInBounds_toArray, List.set_cons_zero, List.set_cons_succ])
  (refine held_takeA 3 (by rfl) ?_ (by kernel_rfl) (fun _ _ _ h => h) hs1r ?_ ?_; rotate_left; (focus (intro wq hSw; have hrd : ∀ b o, b < w5.heap.size → wq.cell? ⟨b, o, none⟩ = w5.cell? ⟨b, o, none⟩ := (fun b o h => hSw.cell (p := ⟨b, o, none⟩) h); go_simp; try with_reducible rfl; done)); try simp only [Act.put, List.setIfInBounds_toArray, List.set_cons_zero, List.set_cons_succ])
  (refine held_takeA 5 (by rfl) ?_ (by kernel_rfl) (fun _ _ _ h => h) hs1r ?_ ?_; rotate_left; (focus (intro wq hSw; have hrd : ∀ b o, b < w5.heap.size → wq.cell? ⟨b, o, none⟩ = w5.cell? ⟨b, o, none⟩ := (fun b o h => hSw.cell (p := ⟨b, o, none⟩) h); go_simp; try with_reducible rfl; done)); try simp only [Act.put, List.setIfInBounds_toArray, List.set_cons_zero, List.set_cons_succ])
  (refine held_takeA 6 (by rfl) ?_ (by kernel_rfl) (fun _ _ _ h => h) hs1r ?_ ?_; rotate_left; (focus (intro wq hSw; have hrd : ∀ b o, b < w5.heap.size → wq.cell? ⟨b, o, none⟩ = w5.cell? ⟨b, o, none⟩ := (fun b o h => hSw.cell (p := ⟨b, o, none⟩) h); go_simp; try with_reducible rfl; done)); try simp only [Act.put, List.setIfInBounds_toArray, List.set_cons_zero, List.set_cons_succ])
  (refine held_takeA 7 (by rfl) ?_ (by kernel_rfl) (fun _ _ _ h => h) hs1r ?_ ?_; rotate_left; (focus (intro wq hSw; have hrd : ∀ b o, b < w5.heap.size → wq.cell? ⟨b, o, none⟩ = w5.cell? ⟨b, o, none⟩ := (fun b o h => hSw.cell (p := ⟨b, o, none⟩) h); go_simp; try with_reducible rfl; done)); try simp only [Act.put, List.setIfInBounds_toArray, List.set_cons_zero, List.set_cons_succ])
  --@f show
  refine held_callA 4 (by rfl) (by kernel_rfl) (by rfl) (fun KQ hKQ => ?_)
  go_simp
  refine (refPut4u_any w5.drew A5 _ c5 _ _ by5.drew (Nat.le_refl _) (by omega) s s0 s1).mono ?_
  rintro e w6 ⟨v6, rfl, own6, hb6⟩
  obtain ⟨A6, c6, rfl, _, by6, _⟩ := own6.any
  refine hKQ.out _ _ (hs1r.trans hb6) (held_mono (S' := fun w' => Below w6.heap.size w6 w') (fun w' h => (hs1r.trans hb6).trans (h.mono (hs1r.trans hb6).size)) _ _ _ _ ?_)
  clear hKQ KQ
  have hs2r : Below w6.heap.size w6 w6 := Below.refl _ _
  try simp only [Act.put, List.setIfInBounds_toArray, List.set_cons_zero, List.set_cons_succ]
  --@g
  refine held_callA 8 (by rfl) (by kernel_rfl) (by rfl) (fun KQ hKQ => ?_)
  go_simp
  refine (refPut4u_any w6 A6 _ c6 _ _ by6 (Nat.le_refl _) (by omega) d d0 d1).mono ?_
  rintro e w7 ⟨v7, rfl, own7, hb7⟩
  refine hKQ.out _ _ (hs2r.trans hb7) (held_mono (S' := fun w' => Below w7.heap.size w7 w') (fun w' h => (hs2r.trans hb7).trans (h.mono (hs2r.trans hb7).size)) _ _ _ _ ?_)
  clear hKQ KQ
  have hs3r : Below w7.heap.size w7 w7 := Below.refl _ _
  try simp only [Act.put, List.setIfInBounds_toArray, List.set_cons_zero, List.set_cons_succ]
  (refine held_takeA 9 (by rfl) ?_ (by kernel_rfl) (fun _ _ _ h => h) hs3r ?_ ?_; rotate_left; (focus (intro wq hSw; have hrd : ∀ b o, b < w7.heap.size → wq.cell? ⟨b, o, none⟩ = w7.cell? ⟨b, o, none⟩ := (fun b o h => hSw.cell (p := ⟨b, o, none⟩) h); go_simp; try with_reducible rfl; done)); try simp only [Act.put, List.setIfInBounds_toArray, List.set_cons_zero, List.set_cons_succ])
  --@h
  refine wpAnyH_done (by kernel_rfl) ?_ _
  try refine NoPanic.normal ?_
  have hb57 : Below w5.heap.size w5 w7 := ((Below.refl w5.heap.size w5).drew.trans hb6).trans (hb7.mono hb6.size)
  replace hB3a := hB3a.trans (hb57.mono hB3a.size)
  replace hq3a := hq3a.below hb57 k5l
  have k78 := hq3a.cellv 8 (v := .slice A n c) rfl
  have hO7 := hO.below hB3a
  have hz7 := hB3a.size
  have hz67 := hb7.size
  have hz56 : w5.heap.size ≤ w6.heap.size := hb6.size
  have hz45 := hb5.size
  go_wp2_with (at_builtin; refine wpList_app _ rfl (.tmp 59) (.tmp 61) rfl w6.heap.size _ _ _ rfl own7 _ _ n c _ rfl hO7 (by omega) (by omega) ?_; intro v8 w8 own8 hg8 hd8; clear hd8; have hb8 := own7.below_app hg8 (by omega); clear hg8)
  go_ret
  refine ⟨_, rfl, ?_, hB3a.trans (hb8.mono (by omega))⟩
  have e : refL t i f g l p s d n N sum ++ o = L4 ++ be (sum % 18446744073709551616) 2 ++ be s 4 ++ be d 4 ++ o := by
    rw [← hl4.out, ← hl2.out, ← hl1.out]; simp only [refL, List.append_assoc]
  rw [e]
  rw [show 20 + n = 10 + 2 + 4 + 4 + n from rfl]
  exact own8.less (by omega)
end Go.Proofs.YthbfnppgaaeilaaDoor

namespace Go.Proofs.YthbfnppgaaeilaaDoor
set_option linter.unusedVariables false
open Go.RowKit

theorem refBuild_no (t i f g l p s d : Int) (A : Option Addr) (n c : Nat) (X : Option Addr) (m k : Nat) (w : World) (hn : n ≤ 300) (hm : m ≤ 12000) (hno : goodH t i f g l p n = false ∨ 8980 < m + n) :
    Calls Tryd.prog 56 #[.agg #[.int .i64 t, .int .i64 i, .int .i64 f, .int .i64 g, .int .i64 l, .int .i64 p, .int .u32 s, .int .u32 d, .slice A n c], .slice X m k] w fun e w' => e = .returned (.slice none 0 0) ∧ Below w.heap.size w w' := by
  have hk := Blk.new w 94 (hdrCs t i f g l p s d A n c)
  have hB := (Below.refl w.heap.size w).alloc (Nat.le_refl _) (.cells (hdrCs t i f g l p s d A n c) 94)
  go_enter Tryd.func56, Tryd.ntmps56
  go_wp2_with fail
  refine (refGood_any t i f g l p s d A n c _ hn).mono ?_
  rintro e w1 ⟨rfl, hb⟩
  have hq := hk.below hb hk.lt
  have c8 := hq.cellv 8 (v := .slice A n c) rfl
  cases hg : goodH t i f g l p n with
  | false =>
    go_wp2_with fail
    go_ret
    exact ⟨rfl, hB.trans (hb.mono hB.size)⟩
  | true =>
    have hlt : 8980 < m + n := by
      rcases hno with h | h
      · rw [hg] at h; cases h
      · exact h
    have hlt' : (8980 : Int) - n < (m : Int) := by omega
    go_wp2_with fail
    go_ret
    exact ⟨rfl, hB.trans (hb.mono hB.size)⟩

set_option maxRecDepth 100000 in
set_option maxHeartbeats 4000000 in
theorem refBuild_yes (t i f g l p s d : Int) (A : Option Addr) (n c : Nat) (o : List UInt8) (X : Option Addr) (m k : Nat) (pl : List UInt8) (w : World) (hgd : goodH t i f g l p n = true) (hmn : m + n ≤ 8980)
    (hO : Byt w w.heap.size A n o) (hP : Byt w w.heap.size X m pl) (s0 : 0 ≤ s) (s1 : s ≤ 4294967295) (d0 : 0 ≤ d) (d1 : d ≤ 4294967295) :
    Calls Tryd.prog 56 #[.agg #[.int .i64 t, .int .i64 i, .int .i64 f, .int .i64 g, .int .i64 l, .int .i64 p, .int .u32 s, .int .u32 d, .slice A n c], .slice X m k] w fun e w' => ∃ v, e = .returned v ∧ OwnB w' w.heap.size v (20 + n + m) (refL t i f g l p s d n (20 + n + m) (65535 - csum (refL t i f g l p s d n (20 + n + m) 0 ++ o)) ++ o ++ pl) ∧ Below w.heap.size w w' := by
  have hn : n ≤ 40 := by simp [goodH] at hgd; omega
  have hq := Blk.new w 94 (hdrCs t i f g l p s d A n c)
  have hB := (Below.refl w.heap.size w).alloc (Nat.le_refl _) (.cells (hdrCs t i f g l p s d A n c) 94)
  have hfg : 0 ≤ f ∧ f ≤ 7 ∧ 0 ≤ g ∧ g ≤ 8191 := by simp [goodH, inH] at hgd; omega
  obtain ⟨f0, f1, g0, g1⟩ := hfg
  go_enter Tryd.func56, Tryd.ntmps56
  go_wp2_with fail
  refine (refGood_any t i f g l p s d A n c _ (by omega)).mono ?_
  rintro e w1 ⟨rfl, hb⟩
  replace hB := hB.trans (hb.mono hB.size)
  replace hq := hq.below hb hq.lt
  have hO1 := hO.below hB
  have hP1 := hP.below hB
  have hz1 := hB.size
  have c8 := hq.cellv 8 (v := .slice A n c) rfl
  rw [hgd]
  have hnl : ¬ (8980 : Int) - n < (m : Int) := by omega
  unfold hdrCs at hq
  go_wp2_with fail
  --@a
  -- region 4: 0 1 2 3 4C 5C 6C 7 8M 9
  try refine wp_region_noPanic ?_
  have hs1r : Below w1.heap.size w1 w1.drew := (Below.refl _ _).drew
  refine wp_region_held_drew (S := fun w' => Below w1.heap.size w1 w') (by kernel_rfl) hs1r (fun _ => ?_)
  (refine held_takeA 0 (by rfl) ?_ (by kernel_rfl) (fun _ _ _ h => h) hs1r ?_ ?_; rotate_left; (focus (intro wq hSw; refine exec_load_blk (x := .tmp 2) ?_ ?_ (hq.below hSw hq.lt) _ Tryd.underlying94 rfl (by kernel_rfl) <;> rfl)); simp only [Act.put, List.setIfInBounds_toArray, List.set_cons_zero, List.set_cons_succ])
  (refine held_takeA 1 (by rfl) ?_ (by kernel_rfl) (fun _ _ _ h => h) hs1r ?_ ?_; rotate_left; (focus (intro wq hSw; have hrd : ∀ b o, b < w1.heap.size → wq.cell? ⟨b, o, none⟩ = w1.cell? ⟨b, o, none⟩ := (fun b o h => hSw.cell (p := ⟨b, o, none⟩) h); go_simp; try with_reducible rfl; done)); try simp only [Act.put, List.setIfInBounds_toArray, List.set_cons_zero, List.set_cons_succ])
  (refine held_takeA 2 (by rfl) ?_ (by kernel_rfl) (fun _ _ _ h => h) hs1r ?_ ?_; rotate_left; (focus (intro wq hSw; refine exec_load_blk (x := .tmp 2) ?_ ?_ (hq.below hSw hq.lt) _ Tryd.underlying94 rfl (by kernel_rfl) <;> rfl)); simp only [Act.put, List.setIfInBounds_toArray, List.set_cons_zero, List.set_cons_succ])
  (refine held_takeA 3 (by rfl) ?_ (by kernel_rfl) (fun _ _ _ h => h) hs1r ?_ ?_; rotate_left; (focus (intro wq hSw; have hrd : ∀ b o, b < w1.heap.size → wq.cell? ⟨b, o, none⟩ = w1.cell? ⟨b, o, none⟩ := (fun b o h => hSw.cell (p := ⟨b, o, none⟩) h); go_simp; try with_reducible rfl; done)); try simp only [Act.put, List.setIfInBounds_toArray, List.set_cons_zero, List.set_cons_succ])
  (refine held_takeA 7 (by rfl) ?_ (by kernel_rfl) (fun _ _ _ h => h) hs1r ?_ ?_; rotate_left; (focus (intro wq hSw; have hrd : ∀ b o, b < w1.heap.size → wq.cell? ⟨b, o, none⟩ = w1.cell? ⟨b, o, none⟩ := (fun b o h => hSw.cell (p := ⟨b, o, none⟩) h); go_simp; try with_reducible rfl; done)); try simp only [Act.put, List.setIfInBounds_toArray, List.set_cons_zero, List.set_cons_succ])
  refine held_callA 4 (by rfl) (by kernel_rfl) (by rfl) (fun KQ hKQ => ?_)
  go_simp
  refine (refHead_any t i f g l p s d A n c o (20 + n + m) 0 _ hn ((hO1.more hz1).drew) s0 s1 d0 d1 f0 f1 g0 g1).mono ?_
  rintro e w2 ⟨v2, rfl, own2, hb2⟩
  obtain ⟨A2, c2, rfl, _, by2, _⟩ := own2.any
  --@b
  have hs2r := hs1r.trans hb2
  refine hKQ.out _ _ hs2r ?_
  clear hKQ KQ
  try simp only [Act.put, List.setIfInBounds_toArray, List.set_cons_zero, List.set_cons_succ]
  refine held_callA 5 (by rfl) (by kernel_rfl) (by rfl) (fun KQ hKQ => ?_)
  go_simp
  refine (refOf_any A2 _ c2 _ (by omega) w2 by2).mono ?_
  rintro e w' ⟨rfl, rfl⟩
  --@c
  have hs3r := hs2r
  refine hKQ.out _ _ hs3r ?_
  clear hKQ KQ
  try simp only [Act.put, List.setIfInBounds_toArray, List.set_cons_zero, List.set_cons_succ]
  refine held_callA 6 (by rfl) (by kernel_rfl) (by rfl) (fun KQ hKQ => ?_)
  go_simp
  have hO2 := hO1.below (hs2r.mono hz1)
  have hz2 := hs2r.size
  refine (refHead_any t i f g l p s d A n c o (20 + n + m) _ w2 hn (hO2.more (Nat.le_trans hz1 hz2)) s0 s1 d0 d1 f0 f1 g0 g1).mono ?_
  rintro e w3 ⟨v3, rfl, own3, hb3⟩
  --@d
  have hs4r := hs3r.trans (hb3.mono hz2)
  refine hKQ.out _ _ hs4r ?_
  clear hKQ KQ
  try simp only [Act.put, List.setIfInBounds_toArray, List.set_cons_zero, List.set_cons_succ]
  have hz3 := hs4r.size
  have hP3 := hP1.below (hs4r.mono hz1)
  refine held_callA 8 (by rfl) (by kernel_rfl) (by rfl) (fun KQ hKQ => ?_)
  refine wp_app _ (.tmp 31) (.tmp 32) (by rfl) w2.heap.size _ _ _ (by rfl) own3 _ X m k _ (by rfl) hP3 (by omega) hb3.size ?_
  intro v4 w4 own4 hg4 hd4
  have hb4 := own3.below_app hg4 hb3.size
  --@e
  have hs5r := hs4r.trans (hb4.mono hz2)
  refine hKQ.out _ _ hs5r ?_
  clear hKQ KQ
  try simp only [Act.put, List.setIfInBounds_toArray, List.set_cons_zero, List.set_cons_succ]
  (refine held_takeA 9 (by rfl) ?_ (by kernel_rfl) (fun _ _ _ h => h) hs5r ?_ ?_; rotate_left; (focus (intro wq hSw; have hrd : ∀ b o, b < w1.heap.size → wq.cell? ⟨b, o, none⟩ = w1.cell? ⟨b, o, none⟩ := (fun b o h => hSw.cell (p := ⟨b, o, none⟩) h); go_simp; try with_reducible rfl; done)); try simp only [Act.put, List.setIfInBounds_toArray, List.set_cons_zero, List.set_cons_succ])
  refine wpAnyH_done (by kernel_rfl) ?_ _
  try refine NoPanic.normal ?_
  go_wp2_with fail
  go_ret
  exact ⟨_, rfl, own4.less (by omega), hB.trans (hs5r.mono hz1)⟩
end Go.Proofs.YthbfnppgaaeilaaDoor
