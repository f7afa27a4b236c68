/- update: Good, and the document's. -/
import Derived.Test.YtfnclmacodchfaaPfN
import Derived.Test.YtfnclmacodchfaaAtR
namespace Go.Proofs.Ytfnclmacodchfaa
set_option linter.unusedVariables false
open Go Go.RowKit

/-- may a body be? -/
def goodU (l1 l2 : List (Int × Int)) (o : Int) (zs : List Int) (h m : Int) (b : Bool) : Bool := (allP l1 && allP l2) && (if l2.length = 0 then sameA o zs h m b 0 [] 0 0 false else goodA o zs h m b)
theorem goodU_no {l1 l2 : List (Int × Int)} {o : Int} {zs : List Int} {h m : Int} {b : Bool} (e : (allP l1 && allP l2) = false) : goodU l1 l2 o zs h m b = false := by unfold goodU; rw [e]; rfl
theorem goodU_nil {l1 l2 : List (Int × Int)} {o : Int} {zs : List Int} {h m : Int} {b : Bool} (e : (allP l1 && allP l2) = true) (h0 : l2.length = 0) : goodU l1 l2 o zs h m b = sameA o zs h m b 0 [] 0 0 false := by unfold goodU; rw [e, if_pos h0]; rfl
theorem goodU_some {l1 l2 : List (Int × Int)} {o : Int} {zs : List Int} {h m : Int} {b : Bool} (e : (allP l1 && allP l2) = true) (h0 : l2.length ≠ 0) : goodU l1 l2 o zs h m b = goodA o zs h m b := by unfold goodU; rw [e, if_neg h0]; rfl
theorem Nums.zero (w : World) : Nums .i64 w w.heap.size none 0 [] := ⟨rfl, by simp, fun h => absurd h (by omega)⟩
/-- what a body reads as. -/
structure UpR (w : World) (A1 : Option Addr) (n1 : Nat) (l1 : List (Int × Int)) (A : Option Addr) (n : Nat) (zs : List Int) (h : Int) (A2 : Option Addr) (n2 : Nat) (l2 : List (Int × Int)) : Prop where
  s1 : Seen pfK w (fun b => b < w.heap.size) A1 n1 l1
  s2 : Seen pfK w (fun b => b < w.heap.size) A2 n2 l2
  pa : Nums .i64 w w.heap.size A n zs
  h0 : 0 ≤ h
  h1 : h ≤ 4294967295
section
variable {w w' : World} {A1 : Option Addr} {n1 : Nat} {l1 : List (Int × Int)} {A : Option Addr} {n : Nat} {zs : List Int} {h : Int} {A2 : Option Addr} {n2 : Nat} {l2 : List (Int × Int)}
theorem Seen.nxP {A : Option Addr} {n : Nat} {l : List (Int × Int)} (s : Seen pfK w (fun b => b < w.heap.size) A n l) (hb : Below w.heap.size w w') : Seen pfK w' (fun b => b < w'.heap.size) A n l :=
  (s.below hb fun _ q => q).more fun b q => Nat.lt_of_lt_of_le q hb.size
theorem UpR.nx (u : UpR w A1 n1 l1 A n zs h A2 n2 l2) (hb : Below w.heap.size w w') : UpR w' A1 n1 l1 A n zs h A2 n2 l2 := ⟨u.s1.nxP hb, u.s2.nxP hb, u.pa.nx hb, u.h0, u.h1⟩
end
set_option maxRecDepth 100000 in
set_option maxHeartbeats 4000000 in
theorem upGood_any (w : World) (A1 : Option Addr) (n1 c1 : Nat) (l1 : List (Int × Int)) (o : Int) (A : Option Addr) (n c : Nat) (zs : List Int) (h m : Int) (b : Bool) (A2 : Option Addr) (n2 c2 : Nat) (l2 : List (Int × Int)) (u : UpR w A1 n1 l1 A n zs h A2 n2 l2) (z1 : n1 ≤ 1000000) (z2 : n2 ≤ 1000000) (z3 : n ≤ 100000) :
    Calls Try.prog 10 #[.agg #[.slice A1 n1 c1, .int .i64 o, .slice A n c, .int .u32 h, .int .i64 m, .bool b, .slice A2 n2 c2]] w fun e w' => e = .returned (.bool (goodU l1 l2 o zs h m b)) ∧ Below w.heap.size w w' := by
  have hB := (Below.refl w.heap.size w).alloc (Nat.le_refl _) (.cells #[.slice A1 n1 c1, .int .i64 o, .slice A n c, .int .u32 h, .int .i64 m, .bool b, .slice A2 n2 c2] 28)
  have hp := Blk.new w 28 #[.slice A1 n1 c1, .int .i64 o, .slice A n c, .int .u32 h, .int .i64 m, .bool b, .slice A2 n2 c2]
  have hl2 := Lib.hid u.s2.1
  go_enter Try.func10, Try.ntmps10
  go_upto_region 1 with (fail)
  generalize w.alloc (.cells #[.slice A1 n1 c1, .int .i64 o, .slice A n c, .int .u32 h, .int .i64 m, .bool b, .slice A2 n2 c2] 28) = w1 at *
  have hz := hB.size
  have u1 := u.nx hB
  have q0 : w1.cell? ⟨w.heap.size, 0, none⟩ = some (.slice A1 n1 c1) := hp.cellv 0 rfl
  have q1 : w1.cell? ⟨w.heap.size, 1, none⟩ = some (.int .i64 o) := hp.cellv 1 rfl
  have q2 : w1.cell? ⟨w.heap.size, 2, none⟩ = some (.slice A n c) := hp.cellv 2 rfl
  have q3 : w1.cell? ⟨w.heap.size, 3, none⟩ = some (.int .u32 h) := hp.cellv 3 rfl
  have q4 : w1.cell? ⟨w.heap.size, 4, none⟩ = some (.int .i64 m) := hp.cellv 4 rfl
  have q5 : w1.cell? ⟨w.heap.size, 5, none⟩ = some (.bool b) := hp.cellv 5 rfl
  have q6 : w1.cell? ⟨w.heap.size, 6, none⟩ = some (.slice A2 n2 c2) := hp.cellv 6 rfl
  have ql := hp.lt
  have hb2 := (Below.refl w1.heap.size w1).alloc (Nat.le_refl _) (.cells #[.slice A1 n1 c1, .slice A2 n2 c2] 22)
  have hr := Blk.new w1 22 #[.slice A1 n1 c1, .slice A2 n2 c2]
  have hall := fun (w2 : World) (hb : Below w1.heap.size w1 w2) (hr : Blk w2 w1.heap.size 22 #[.slice A1 n1 c1, .slice A2 n2 c2]) => upAll_any w2 w1.heap.size hr.lt A1 n1 c1 l1 A2 n2 c2 l2 (hr.cellv 0 rfl) (hr.cellv 1 rfl) (u1.nx hb).s1 (u1.nx hb).s2 z1 z2
  cases hg : allP l1 && allP l2 with
  | false =>
    rw [hg] at hall
    have e := Lib.hid (goodU_no (o := o) (zs := zs) (h := h) (m := m) (b := b) hg)
    replace hg := Lib.hid hg
    go_wp2_with (go_at_call 25; refine (hall _ hb2 hr).mono ?_; rintro e w3 ⟨rfl, hb3⟩)
    go_ret
    exact ⟨ret_bool e.out.symm, hB.trans ((hb2.trans (hb3.mono hb2.size)).mono hz)⟩
  | true =>
  rw [hg] at hall
  by_cases h0 : n2 = 0
  · have e := Lib.hid (goodU_nil (o := o) (zs := zs) (h := h) (m := m) (b := b) hg (by rw [hl2.out]; exact h0))
    replace hg := Lib.hid hg
    have d0 : ¬ (0 < n2) := by omega
    have d1 : ¬ ((0 : Int) < n2) := by omega
    replace h0 := Lib.hid h0
    go_upto_region 3 with (go_at_call 25; refine (hall _ hb2 hr).mono ?_; rintro e w3 ⟨rfl, hb3⟩)
    have hbx := hb2.trans (hb3.mono hb2.size)
    have hp3 := hp.below hbx hp.lt
    have u3 := u1.nx hbx
    clear q0 q1 q2 q3 q4 q5 q6 ql hb2 hr hall hb3
    have q0 : w3.cell? ⟨w.heap.size, 0, none⟩ = some (.slice A1 n1 c1) := hp3.cellv 0 rfl
    have q1 : w3.cell? ⟨w.heap.size, 1, none⟩ = some (.int .i64 o) := hp3.cellv 1 rfl
    have q2 : w3.cell? ⟨w.heap.size, 2, none⟩ = some (.slice A n c) := hp3.cellv 2 rfl
    have q3 : w3.cell? ⟨w.heap.size, 3, none⟩ = some (.int .u32 h) := hp3.cellv 3 rfl
    have q4 : w3.cell? ⟨w.heap.size, 4, none⟩ = some (.int .i64 m) := hp3.cellv 4 rfl
    have q5 : w3.cell? ⟨w.heap.size, 5, none⟩ = some (.bool b) := hp3.cellv 5 rfl
    have q6 : w3.cell? ⟨w.heap.size, 6, none⟩ = some (.slice A2 n2 c2) := hp3.cellv 6 rfl
    have ql := hp3.lt
    go_wp2_with (go_at_call 27; refine (attrSame_any w3 o A n c zs h m b 0 none 0 0 [] 0 0 false u3.pa (Nums.zero w3) z3).mono ?_; rintro e w4 ⟨rfl, hb4⟩)
    go_ret
    exact ⟨ret_bool e.out.symm, hB.trans ((hbx.trans (hb4.mono hbx.size)).mono hz)⟩
  · have e := Lib.hid (goodU_some (o := o) (zs := zs) (h := h) (m := m) (b := b) hg (by rw [hl2.out]; exact h0))
    have hpos : (0 : Int) < n2 := by omega
    replace hg := Lib.hid hg
    go_upto_region 3 with (go_at_call 25; refine (hall _ hb2 hr).mono ?_; rintro e w3 ⟨rfl, hb3⟩)
    have hbx := hb2.trans (hb3.mono hb2.size)
    have hp3 := hp.below hbx hp.lt
    have u3 := u1.nx hbx
    clear q0 q1 q2 q3 q4 q5 q6 ql hb2 hr hall hb3
    have q0 : w3.cell? ⟨w.heap.size, 0, none⟩ = some (.slice A1 n1 c1) := hp3.cellv 0 rfl
    have q1 : w3.cell? ⟨w.heap.size, 1, none⟩ = some (.int .i64 o) := hp3.cellv 1 rfl
    have q2 : w3.cell? ⟨w.heap.size, 2, none⟩ = some (.slice A n c) := hp3.cellv 2 rfl
    have q3 : w3.cell? ⟨w.heap.size, 3, none⟩ = some (.int .u32 h) := hp3.cellv 3 rfl
    have q4 : w3.cell? ⟨w.heap.size, 4, none⟩ = some (.int .i64 m) := hp3.cellv 4 rfl
    have q5 : w3.cell? ⟨w.heap.size, 5, none⟩ = some (.bool b) := hp3.cellv 5 rfl
    have q6 : w3.cell? ⟨w.heap.size, 6, none⟩ = some (.slice A2 n2 c2) := hp3.cellv 6 rfl
    have ql := hp3.lt
    go_wp2_with (go_at_call 24; refine (attrGood_any w3 o A n c zs h m b u3.pa u3.h0 u3.h1).mono ?_; rintro e w4 ⟨rfl, hb4⟩)
    go_ret
    exact ⟨ret_bool e.out.symm, hB.trans ((hbx.trans (hb4.mono hbx.size)).mono hz)⟩
theorem rows_litP (w : World) : Rows pfK (w.alloc (.cells #[] 61)) w.heap.size w.heap.size 61 (.slice (some ⟨w.heap.size, 0, none⟩) 0 0) [] :=
  ⟨Own1.lit w #[] 0 (Nat.le_refl _) (by unfold maxLen; omega) rfl, by simp⟩
set_option maxRecDepth 100000 in
set_option maxHeartbeats 4000000 in
theorem refUpGood_any (w : World) (A1 : Option Addr) (n1 c1 : Nat) (l1 : List (Int × Int)) (o : Int) (A : Option Addr) (n c : Nat) (zs : List Int) (h m : Int) (b : Bool) (A2 : Option Addr) (n2 c2 : Nat) (l2 : List (Int × Int)) (u : UpR w A1 n1 l1 A n zs h A2 n2 l2) (z1 : n1 ≤ 1000000) (z2 : n2 ≤ 1000000) (z3 : n ≤ 100000) :
    Calls Try.prog 11 #[.agg #[.slice A1 n1 c1, .int .i64 o, .slice A n c, .int .u32 h, .int .i64 m, .bool b, .slice A2 n2 c2]] w fun e w' => e = .returned (.bool (goodU l1 l2 o zs h m b)) ∧ Below w.heap.size w w' := by
  have hB := (Below.refl w.heap.size w).alloc (Nat.le_refl _) (.cells #[.slice A1 n1 c1, .int .i64 o, .slice A n c, .int .u32 h, .int .i64 m, .bool b, .slice A2 n2 c2] 33)
  have hp := Blk.new w 33 #[.slice A1 n1 c1, .int .i64 o, .slice A n c, .int .u32 h, .int .i64 m, .bool b, .slice A2 n2 c2]
  have hl1 := Lib.hid u.s1.1
  have hl2 := Lib.hid u.s2.1
  go_enter Try.func11, Try.ntmps11
  go_upto_region 1 with (fail)
  generalize w.alloc (.cells #[.slice A1 n1 c1, .int .i64 o, .slice A n c, .int .u32 h, .int .i64 m, .bool b, .slice A2 n2 c2] 33) = w1 at *
  have hz := hB.size
  have u1 := u.nx hB
  have q0 : w1.cell? ⟨w.heap.size, 0, none⟩ = some (.slice A1 n1 c1) := hp.cellv 0 rfl
  have q1 : w1.cell? ⟨w.heap.size, 1, none⟩ = some (.int .i64 o) := hp.cellv 1 rfl
  have q2 : w1.cell? ⟨w.heap.size, 2, none⟩ = some (.slice A n c) := hp.cellv 2 rfl
  have q3 : w1.cell? ⟨w.heap.size, 3, none⟩ = some (.int .u32 h) := hp.cellv 3 rfl
  have q4 : w1.cell? ⟨w.heap.size, 4, none⟩ = some (.int .i64 m) := hp.cellv 4 rfl
  have q5 : w1.cell? ⟨w.heap.size, 5, none⟩ = some (.bool b) := hp.cellv 5 rfl
  have q6 : w1.cell? ⟨w.heap.size, 6, none⟩ = some (.slice A2 n2 c2) := hp.cellv 6 rfl
  have ql := hp.lt
  -- region 1: 0M 1 2 3M 4 5 6M 7 8
  try refine wp_region_noPanic ?_
  have hs1r : (fun w' => Below w1.heap.size w1 w') w1.drew := (Below.refl _ _).drew
  refine wp_region_held_drew (S := fun w' => Below w1.heap.size w1 w') (by kernel_rfl) hs1r (fun _ => ?_)
  (refine held_takeA 1 (by rfl) ?_ (by kernel_rfl) (fun _ _ _ h => h) hs1r ?_ ?_; rotate_left; (focus (intro wq hSw; have hrd := hSw; (have hrd : ∀ b' o, b' < w1.heap.size → wq.cell? ⟨b', o, none⟩ = w1.cell? ⟨b', o, none⟩ := fun b' o h => Below.cell hSw (p := ⟨b', o, none⟩) h); go_simp; try with_reducible rfl; done)); try simp only [Act.put, List.setIfInBounds_toArray, List.set_cons_zero, List.set_cons_succ])
  (refine held_takeA 2 (by rfl) ?_ (by kernel_rfl) (fun _ _ _ h => h) hs1r ?_ ?_; rotate_left; (focus (intro wq hSw; have hrd := hSw; (have hrd : ∀ b' o, b' < w1.heap.size → wq.cell? ⟨b', o, none⟩ = w1.cell? ⟨b', o, none⟩ := fun b' o h => Below.cell hSw (p := ⟨b', o, none⟩) h); go_simp; try with_reducible rfl; done)); try simp only [Act.put, List.setIfInBounds_toArray, List.set_cons_zero, List.set_cons_succ])
  (refine held_takeA 4 (by rfl) ?_ (by kernel_rfl) (fun _ _ _ h => h) hs1r ?_ ?_; rotate_left; (focus (intro wq hSw; have hrd := hSw; (have hrd : ∀ b' o, b' < w1.heap.size → wq.cell? ⟨b', o, none⟩ = w1.cell? ⟨b', o, none⟩ := fun b' o h => Below.cell hSw (p := ⟨b', o, none⟩) h); go_simp; try with_reducible rfl; done)); try simp only [Act.put, List.setIfInBounds_toArray, List.set_cons_zero, List.set_cons_succ])
  (refine held_takeA 5 (by rfl) ?_ (by kernel_rfl) (fun _ _ _ h => h) hs1r ?_ ?_; rotate_left; (focus (intro wq hSw; have hrd := hSw; (have hrd : ∀ b' o, b' < w1.heap.size → wq.cell? ⟨b', o, none⟩ = w1.cell? ⟨b', o, none⟩ := fun b' o h => Below.cell hSw (p := ⟨b', o, none⟩) h); go_simp; try with_reducible rfl; done)); try simp only [Act.put, List.setIfInBounds_toArray, List.set_cons_zero, List.set_cons_succ])
  (refine held_takeA 8 (by rfl) ?_ (by kernel_rfl) (fun _ _ _ h => h) hs1r ?_ ?_; rotate_left; (focus (intro wq hSw; have hrd := hSw; (have hrd : ∀ b' o, b' < w1.heap.size → wq.cell? ⟨b', o, none⟩ = w1.cell? ⟨b', o, none⟩ := fun b' o h => Below.cell hSw (p := ⟨b', o, none⟩) h); go_simp; try with_reducible rfl; done)); try simp only [Act.put, List.setIfInBounds_toArray, List.set_cons_zero, List.set_cons_succ])
  refine held_callA 0 (by rfl) (by kernel_rfl) (by rfl) (fun KQ hKQ => ?_)
  go_simp
  have hd : (w1.alloc (.cells #[] 61)).drew = w1.drew.alloc (.cells #[] 61) := rfl
  try rw [hd]
  have hr0 := rows_litP w1.drew
  have hb1 := (Below.refl w1.heap.size w1).drew.alloc (Nat.le_refl _) (.cells #[] 61)
  have hS1 := u1.s1.below hb1 fun b q => q
  have hzz := hb1.size
  generalize w1.drew.alloc (.cells #[] 61) = w2 at *
  clear hd
  have hs2r := hb1
  refine hKQ.out _ _ hs2r ?_
  clear hKQ KQ
  try simp only [Act.put, List.setIfInBounds_toArray, List.set_cons_zero, List.set_cons_succ]
  refine held_callA 3 (by rfl) (by kernel_rfl) (by rfl) (fun KQ hKQ => ?_)
  refine wp_rows pf_ok (.tmp 5) (.tmp 7) (by rfl) hr0 (by rfl) (by rfl) hS1 (fun e he => u.s1.2.1 e he) (by unfold maxLen; simp; omega) (by simp; omega) hzz ?_
  intro v3 w3 hv3 hg3
  rw [List.nil_append] at hv3
  have hb3 := hb1.trans (hr0.below_app hg3 hzz)
  have hS3 := u1.s2.below hb3 fun b q => q
  have hz3 := hb3.size
  have hs3r := hb3
  refine hKQ.out _ _ hs3r ?_
  clear hKQ KQ
  try simp only [Act.put, List.setIfInBounds_toArray, List.set_cons_zero, List.set_cons_succ]
  refine held_callA 6 (by rfl) (by kernel_rfl) (by rfl) (fun KQ hKQ => ?_)
  refine wp_rows pf_ok (.tmp 8) (.tmp 10) (by rfl) hv3 (by rfl) (by rfl) hS3 (fun e he => u.s2.2.1 e he) (by have := hl1.out; unfold maxLen; omega) (by have := hl1.out; omega) hz3 ?_
  intro v4 w4 hv4 hg4
  have hb4 := hb3.trans (hv3.below_app hg4 hz3)
  obtain ⟨l, hle⟩ : ∃ l, l = l1 ++ l2 := ⟨_, rfl⟩
  have e12 : allP l = (allP l1 && allP l2) := by rw [hle]; exact List.all_append
  have hll := Lib.hid (show l.length = n1 + n2 by rw [hle, List.length_append, hl1.out, hl2.out])
  rw [← hle] at hv4
  clear hle
  obtain ⟨A4, c4, e4, hc4, hcm4, hS4⟩ := hv4.seen (Nat.le_refl _)
  subst e4
  have hs4r := hb4
  refine hKQ.out _ _ hs4r ?_
  clear hKQ KQ
  try simp only [Act.put, List.setIfInBounds_toArray, List.set_cons_zero, List.set_cons_succ]
  (refine held_takeA 7 (by rfl) ?_ (by kernel_rfl) (fun _ _ _ h => h) hs4r ?_ ?_; rotate_left; (focus (intro wq hSw; have hrd := hSw; (have hrd : ∀ b' o, b' < w1.heap.size → wq.cell? ⟨b', o, none⟩ = w1.cell? ⟨b', o, none⟩ := fun b' o h => Below.cell hSw (p := ⟨b', o, none⟩) h); go_simp; try with_reducible rfl; done)); try simp only [Act.put, List.setIfInBounds_toArray, List.set_cons_zero, List.set_cons_succ])
  refine wpAnyH_done (by kernel_rfl) ?_ _
  try refine NoPanic.normal ?_
  go_wp2_with fail
  go_loopw [4, 13] (fun _ i wr => ∃ k : Nat, k ≤ l.length ∧ i = .int .i64 (k : Int) ∧ allP (l.take k) = true ∧ Below w4.heap.size w4 wr) (fun _ i _ => l.length - (intOf i).toNat)
  case atStart => exact ⟨0, Nat.zero_le _, rfl, rfl, Below.refl _ _⟩
  case round =>
  obtain ⟨k, hk, rfl, hall, hBr⟩ := hrel
  have hzr := hBr.size
  replace hall := Lib.hid hall
  have hl9 : l.length ≤ 2000000 := by have := hll.out; omega
  by_cases hlt : k < l.length
  · obtain ⟨bb, off, p, rfl, hb, hr, p0, p1, k0, k1⟩ := pf_cells (hS4.below hBr fun b q => q.2) hlt
    have hki : (k : Int) < l.length := by omega
    obtain ⟨x, y⟩ := p
    simp only at k0 k1 p0 p1
    have lb : bb < wr.heap.size := by omega
    have hbx := (Below.refl wr.heap.size wr).alloc (Nat.le_refl _) (.cells #[.int .u32 x, .int .i64 y] 61)
    have hqx := Blk.new wr 61 #[.int .u32 x, .int .i64 y]
    cases hgp : goodP x y
    · have e := Lib.hid (goodU_no (o := o) (zs := zs) (h := h) (m := m) (b := b) (e12.symm.trans (allP_no hr hgp)))
      go_wp2_with (go_at_call 28; refine (refGood3_any _ x y p0 p1).mono ?_; rw [hgp]; rintro e w5 ⟨rfl, hb5⟩)
      go_ret
      have hx := hB.trans ((hb4.trans ((hBr.trans ((hbx.trans (hb5.mono hbx.size)).mono hzr)).mono hb4.size)).mono hz)
      exact ⟨ret_bool e.out.symm, hx⟩
    · have e := Lib.hid (allP_take hr)
      go_wp2_with (go_at_call 28; refine (refGood3_any _ x y p0 p1).mono ?_; rw [hgp]; rintro e w5 ⟨rfl, hb5⟩)
      exact ⟨⟨k + 1, by omega, by go_num, by rw [e.out, hall.out, hgp]; rfl, hBr.trans ((hbx.trans (hb5.mono hbx.size)).mono hzr)⟩, by simp [intOf]; omega⟩
  · obtain rfl : k = l.length := by omega
    have hg : (allP l1 && allP l2) = true := by
      rw [← e12]
      have := hall.out
      rw [List.take_length] at this
      exact this
    replace e12 := Lib.hid e12
    have hbx := hb4.trans (hBr.mono hb4.size)
    have hpx := hp.below hbx hp.lt
    have ux := u1.nx hbx
    clear q0 q1 q2 q3 q4 q5 q6 ql
    have q0 : wr.cell? ⟨w.heap.size, 0, none⟩ = some (.slice A1 n1 c1) := hpx.cellv 0 rfl
    have q1 : wr.cell? ⟨w.heap.size, 1, none⟩ = some (.int .i64 o) := hpx.cellv 1 rfl
    have q2 : wr.cell? ⟨w.heap.size, 2, none⟩ = some (.slice A n c) := hpx.cellv 2 rfl
    have q3 : wr.cell? ⟨w.heap.size, 3, none⟩ = some (.int .u32 h) := hpx.cellv 3 rfl
    have q4 : wr.cell? ⟨w.heap.size, 4, none⟩ = some (.int .i64 m) := hpx.cellv 4 rfl
    have q5 : wr.cell? ⟨w.heap.size, 5, none⟩ = some (.bool b) := hpx.cellv 5 rfl
    have q6 : wr.cell? ⟨w.heap.size, 6, none⟩ = some (.slice A2 n2 c2) := hpx.cellv 6 rfl
    have ql := hpx.lt
    by_cases h0 : n2 = 0
    · have e := Lib.hid (goodU_nil (o := o) (zs := zs) (h := h) (m := m) (b := b) hg (by rw [hl2.out]; exact h0))
      replace hg := Lib.hid hg
      have d0 : ((n2 : Int) == 0) = true := by rw [h0]; rfl
      have d1 : (n2 == 0) = true := by rw [h0]; rfl
      replace h0 := Lib.hid h0
      go_wp2_with (go_at_call 29; refine (refSame7_any wr o A n c zs h m b 0 none 0 0 [] 0 0 false ux.pa (Nums.zero wr) z3).mono ?_; rintro e w5 ⟨rfl, hb5⟩)
      go_ret
      exact ⟨ret_bool e.out.symm, hB.trans ((hbx.trans (hb5.mono hbx.size)).mono hz)⟩
    · have e := Lib.hid (goodU_some (o := o) (zs := zs) (h := h) (m := m) (b := b) hg (by rw [hl2.out]; exact h0))
      replace hg := Lib.hid hg
      have d0 : ((n2 : Int) == 0) = false := by simp; omega
      have d1 : (n2 == 0) = false := by simp; omega
      go_wp2_with (go_at_call 30; refine (refGood7_any wr o A n c zs h m b ux.pa ux.h0 ux.h1 z3).mono ?_; rintro e w5 ⟨rfl, hb5⟩)
      go_ret
      exact ⟨ret_bool e.out.symm, hB.trans ((hbx.trans (hb5.mono hbx.size)).mono hz)⟩
end Go.Proofs.Ytfnclmacodchfaa
