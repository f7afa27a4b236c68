/- attr: the document's path. -/
import Derived.Test.YtfnclmacodchfaaAtO
namespace Go.Proofs.Ytfnclmacodchfaa
set_option linter.unusedVariables false
open Go.RowKit

set_option maxRecDepth 100000 in
set_option maxHeartbeats 8000000 in
theorem refPath_any (w : World) (A : Option Addr) (n c : Nat) (l : List UInt8) (h : Byt w w.heap.size A n l) (hn : n ≤ 10000000) :
    Calls Try.prog 106 #[.slice A n c] w fun e w' => Below w.heap.size w w' ∧ PathP 3 w w' e (pathP ⟨l, 0, 0⟩ []) := by
  go_enter Try.func106, Try.ntmps106
  go_wp2_with fail
  refine (refRead_any w A n c l _ h (Nat.le_refl _) (by omega)).mono ?_
  rintro e w1 ⟨g, rfl, hg, hsrc, hb1⟩
  have hB := hb1
  have hrow := Rows.nil (R := intK) w1 (g + 1) (g + 1) 3
  obtain ⟨s0, hs0⟩ : ∃ s0 : St, s0 = ⟨l, 0, 0⟩ := ⟨_, rfl⟩
  rw [← hs0] at hsrc
  have h00 : s0.e = 0 := by rw [hs0]
  obtain ⟨lo, hlo⟩ : ∃ lo, lo = w.heap.size := ⟨_, rfl⟩
  rw [← hlo] at hsrc
  replace hlo := Lib.hid hlo
  replace hs0 := Lib.hid hs0
  clear h hb1
  go_wp2_with fail
  go_loopw [5] (fun v wr => ∃ (s : St) (zs : List Int), Ref wr lo g s ∧ s.e = 0 ∧ zs.length ≤ 16 ∧ Rows intK wr (g + 1) (g + 1) 3 v zs ∧ Below w.heap.size w wr ∧ pathP s0 [] = pathP s zs) (fun _ wr => refLen wr g)
  case atStart => exact ⟨s0, [], hsrc, h00, by simp, hrow, hB, rfl⟩
  case round =>
  clear hsrc hrow hB h00
  obtain ⟨s, zs, hsrc, hse, hz16, hrow, hB, hon⟩ := hrel
  have hln := Lib.hid hsrc.refLen
  replace hon := Lib.hid hon
  go_wp2_with fail
  refine (refLeft_any wr lo g s hsrc).mono ?_
  rintro e w2 ⟨kk, rfl, hdr⟩
  have hb2 : Below wr.heap.size wr w2 := by rw [hdr]; exact below_drewN (Below.refl _ _) kk
  replace hsrc := hsrc.below hb2 hsrc.lt
  replace hrow := hrow.below hb2
  replace hB := hB.trans (hb2.mono hB.size)
  clear hdr hb2
  have hlt := hsrc.lt
  obtain ⟨A0, q0, rfl, hq0, hqm, hS0⟩ := hrow.seen (Nat.le_refl _)
  by_cases hl : 0 < leftV s
  rotate_left
  · have hl2 : leftV s ≤ 0 := by omega
    have hEc := hsrc.err
    rw [hse] at hEc
    have hend : pathP s0 [] = some zs := by rw [hon.out]; exact pathP_end (by omega)
    replace hend := Lib.hid hend
    go_wp2_with fail
    -- region 14: 0 1 2 3 4 5 6 7
    try refine wp_region_noPanic ?_
    have hs1r : Below w2.heap.size w2 w2.drew := (Below.refl _ _).drew
    refine wp_region_held_drew (S := fun w' => Below w2.heap.size w2 w') (by kernel_rfl) hs1r (fun _ => ?_)
    (refine held_takeA 0 (by rfl) ?_ (by kernel_rfl) (fun _ _ _ h => h) hs1r ?_ ?_; rotate_left; (focus (intro wq hSw; have hrd : ∀ b o, b < w2.heap.size → wq.cell? ⟨b, o, none⟩ = w2.cell? ⟨b, o, none⟩ := (fun b o h => hSw.cell (p := ⟨b, o, none⟩) h); go_simp; try with_reducible rfl; done)); try simp only [Act.put, List.setIfInBounds_toArray, List.set_cons_zero, List.set_cons_succ])
    (refine held_takeA 1 (by rfl) ?_ (by kernel_rfl) (fun _ _ _ h => h) hs1r ?_ ?_; rotate_left; (focus (intro wq hSw; have hrd : ∀ b o, b < w2.heap.size → wq.cell? ⟨b, o, none⟩ = w2.cell? ⟨b, o, none⟩ := (fun b o h => hSw.cell (p := ⟨b, o, none⟩) h); go_simp; try with_reducible rfl; done)); try simp only [Act.put, List.setIfInBounds_toArray, List.set_cons_zero, List.set_cons_succ])
    (refine held_takeA 2 (by rfl) ?_ (by kernel_rfl) (fun _ _ _ h => h) hs1r ?_ ?_; rotate_left; (focus (intro wq hSw; have hrd : ∀ b o, b < w2.heap.size → wq.cell? ⟨b, o, none⟩ = w2.cell? ⟨b, o, none⟩ := (fun b o h => hSw.cell (p := ⟨b, o, none⟩) h); go_simp; try with_reducible rfl; done)); try simp only [Act.put, List.setIfInBounds_toArray, List.set_cons_zero, List.set_cons_succ])
    (refine held_takeA 3 (by rfl) ?_ (by kernel_rfl) (fun _ _ _ h => h) hs1r ?_ ?_; rotate_left; (focus (intro wq hSw; have hrd : ∀ b o, b < w2.heap.size → wq.cell? ⟨b, o, none⟩ = w2.cell? ⟨b, o, none⟩ := (fun b o h => hSw.cell (p := ⟨b, o, none⟩) h); go_simp; try with_reducible rfl; done)); try simp only [Act.put, List.setIfInBounds_toArray, List.set_cons_zero, List.set_cons_succ])
    (refine held_takeA 4 (by rfl) ?_ (by kernel_rfl) (fun _ _ _ h => h) hs1r ?_ ?_; rotate_left; (focus (intro wq hSw; have hrd : ∀ b o, b < w2.heap.size → wq.cell? ⟨b, o, none⟩ = w2.cell? ⟨b, o, none⟩ := (fun b o h => hSw.cell (p := ⟨b, o, none⟩) h); go_simp; try with_reducible rfl; done)); try simp only [Act.put, List.setIfInBounds_toArray, List.set_cons_zero, List.set_cons_succ])
    (refine held_takeA 5 (by rfl) ?_ (by kernel_rfl) (fun _ _ _ h => h) hs1r ?_ ?_; rotate_left; (focus (intro wq hSw; have hrd : ∀ b o, b < w2.heap.size → wq.cell? ⟨b, o, none⟩ = w2.cell? ⟨b, o, none⟩ := (fun b o h => hSw.cell (p := ⟨b, o, none⟩) h); go_simp; try with_reducible rfl; done)); try simp only [Act.put, List.setIfInBounds_toArray, List.set_cons_zero, List.set_cons_succ])
    (refine held_takeA 6 (by rfl) ?_ (by kernel_rfl) (fun _ _ _ h => h) hs1r ?_ ?_; rotate_left; (focus (intro wq hSw; have hrd : ∀ b o, b < w2.heap.size → wq.cell? ⟨b, o, none⟩ = w2.cell? ⟨b, o, none⟩ := (fun b o h => hSw.cell (p := ⟨b, o, none⟩) h); go_simp; try with_reducible rfl; done)); try simp only [Act.put, List.setIfInBounds_toArray, List.set_cons_zero, List.set_cons_succ])
    (refine held_takeA 7 (by rfl) ?_ (by kernel_rfl) (fun _ _ _ h => h) hs1r ?_ ?_; rotate_left; (focus (intro wq hSw; have hrd : ∀ b o, b < w2.heap.size → wq.cell? ⟨b, o, none⟩ = w2.cell? ⟨b, o, none⟩ := (fun b o h => hSw.cell (p := ⟨b, o, none⟩) h); go_simp; try with_reducible rfl; done)); try simp only [Act.put, List.setIfInBounds_toArray, List.set_cons_zero, List.set_cons_succ])
    refine wpAnyH_done (by kernel_rfl) ?_ _
    try refine NoPanic.normal ?_
    go_wp2_with fail
    go_ret2
    refine ⟨hB.drew, ?_⟩
    rw [← hs0.out, hend.out]
    exact ⟨_, rfl, hrow.drew.less (by omega) (by omega)⟩
  go_wp2_with fail
  refine (refU8_any w2 lo g s hsrc).mono ?_
  rintro e w3 ⟨rfl, hsrc1, hg3⟩
  have eT : numV s 1 = pkT s := rfl
  have eS1 : (tk s 1).1 = pkS1 s := rfl
  rw [eT]
  rw [eS1] at hsrc1
  go_wp2_with fail
  refine (refU8_any w3 lo g (pkS1 s) hsrc1).mono ?_
  rintro e w4 ⟨rfl, hsrc2, hg4⟩
  have eN : numV (pkS1 s) 1 = pkN s := rfl
  have eS2 : (tk (pkS1 s) 1).1 = pkS2 s := rfl
  rw [eN]
  rw [eS2] at hsrc2
  have hgz : g < g + 1 := Nat.lt_succ_self _
  replace hrow := hrow.kept hg3 (fun k e => by cases e; exact hgz) (Nat.le_refl _)
  replace hrow := hrow.kept hg4 (fun k e => by cases e; exact hgz) (Nat.le_refl _)
  replace hB := below_own hB hg3 hB.size (by omega)
  replace hB := below_own hB hg4 hB.size (by omega)
  have n0 : 0 ≤ pkN s := numV_lo _ _
  have nhi : pkN s ≤ 255 := (numV_1 (pkS1 s)).2
  clear eT eS1 eN eS2 hg3 hg4 hsrc hsrc1 hS0 hse
  by_cases hk : pkT s < 1
  · have hno : pathP s0 [] = none := by rw [hon.out]; exact pathP_bad hl (by unfold badSeg; rw [decide_eq_true hk]; rfl)
    replace hno := Lib.hid hno
    go_wp2_with fail
    go_ret2
    refine ⟨hB, ?_⟩
    rw [← hs0.out, hno.out]
    exact ⟨_, rfl⟩
  have hk1 : 1 ≤ pkT s := by omega
  by_cases hk2 : 2 < pkT s
  · have hno : pathP s0 [] = none := by rw [hon.out]; exact pathP_bad hl (by unfold badSeg; rw [decide_eq_true hk2, Bool.or_true]; rfl)
    replace hno := Lib.hid hno
    go_wp2_with fail
    go_ret2
    refine ⟨hB, ?_⟩
    rw [← hs0.out, hno.out]
    exact ⟨_, rfl⟩
  have hk3 : pkT s ≤ 2 := by omega
  by_cases hn0 : pkN s = 0
  · have b3 : (pkN s == 0) = true := by simpa using hn0
    have hno : pathP s0 [] = none := by rw [hon.out]; exact pathP_bad hl (by unfold badSeg; rw [b3, Bool.or_true])
    replace hno := Lib.hid hno
    replace hn0 := Lib.hid hn0
    go_wp2_with fail
    go_ret2
    refine ⟨hB, ?_⟩
    rw [← hs0.out, hno.out]
    exact ⟨_, rfl⟩
  have b3 : (pkN s == 0) = false := by simpa using hn0
  have hgood : badSeg s = false := by unfold badSeg; rw [b3, decide_eq_false hk, decide_eq_false hk2]; rfl
  have hpl := pk_less s hgood
  obtain ⟨m, hm⟩ : ∃ m : Nat, pkN s = m := ⟨(pkN s).toNat, by omega⟩
  have hon2 : pathP s0 [] = innF pathP m (pkS2 s) zs := by rw [hon.out, pathP_go hl hgood, hm, Int.toNat_natCast]
  rw [hm] at b3 n0 nhi ⊢
  replace hn0 : m ≠ 0 := by intro e; apply hn0; rw [hm, e]; rfl
  replace hm := Lib.hid hm
  obtain ⟨he2, hl2⟩ := hpl
  go_wp2_with fail
  go_loopw [5, 7] (fun v i wr => ∃ (k : Nat) (s2 : St) (ys : List Int), k ≤ m ∧ i = .int .i64 (k : Int) ∧ Ref wr lo g s2 ∧ s2.e = 0 ∧ s2.l.length ≤ (pkS2 s).l.length ∧ ys.length ≤ 16 ∧ Rows intK wr (g + 1) (g + 1) 3 v ys ∧ Below w.heap.size w wr ∧ pathP s0 [] = innF pathP k s2 ys) (fun _ i _ => (intOf i).toNat)
  case atStart => exact ⟨m, pkS2 s, zs, Nat.le_refl _, rfl, hsrc2, he2, Nat.le_refl _, hz16, hrow, hB, hon2⟩
  case round =>
  clear hsrc2 hrow hB hon2 hlt he2
  obtain ⟨k, s2, ys, hkm, rfl, hsrc2, he2, hsl, hyl, hrow, hB, hon2⟩ := hrel
  have hlt := hsrc2.lt
  replace hon2 := Lib.hid hon2
  by_cases hkl : k = 0
  · subst hkl
    go_wp2_with fail
    refine ⟨⟨s2, ys, hsrc2, he2, hyl, hrow, hB, hon2.out⟩, ?_⟩
    rw [hsrc2.refLen, hln.out]; omega
  obtain ⟨j, rfl⟩ : ∃ j, k = j + 1 := ⟨k - 1, by omega⟩
  have hki : (0 : Int) < ((j + 1 : Nat) : Int) := by omega
  have hjb : (j : Int) ≤ 255 := by omega
  have hjc : ((j : Int) + 1) ≤ 256 := by omega
  clear hkl
  --@a show
  go_wp2_with fail
  --@b show
  refine (refU16_any _ lo g s2 hsrc2).mono ?_
  rintro e w5 ⟨rfl, hsrc3, hg5⟩
  have eS3 : (tk s2 2).1 = nx2 s2 := rfl
  rw [eS3] at hsrc3
  replace hrow := hrow.kept hg5 (fun k e => by cases e; exact hgz) (Nat.le_refl _)
  replace hB := below_own hB hg5 hB.size (by omega)
  have hEc := hsrc3.err
  have hlt3 := hsrc3.lt
  have hv := numV_2 s2
  clear eS3 hg5 hsrc2
  obtain ⟨A6, q6, rfl, hq6, hqm6, _⟩ := hrow.seen (Nat.le_refl _)
  by_cases hE : (nx2 s2).e = 0
  rotate_left
  · have hne : ((nx2 s2).e != 0) = true := by simpa using hE
    have hno : pathP s0 [] = none := by rw [hon2.out]; exact innF_no (.inl hE)
    replace hno := Lib.hid hno
    replace hE := Lib.hid hE
    go_wp2_with fail
    go_ret2
    refine ⟨hB, ?_⟩
    rw [← hs0.out, hno.out]
    exact ⟨_, rfl⟩
  rw [hE] at hEc
  by_cases hx : numV s2 2 = 0
  · have b4 : (numV s2 2 == 0) = true := by simpa using hx
    have hno : pathP s0 [] = none := by rw [hon2.out]; exact innF_no (.inr (.inl hx))
    replace hno := Lib.hid hno
    replace hE := Lib.hid hE
    replace hx := Lib.hid hx
    go_wp2_with fail
    go_ret2
    refine ⟨hB, ?_⟩
    rw [← hs0.out, hno.out]
    exact ⟨_, rfl⟩
  have b4 : (numV s2 2 == 0) = false := by simpa using hx
  by_cases h16 : ys.length = 16
  · have b5 : ((ys.length : Int) == 16) = true := by rw [h16]; rfl
    have hno : pathP s0 [] = none := by rw [hon2.out]; exact innF_no (.inr (.inr h16))
    replace hno := Lib.hid hno
    replace hE := Lib.hid hE
    replace hx := Lib.hid hx
    replace h16 := Lib.hid h16
    go_wp2_with fail
    go_ret2
    refine ⟨hB, ?_⟩
    rw [← hs0.out, hno.out]
    exact ⟨_, rfl⟩
  have b5 : ((ys.length : Int) == 16) = false := by rw [beq_eq_false_iff_ne]; omega
  have hnext : pathP s0 [] = innF pathP j (nx2 s2) (ys ++ [numV s2 2]) := by
    rw [hon2.out, innF_go (by
      rintro (h | h | h)
      · exact h hE
      · exact hx h
      · exact h16 h)]
  have hle3 : (nx2 s2).l.length ≤ s2.l.length := tk_le s2 2
  have hy15 : ys.length ≤ 15 := by omega
  replace hnext := Lib.hid hnext
  replace hE := Lib.hid hE
  replace hx := Lib.hid hx
  replace h16 := Lib.hid h16
  have hwf := wf_small _ hv
  have hok : intK.ok w5 (fun b => b < w5.heap.size) (numV s2 2) := hwf
  have hone := seen_one w5 3 (numV s2 2) #[.int .i64 (numV s2 2)] rfl hok (S' := fun b => b < w5.heap.size + 1) (fun b hb => hb) (Nat.lt_succ_self _) (fun b hb => by omega)
  have hrow5 := hrow.alloc (.cells #[.int .i64 (numV s2 2)] 3)
  have hsrc5 := hsrc3.alloc (.cells #[.int .i64 (numV s2 2)] 3)
  have hB5 := hB.alloc hB.size (.cells #[.int .i64 (numV s2 2)] 3)
  have hokl : ∀ e ∈ [numV s2 2], (Lit.int .i64 e).wf = true := fun e he => by
    obtain rfl : e = numV s2 2 := by simpa using he
    exact hwf
  --@c show
  go_wp2_with (at_builtin; refine wpList_rows int_ok rfl (.tmp 48) (.tmp 50) rfl hrow5 rfl rfl hone hokl (by unfold maxLen; omega) (by omega) (by simp; omega) ?_; intro v6 w6 hrow6 hg6)
  --@d show
  have hb6 := hrow5.below_app hg6 (by simp; omega)
  refine ⟨⟨j, nx2 s2, ys ++ [numV s2 2], by omega, by go_num, hsrc5.below hb6 hgz, hE.out, by omega, by simp; omega, hrow6, hB5.trans (hb6.mono (by omega)), hnext.out⟩, ?_⟩
  simp [intOf]
end Go.Proofs.Ytfnclmacodchfaa
