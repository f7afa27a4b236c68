/- notice: NoticeBack, the walk. -/
import Derived.Test.YtfnclmacodchfaaDoorNoE
namespace Go.Proofs.YtfnclmacodchfaaDoor
set_option linter.unusedVariables false
open Go Go.RowKit

theorem PaN.no {w w' : World} {e : Ending} {l : List UInt8} (hp : PaN w w' e l) (hk : okN l = false) : ∃ A m c, e = .returned (.tuple #[.agg #[.int .i64 0, .int .i64 0, .slice A m c], .bool false]) ∧ Byt w' w'.heap.size A m [] := by
  unfold PaN at hp
  rw [if_neg (by rw [hk]; simp)] at hp
  exact ⟨none, 0, 0, hp, Byt.none_⟩
theorem PaN.yes {w w' : World} {e : Ending} {l : List UInt8} (hp : PaN w w' e l) (hk : okN l = true) : ∃ A m c, e = .returned (.tuple #[.agg #[.int .i64 (byAt l 0), .int .i64 (byAt l 1), .slice A m c], .bool true]) ∧ Byt w' w'.heap.size A m (l.drop 2) := by
  unfold PaN at hp
  rw [if_pos hk] at hp
  obtain ⟨v, rfl, own⟩ := hp
  obtain ⟨A, c, rfl, _, _, by1, _⟩ := own.any2
  exact ⟨A, _, c, rfl, by1⟩
theorem byOf_byAt (l : List UInt8) (j : Nat) : byOf (byAt l j) = l[j]?.getD 0 := by
  unfold byOf byAt
  apply UInt8.toNat_inj.1
  rw [UInt8.toNat_ofNat']
  have := (l[j]?.getD 0).toNat_lt
  omega
theorem noB_back {l : List UInt8} (hk : okN l = true) : noB (byAt l 0) (byAt l 1) (l.drop 2) = l := by
  have h2 : 2 ≤ l.length := by unfold okN at hk; simp at hk; omega
  unfold noB
  rw [List.length_drop, if_pos (by rw [← okN_good l h2]; exact hk), byOf_byAt, byOf_byAt]
  match l, h2 with
  | a :: b :: r, _ => rfl
theorem noB_len (cd sb : Int) (d : List UInt8) : (noB cd sb d).length ≤ 2 + d.length := by
  unfold noB
  split
  · simp; omega
  · simp
theorem okN_noB {cd sb : Int} {d : List UInt8} (hg : goodN cd sb d.length = true) : okN (noB cd sb d) = true ∧ byAt (noB cd sb d) 0 = cd ∧ byAt (noB cd sb d) 1 = sb ∧ (noB cd sb d).drop 2 = d := by
  have hb := goodN_bd hg
  have e : noB cd sb d = [byOf cd, byOf sb] ++ d := by unfold noB; rw [if_pos hg]
  have e0 : byAt ([byOf cd, byOf sb] ++ d) 0 = cd := by
    have : byAt ([byOf cd, byOf sb] ++ d) 0 = ((byOf cd).toNat : Int) := rfl
    rw [this, byOf_val]; omega
  have e1 : byAt ([byOf cd, byOf sb] ++ d) 1 = sb := by
    have : byAt ([byOf cd, byOf sb] ++ d) 1 = ((byOf sb).toNat : Int) := rfl
    rw [this, byOf_val]; omega
  rw [e]
  refine ⟨?_, e0, e1, rfl⟩
  unfold okN
  rw [e0]
  simp
  omega
theorem faultC_refl (a s : Int) (d : List UInt8) : faultC a s d a s d = true := by simp [faultC]
set_option maxRecDepth 100000 in
set_option maxHeartbeats 16000000 in
theorem back10_walk (A : Option Addr) (n c : Nat) (l : List UInt8) (cd sb : Int) (A2 : Option Addr) (n2 c2 : Nat) (d : List UInt8) (w : World) (hnc : n ≤ c) (_ : c ≤ maxLen) (h : Byt w w.heap.size A n l) (_ : (Lit.int .i64 cd).wf = true) (_ : (Lit.int .i64 sb).wf = true) (_ : n2 ≤ c2) (_ : c2 ≤ maxLen) (h2 : Byt w w.heap.size A2 n2 d) (hL : laidMetH Tryd.prog laidL w) :
    Calls Tryd.prog 4 #[.slice A n c, .agg #[.int .i64 cd, .int .i64 sb, .slice A2 n2 c2]] w fun e w' => e = .returned (.bool true) ∧ Below w.heap.size w w' := by
  have hM := mean_of hL
  clear hL
  have hl := Lib.hid h.1
  have hl2 := Lib.hid h2.1
  have hB := (Below.refl w.heap.size w).alloc (Nat.le_refl _) (.cells #[.int .i64 cd, .int .i64 sb, .slice A2 n2 c2] 24)
  have hq := Blk.new w 24 #[.int .i64 cd, .int .i64 sb, .slice A2 n2 c2]
  replace h := h.nx hB
  replace h2 := h2.nx hB
  replace hM := hM.below hB
  go_enter Tryd.func4, Tryd.ntmps4
  go_upto_region 1 with (fail)
  generalize w.alloc (.cells #[.int .i64 cd, .int .i64 sb, .slice A2 n2 c2] 24) = w1 at *
  have q0 : w1.cell? ⟨w.heap.size, 0, none⟩ = some (.int .i64 cd) := hq.cellv 0 rfl
  have q1 : w1.cell? ⟨w.heap.size, 1, none⟩ = some (.int .i64 sb) := hq.cellv 1 rfl
  have q2 : w1.cell? ⟨w.heap.size, 2, none⟩ = some (.slice A2 n2 c2) := hq.cellv 2 rfl
  have ql := hq.lt
  by_cases hn : n ≤ 6000
  rotate_left
  · have k1 : (6000 : Int) < n := by omega
    go_wp2_with fail
    refine (lives10_any _ hM).mono ?_
    rintro e w9 ⟨rfl, hb9⟩
    go_wp2_with fail
    go_ret
    exact ⟨rfl, hB.trans (hb9.mono hB.size)⟩
  have k1 : ¬ ((6000 : Int) < n) := by omega
  by_cases hn2 : n2 ≤ 6000
  rotate_left
  · have k2 : (6000 : Int) < n2 := by omega
    go_wp2_with fail
    refine (lives10_any _ hM).mono ?_
    rintro e w9 ⟨rfl, hb9⟩
    go_wp2_with fail
    go_ret
    exact ⟨rfl, hB.trans (hb9.mono hB.size)⟩
  have k2 : ¬ ((6000 : Int) < n2) := by omega
  cases hk : okN l
  · skip
    go_wp2_with fail
    refine (noParse_any w1 A n c l h (by omega) hnc).mono ?_
    rintro e w2 ⟨hb, hP⟩
    obtain ⟨A3, m3, c3, rfl, by3⟩ := hP.no hk
    clear hP
    replace hq := hq.below hb hq.lt
    replace h := h.nx hb
    replace h2 := h2.nx hb
    replace hM := hM.below hb
    replace hB := hB.trans (hb.mono hB.size)
    have hb := (Below.refl w2.heap.size w2).alloc (Nat.le_refl _) (.cells #[.int .i64 0, .int .i64 0, .slice A3 m3 c3] 24)
    have hx3 := Blk.new w2 24 #[.int .i64 0, .int .i64 0, .slice A3 m3 c3]
    replace by3 := by3.nx hb
    replace hq := hq.below hb hq.lt
    replace h := h.nx hb
    replace h2 := h2.nx hb
    replace hM := hM.below hb
    replace hB := hB.trans (hb.mono hB.size)
    go_upto_region 4 with (fail)
    generalize w2.alloc (.cells #[.int .i64 0, .int .i64 0, .slice A3 m3 c3] 24) = w3 at *
    generalize w2.heap.size = g3 at *
    clear hb
    clear q0 q1 q2 ql
    go_wp2_with fail
    refine (refNoParse_any w3 A n c l h (by omega) hnc).mono ?_
    rintro e w4 ⟨hb, hP⟩
    obtain ⟨A4, m4, c4, rfl, by4⟩ := hP.no hk
    clear hP
    replace hq := hq.below hb hq.lt
    replace h := h.nx hb
    replace h2 := h2.nx hb
    replace hM := hM.below hb
    replace hB := hB.trans (hb.mono hB.size)
    replace hx3 := hx3.below hb hx3.lt
    replace by3 := by3.nx hb
    have hb := (Below.refl w4.heap.size w4).alloc (Nat.le_refl _) (.cells #[.int .i64 0, .int .i64 0, .slice A4 m4 c4] 24)
    have hx4 := Blk.new w4 24 #[.int .i64 0, .int .i64 0, .slice A4 m4 c4]
    replace by4 := by4.nx hb
    replace hq := hq.below hb hq.lt
    replace h := h.nx hb
    replace h2 := h2.nx hb
    replace hM := hM.below hb
    replace hB := hB.trans (hb.mono hB.size)
    replace hx3 := hx3.below hb hx3.lt
    replace by3 := by3.nx hb
    go_upto_region 5 with (fail)
    generalize w4.alloc (.cells #[.int .i64 0, .int .i64 0, .slice A4 m4 c4] 24) = w5 at *
    generalize w4.heap.size = g4 at *
    clear hb
    -- region 5: 0 1 2 3 4 5 6C 7 8 9 10 11 12 13C 14 15 16 17 18 19
    try refine wp_region_noPanic ?_
    refine wp_region_lat (by kernel_rfl) ?_
    (refine lat_now 0 (by rfl) ?_ (by kernel_rfl) (fun _ _ _ h => h) ?_ ?_; rotate_left; (focus (intro wq hSw; have hrd : ∀ b o, b < w5.heap.size → wq.cell? ⟨b, o, none⟩ = w5.cell? ⟨b, o, none⟩ := (fun b o h => Below.cell hSw (p := ⟨b, o, none⟩) h); go_simp; try with_reducible rfl; done)); try simp only [Act.put, List.setIfInBounds_toArray, List.set_cons_zero, List.set_cons_succ])
    (refine lat_now 1 (by rfl) ?_ (by kernel_rfl) (fun _ _ _ h => h) ?_ ?_; rotate_left; (focus (intro wq hSw; have hrd : ∀ b o, b < w5.heap.size → wq.cell? ⟨b, o, none⟩ = w5.cell? ⟨b, o, none⟩ := (fun b o h => Below.cell hSw (p := ⟨b, o, none⟩) h); go_simp; try with_reducible rfl; done)); try simp only [Act.put, List.setIfInBounds_toArray, List.set_cons_zero, List.set_cons_succ])
    (refine lat_now 2 (by rfl) ?_ (by kernel_rfl) (fun _ _ _ h => h) ?_ ?_; rotate_left; (focus (intro wq hSw; have hrd : ∀ b o, b < w5.heap.size → wq.cell? ⟨b, o, none⟩ = w5.cell? ⟨b, o, none⟩ := (fun b o h => Below.cell hSw (p := ⟨b, o, none⟩) h); go_simp; try with_reducible rfl; done)); try simp only [Act.put, List.setIfInBounds_toArray, List.set_cons_zero, List.set_cons_succ])
    (refine lat_now 3 (by rfl) ?_ (by kernel_rfl) (fun _ _ _ h => h) ?_ ?_; rotate_left; (focus (intro wq hSw; have hrd : ∀ b o, b < w5.heap.size → wq.cell? ⟨b, o, none⟩ = w5.cell? ⟨b, o, none⟩ := (fun b o h => Below.cell hSw (p := ⟨b, o, none⟩) h); go_simp; try with_reducible rfl; done)); try simp only [Act.put, List.setIfInBounds_toArray, List.set_cons_zero, List.set_cons_succ])
    (refine lat_now 4 (by rfl) ?_ (by kernel_rfl) (fun _ _ _ h => h) ?_ ?_; rotate_left; (focus (intro wq hSw; refine exec_load_blk (x := .tmp 5) ?_ ?_ (hx3.below hSw hx3.lt) _ Tryd.underlying24 rfl (by kernel_rfl) <;> rfl)); simp only [Act.put, List.setIfInBounds_toArray, List.set_cons_zero, List.set_cons_succ])
    (refine lat_now 5 (by rfl) ?_ (by kernel_rfl) (fun _ _ _ h => h) ?_ ?_; rotate_left; (focus (intro wq hSw; refine exec_load_blk (x := .tmp 7) ?_ ?_ (hx4.below hSw hx4.lt) _ Tryd.underlying24 rfl (by kernel_rfl) <;> rfl)); simp only [Act.put, List.setIfInBounds_toArray, List.set_cons_zero, List.set_cons_succ])
    (refine lat_late 6 (by rfl) (.bool true) (by kernel_rfl) (fun _ _ _ h => h) (fun wq hSw => ⟨_, _, ?_, by have q9 := faults7_any wq 0 0 A3 m3 c3 (([] : List UInt8)) 0 0 A4 m4 c4 (([] : List UInt8)) wq.heap.size wq.heap.size (by3.nx hSw) (by4.nx hSw) (Nat.le_refl _) (Nat.le_refl _); rw [faultC_refl] at q9; exact q9⟩) ?_; focus (go_simp; try with_reducible rfl; done); try simp only [Act.put, List.setIfInBounds_toArray, List.set_cons_zero, List.set_cons_succ])
    (refine lat_now 7 (by rfl) ?_ (by kernel_rfl) (fun _ _ _ h => h) ?_ ?_; rotate_left; (focus (intro wq hSw; have hrd : ∀ b o, b < w5.heap.size → wq.cell? ⟨b, o, none⟩ = w5.cell? ⟨b, o, none⟩ := (fun b o h => Below.cell hSw (p := ⟨b, o, none⟩) h); go_simp; try with_reducible rfl; done)); try simp only [Act.put, List.setIfInBounds_toArray, List.set_cons_zero, List.set_cons_succ])
    (refine lat_now 8 (by rfl) ?_ (by kernel_rfl) (fun _ _ _ h => h) ?_ ?_; rotate_left; (focus (intro wq hSw; have hrd : ∀ b o, b < w5.heap.size → wq.cell? ⟨b, o, none⟩ = w5.cell? ⟨b, o, none⟩ := (fun b o h => Below.cell hSw (p := ⟨b, o, none⟩) h); go_simp; try with_reducible rfl; done)); try simp only [Act.put, List.setIfInBounds_toArray, List.set_cons_zero, List.set_cons_succ])
    (refine lat_now 9 (by rfl) ?_ (by kernel_rfl) (fun _ _ _ h => h) ?_ ?_; rotate_left; (focus (intro wq hSw; have hrd : ∀ b o, b < w5.heap.size → wq.cell? ⟨b, o, none⟩ = w5.cell? ⟨b, o, none⟩ := (fun b o h => Below.cell hSw (p := ⟨b, o, none⟩) h); go_simp; try with_reducible rfl; done)); try simp only [Act.put, List.setIfInBounds_toArray, List.set_cons_zero, List.set_cons_succ])
    (refine lat_now 10 (by rfl) ?_ (by kernel_rfl) (fun _ _ _ h => h) ?_ ?_; rotate_left; (focus (intro wq hSw; have hrd : ∀ b o, b < w5.heap.size → wq.cell? ⟨b, o, none⟩ = w5.cell? ⟨b, o, none⟩ := (fun b o h => Below.cell hSw (p := ⟨b, o, none⟩) h); go_simp; try with_reducible rfl; done)); try simp only [Act.put, List.setIfInBounds_toArray, List.set_cons_zero, List.set_cons_succ])
    (refine lat_now 11 (by rfl) ?_ (by kernel_rfl) (fun _ _ _ h => h) ?_ ?_; rotate_left; (focus (intro wq hSw; have hrd : ∀ b o, b < w5.heap.size → wq.cell? ⟨b, o, none⟩ = w5.cell? ⟨b, o, none⟩ := (fun b o h => Below.cell hSw (p := ⟨b, o, none⟩) h); go_simp; try with_reducible rfl; done)); try simp only [Act.put, List.setIfInBounds_toArray, List.set_cons_zero, List.set_cons_succ])
    (refine lat_skip 12 (by rfl) (by kernel_rfl) (fun _ _ _ h => h) ?_; try simp only [Act.put, List.setIfInBounds_toArray, List.set_cons_zero, List.set_cons_succ])
    (refine lat_skip 13 (by rfl) (by kernel_rfl) (fun _ _ _ h => h) ?_; try simp only [Act.put, List.setIfInBounds_toArray, List.set_cons_zero, List.set_cons_succ])
    (refine lat_skip 14 (by rfl) (by kernel_rfl) (fun _ _ _ h => h) ?_; try simp only [Act.put, List.setIfInBounds_toArray, List.set_cons_zero, List.set_cons_succ])
    (refine lat_skip 15 (by rfl) (by kernel_rfl) (fun _ _ _ h => h) ?_; try simp only [Act.put, List.setIfInBounds_toArray, List.set_cons_zero, List.set_cons_succ])
    (refine lat_skip 16 (by rfl) (by kernel_rfl) (fun _ _ _ h => h) ?_; try simp only [Act.put, List.setIfInBounds_toArray, List.set_cons_zero, List.set_cons_succ])
    (refine lat_skip 17 (by rfl) (by kernel_rfl) (fun _ _ _ h => h) ?_; try simp only [Act.put, List.setIfInBounds_toArray, List.set_cons_zero, List.set_cons_succ])
    (refine lat_now 18 (by rfl) ?_ (by kernel_rfl) (fun _ _ _ h => h) ?_ ?_; rotate_left; (focus (intro wq hSw; have hrd : ∀ b o, b < w5.heap.size → wq.cell? ⟨b, o, none⟩ = w5.cell? ⟨b, o, none⟩ := (fun b o h => Below.cell hSw (p := ⟨b, o, none⟩) h); go_simp; try with_reducible rfl; done)); try simp only [Act.put, List.setIfInBounds_toArray, List.set_cons_zero, List.set_cons_succ])
    (refine lat_now 19 (by rfl) ?_ (by kernel_rfl) (fun _ _ _ h => h) ?_ ?_; rotate_left; (focus (intro wq hSw; have hrd : ∀ b o, b < w5.heap.size → wq.cell? ⟨b, o, none⟩ = w5.cell? ⟨b, o, none⟩ := (fun b o h => Below.cell hSw (p := ⟨b, o, none⟩) h); go_simp; try with_reducible rfl; done)); try simp only [Act.put, List.setIfInBounds_toArray, List.set_cons_zero, List.set_cons_succ])
    refine lat_done (by kernel_rfl) (fun wz hz => ?_) _
    try refine NoPanic.normal ?_
    replace hq := hq.below hz hq.lt
    replace h2 := h2.nx hz
    replace hM := hM.below hz
    replace hB := hB.trans (hz.mono hB.size)
    clear hx3 hx4 by3 by4
    have q0 : wz.cell? ⟨w.heap.size, 0, none⟩ = some (.int .i64 cd) := hq.cellv 0 rfl
    have q1 : wz.cell? ⟨w.heap.size, 1, none⟩ = some (.int .i64 sb) := hq.cellv 1 rfl
    have q2 : wz.cell? ⟨w.heap.size, 2, none⟩ = some (.slice A2 n2 c2) := hq.cellv 2 rfl
    have ql := hq.lt
    go_wp2_with fail
    refine (noBytes_any wz cd sb A2 n2 c2 d h2 (by omega)).mono ?_
    rintro e w7 ⟨v7, rfl, own7, hb⟩
    obtain ⟨A7, c7, rfl, hc7, _, by7, _⟩ := own7.any2
    clear own7
    clear q0 q1 q2 ql
    replace hq := hq.below hb hq.lt
    replace h2 := h2.nx hb
    replace hM := hM.below hb
    replace hB := hB.trans (hb.mono hB.size)
    clear hb
    have hnl := noB_len cd sb d
    have hnl2 : (noB cd sb d).length ≤ 1000000 := by have := hl2.out; omega
    generalize hLL : noB cd sb d = LL at *
    replace hLL := Lib.hid hLL
    generalize LL.length = N at *
    go_wp2_with fail
    refine (noParse_any w7 A7 N c7 LL by7 hnl2 hc7).mono ?_
    rintro e w8 ⟨hb, hP⟩
    replace hq := hq.below hb hq.lt
    replace h2 := h2.nx hb
    replace hM := hM.below hb
    replace hB := hB.trans (hb.mono hB.size)
    clear hb
    cases hg : goodN cd sb n2
    · have hk2 : okN LL = false := by
        rw [← hLL.out]; unfold noB; rw [hl2.out, hg]; rfl
      obtain ⟨A8, m8, c8, rfl, by5⟩ := hP.no hk2
      clear hP
      have hgd := fun w => noGood_any w cd sb A2 n2 c2
      simp only [hg] at hgd
      replace hg := Lib.hid hg
      replace hk2 := Lib.hid hk2
      have hb := (Below.refl w8.heap.size w8).alloc (Nat.le_refl _) (.cells #[.int .i64 0, .int .i64 0, .slice A8 m8 c8] 24)
      have hx := Blk.new w8 24 #[.int .i64 0, .int .i64 0, .slice A8 m8 c8]
      replace by5 := by5.nx hb
      replace hq := hq.below hb hq.lt
      replace h2 := h2.nx hb
      replace hM := hM.below hb
      replace hB := hB.trans (hb.mono hB.size)
      go_upto_region 8 with (fail)
      generalize w8.alloc (.cells #[.int .i64 0, .int .i64 0, .slice A8 m8 c8] 24) = w10 at *
      generalize w8.heap.size = g8 at *
      clear hb
      have q0 : w10.cell? ⟨w.heap.size, 0, none⟩ = some (.int .i64 cd) := hq.cellv 0 rfl
      have q1 : w10.cell? ⟨w.heap.size, 1, none⟩ = some (.int .i64 sb) := hq.cellv 1 rfl
      have q2 : w10.cell? ⟨w.heap.size, 2, none⟩ = some (.slice A2 n2 c2) := hq.cellv 2 rfl
      have ql := hq.lt
      go_wp2_with fail
      refine (hgd w10).mono ?_
      rintro e w11 ⟨rfl, hb⟩
      clear q0 q1 q2 ql
      replace hq := hq.below hb hq.lt
      replace h2 := h2.nx hb
      replace hM := hM.below hb
      replace hB := hB.trans (hb.mono hB.size)
      replace hx := hx.below hb hx.lt
      replace by5 := by5.nx hb
      clear hb
      go_wp2_with fail
      refine (lives10_any _ hM).mono ?_
      rintro e w9 ⟨rfl, hb9⟩
      go_wp2_with fail
      go_ret
      exact ⟨rfl, hB.trans (hb9.mono hB.size)⟩
    · have hg2 : goodN cd sb d.length = true := by rw [hl2.out]; exact hg
      have hkk := okN_noB hg2
      rw [hLL.out] at hkk
      obtain ⟨hk2, e0, e1, e2⟩ := hkk
      obtain ⟨A8, m8, c8, rfl, by5⟩ := hP.yes hk2
      clear hP
      rw [e0, e1]
      rw [e2] at by5
      have hgd := fun w => noGood_any w cd sb A2 n2 c2
      simp only [hg] at hgd
      replace hg := Lib.hid hg
      replace hg2 := Lib.hid hg2
      replace hk2 := Lib.hid hk2
      replace e0 := Lib.hid e0
      replace e1 := Lib.hid e1
      replace e2 := Lib.hid e2
      have hb := (Below.refl w8.heap.size w8).alloc (Nat.le_refl _) (.cells #[.int .i64 cd, .int .i64 sb, .slice A8 m8 c8] 24)
      have hx := Blk.new w8 24 #[.int .i64 cd, .int .i64 sb, .slice A8 m8 c8]
      replace by5 := by5.nx hb
      replace hq := hq.below hb hq.lt
      replace h2 := h2.nx hb
      replace hM := hM.below hb
      replace hB := hB.trans (hb.mono hB.size)
      go_upto_region 8 with (fail)
      generalize w8.alloc (.cells #[.int .i64 cd, .int .i64 sb, .slice A8 m8 c8] 24) = w10 at *
      generalize w8.heap.size = g8 at *
      clear hb
      have q0 : w10.cell? ⟨w.heap.size, 0, none⟩ = some (.int .i64 cd) := hq.cellv 0 rfl
      have q1 : w10.cell? ⟨w.heap.size, 1, none⟩ = some (.int .i64 sb) := hq.cellv 1 rfl
      have q2 : w10.cell? ⟨w.heap.size, 2, none⟩ = some (.slice A2 n2 c2) := hq.cellv 2 rfl
      have ql := hq.lt
      go_wp2_with fail
      refine (hgd w10).mono ?_
      rintro e w11 ⟨rfl, hb⟩
      clear q0 q1 q2 ql
      replace hq := hq.below hb hq.lt
      replace h2 := h2.nx hb
      replace hM := hM.below hb
      replace hB := hB.trans (hb.mono hB.size)
      replace hx := hx.below hb hx.lt
      replace by5 := by5.nx hb
      clear hb
      have q0 : w11.cell? ⟨w.heap.size, 0, none⟩ = some (.int .i64 cd) := hq.cellv 0 rfl
      have q1 : w11.cell? ⟨w.heap.size, 1, none⟩ = some (.int .i64 sb) := hq.cellv 1 rfl
      have q2 : w11.cell? ⟨w.heap.size, 2, none⟩ = some (.slice A2 n2 c2) := hq.cellv 2 rfl
      have ql := hq.lt
      have x0 : w11.cell? ⟨g8, 0, none⟩ = some (.int .i64 cd) := hx.cellv 0 rfl
      have x1 : w11.cell? ⟨g8, 1, none⟩ = some (.int .i64 sb) := hx.cellv 1 rfl
      have x2 : w11.cell? ⟨g8, 2, none⟩ = some (.slice A8 m8 c8) := hx.cellv 2 rfl
      have xl := hx.lt
      go_wp2_with fail
      refine (noSame_any w11 cd sb A8 m8 c8 d cd sb A2 n2 c2 d by5 h2).mono ?_
      rintro e w12 ⟨rfl, hb⟩
      rw [faultC_refl]
      clear q0 q1 q2 ql x0 x1 x2 xl
      replace hq := hq.below hb hq.lt
      replace h2 := h2.nx hb
      replace hM := hM.below hb
      replace hB := hB.trans (hb.mono hB.size)
      replace hx := hx.below hb hx.lt
      replace by5 := by5.nx hb
      clear hb
      go_wp2_with fail
      refine (lives10_any _ hM).mono ?_
      rintro e w9 ⟨rfl, hb9⟩
      go_wp2_with fail
      go_ret
      exact ⟨rfl, hB.trans (hb9.mono hB.size)⟩
  · skip
    go_wp2_with fail
    refine (noParse_any w1 A n c l h (by omega) hnc).mono ?_
    rintro e w2 ⟨hb, hP⟩
    obtain ⟨A3, m3, c3, rfl, by3⟩ := hP.yes hk
    clear hP
    replace hq := hq.below hb hq.lt
    replace h := h.nx hb
    replace h2 := h2.nx hb
    replace hM := hM.below hb
    replace hB := hB.trans (hb.mono hB.size)
    have hb := (Below.refl w2.heap.size w2).alloc (Nat.le_refl _) (.cells #[.int .i64 (byAt l 0), .int .i64 (byAt l 1), .slice A3 m3 c3] 24)
    have hx3 := Blk.new w2 24 #[.int .i64 (byAt l 0), .int .i64 (byAt l 1), .slice A3 m3 c3]
    replace by3 := by3.nx hb
    replace hq := hq.below hb hq.lt
    replace h := h.nx hb
    replace h2 := h2.nx hb
    replace hM := hM.below hb
    replace hB := hB.trans (hb.mono hB.size)
    go_upto_region 4 with (fail)
    generalize w2.alloc (.cells #[.int .i64 (byAt l 0), .int .i64 (byAt l 1), .slice A3 m3 c3] 24) = w3 at *
    generalize w2.heap.size = g3 at *
    clear hb
    clear q0 q1 q2 ql
    go_wp2_with fail
    refine (refNoParse_any w3 A n c l h (by omega) hnc).mono ?_
    rintro e w4 ⟨hb, hP⟩
    obtain ⟨A4, m4, c4, rfl, by4⟩ := hP.yes hk
    clear hP
    replace hq := hq.below hb hq.lt
    replace h := h.nx hb
    replace h2 := h2.nx hb
    replace hM := hM.below hb
    replace hB := hB.trans (hb.mono hB.size)
    replace hx3 := hx3.below hb hx3.lt
    replace by3 := by3.nx hb
    have hb := (Below.refl w4.heap.size w4).alloc (Nat.le_refl _) (.cells #[.int .i64 (byAt l 0), .int .i64 (byAt l 1), .slice A4 m4 c4] 24)
    have hx4 := Blk.new w4 24 #[.int .i64 (byAt l 0), .int .i64 (byAt l 1), .slice A4 m4 c4]
    replace by4 := by4.nx hb
    replace hq := hq.below hb hq.lt
    replace h := h.nx hb
    replace h2 := h2.nx hb
    replace hM := hM.below hb
    replace hB := hB.trans (hb.mono hB.size)
    replace hx3 := hx3.below hb hx3.lt
    replace by3 := by3.nx hb
    go_upto_region 5 with (fail)
    generalize w4.alloc (.cells #[.int .i64 (byAt l 0), .int .i64 (byAt l 1), .slice A4 m4 c4] 24) = w5 at *
    generalize w4.heap.size = g4 at *
    clear hb
    
    -- region 5: 0 1 2 3 4 5 6C 7 8 9 10 11 12 13C 14 15 16 17 18 19
    try refine wp_region_noPanic ?_
    refine wp_region_lat (by kernel_rfl) ?_
    (refine lat_now 0 (by rfl) ?_ (by kernel_rfl) (fun _ _ _ h => h) ?_ ?_; rotate_left; (focus (intro wq hSw; have hrd : ∀ b o, b < w5.heap.size → wq.cell? ⟨b, o, none⟩ = w5.cell? ⟨b, o, none⟩ := (fun b o h => Below.cell hSw (p := ⟨b, o, none⟩) h); go_simp; try with_reducible rfl; done)); try simp only [Act.put, List.setIfInBounds_toArray, List.set_cons_zero, List.set_cons_succ])
    (refine lat_now 1 (by rfl) ?_ (by kernel_rfl) (fun _ _ _ h => h) ?_ ?_; rotate_left; (focus (intro wq hSw; have hrd : ∀ b o, b < w5.heap.size → wq.cell? ⟨b, o, none⟩ = w5.cell? ⟨b, o, none⟩ := (fun b o h => Below.cell hSw (p := ⟨b, o, none⟩) h); go_simp; try with_reducible rfl; done)); try simp only [Act.put, List.setIfInBounds_toArray, List.set_cons_zero, List.set_cons_succ])
    (refine lat_now 2 (by rfl) ?_ (by kernel_rfl) (fun _ _ _ h => h) ?_ ?_; rotate_left; (focus (intro wq hSw; have hrd : ∀ b o, b < w5.heap.size → wq.cell? ⟨b, o, none⟩ = w5.cell? ⟨b, o, none⟩ := (fun b o h => Below.cell hSw (p := ⟨b, o, none⟩) h); go_simp; try with_reducible rfl; done)); try simp only [Act.put, List.setIfInBounds_toArray, List.set_cons_zero, List.set_cons_succ])
    (refine lat_now 3 (by rfl) ?_ (by kernel_rfl) (fun _ _ _ h => h) ?_ ?_; rotate_left; (focus (intro wq hSw; have hrd : ∀ b o, b < w5.heap.size → wq.cell? ⟨b, o, none⟩ = w5.cell? ⟨b, o, none⟩ := (fun b o h => Below.cell hSw (p := ⟨b, o, none⟩) h); go_simp; try with_reducible rfl; done)); try simp only [Act.put, List.setIfInBounds_toArray, List.set_cons_zero, List.set_cons_succ])
    (refine lat_now 4 (by rfl) ?_ (by kernel_rfl) (fun _ _ _ h => h) ?_ ?_; rotate_left; (focus (intro wq hSw; refine exec_load_blk (x := .tmp 5) ?_ ?_ (hx3.below hSw hx3.lt) _ Tryd.underlying24 rfl (by kernel_rfl) <;> rfl)); simp only [Act.put, List.setIfInBounds_toArray, List.set_cons_zero, List.set_cons_succ])
    (refine lat_now 5 (by rfl) ?_ (by kernel_rfl) (fun _ _ _ h => h) ?_ ?_; rotate_left; (focus (intro wq hSw; refine exec_load_blk (x := .tmp 7) ?_ ?_ (hx4.below hSw hx4.lt) _ Tryd.underlying24 rfl (by kernel_rfl) <;> rfl)); simp only [Act.put, List.setIfInBounds_toArray, List.set_cons_zero, List.set_cons_succ])
    (refine lat_late 6 (by rfl) (.bool true) (by kernel_rfl) (fun _ _ _ h => h) (fun wq hSw => ⟨_, _, ?_, by have q9 := faults7_any wq (byAt l 0) (byAt l 1) A3 m3 c3 (l.drop 2) (byAt l 0) (byAt l 1) A4 m4 c4 (l.drop 2) wq.heap.size wq.heap.size (by3.nx hSw) (by4.nx hSw) (Nat.le_refl _) (Nat.le_refl _); rw [faultC_refl] at q9; exact q9⟩) ?_; focus (go_simp; try with_reducible rfl; done); try simp only [Act.put, List.setIfInBounds_toArray, List.set_cons_zero, List.set_cons_succ])
    (refine lat_now 7 (by rfl) ?_ (by kernel_rfl) (fun _ _ _ h => h) ?_ ?_; rotate_left; (focus (intro wq hSw; have hrd : ∀ b o, b < w5.heap.size → wq.cell? ⟨b, o, none⟩ = w5.cell? ⟨b, o, none⟩ := (fun b o h => Below.cell hSw (p := ⟨b, o, none⟩) h); go_simp; try with_reducible rfl; done)); try simp only [Act.put, List.setIfInBounds_toArray, List.set_cons_zero, List.set_cons_succ])
    (refine lat_now 8 (by rfl) ?_ (by kernel_rfl) (fun _ _ _ h => h) ?_ ?_; rotate_left; (focus (intro wq hSw; have hrd : ∀ b o, b < w5.heap.size → wq.cell? ⟨b, o, none⟩ = w5.cell? ⟨b, o, none⟩ := (fun b o h => Below.cell hSw (p := ⟨b, o, none⟩) h); go_simp; try with_reducible rfl; done)); try simp only [Act.put, List.setIfInBounds_toArray, List.set_cons_zero, List.set_cons_succ])
    (refine lat_now 9 (by rfl) ?_ (by kernel_rfl) (fun _ _ _ h => h) ?_ ?_; rotate_left; (focus (intro wq hSw; have hrd : ∀ b o, b < w5.heap.size → wq.cell? ⟨b, o, none⟩ = w5.cell? ⟨b, o, none⟩ := (fun b o h => Below.cell hSw (p := ⟨b, o, none⟩) h); go_simp; try with_reducible rfl; done)); try simp only [Act.put, List.setIfInBounds_toArray, List.set_cons_zero, List.set_cons_succ])
    (refine lat_now 10 (by rfl) ?_ (by kernel_rfl) (fun _ _ _ h => h) ?_ ?_; rotate_left; (focus (intro wq hSw; have hrd : ∀ b o, b < w5.heap.size → wq.cell? ⟨b, o, none⟩ = w5.cell? ⟨b, o, none⟩ := (fun b o h => Below.cell hSw (p := ⟨b, o, none⟩) h); go_simp; try with_reducible rfl; done)); try simp only [Act.put, List.setIfInBounds_toArray, List.set_cons_zero, List.set_cons_succ])
    (refine lat_now 11 (by rfl) ?_ (by kernel_rfl) (fun _ _ _ h => h) ?_ ?_; rotate_left; (focus (intro wq hSw; have hrd : ∀ b o, b < w5.heap.size → wq.cell? ⟨b, o, none⟩ = w5.cell? ⟨b, o, none⟩ := (fun b o h => Below.cell hSw (p := ⟨b, o, none⟩) h); go_simp; try with_reducible rfl; done)); try simp only [Act.put, List.setIfInBounds_toArray, List.set_cons_zero, List.set_cons_succ])
    (refine lat_now 12 (by rfl) ?_ (by kernel_rfl) (fun _ _ _ h => h) ?_ ?_; rotate_left; (focus (intro wq hSw; refine exec_load_blk (x := .tmp 5) ?_ ?_ (hx3.below hSw hx3.lt) _ Tryd.underlying24 rfl (by kernel_rfl) <;> rfl)); simp only [Act.put, List.setIfInBounds_toArray, List.set_cons_zero, List.set_cons_succ])
    (refine lat_now 15 (by rfl) ?_ (by kernel_rfl) (fun _ _ _ h => h) ?_ ?_; rotate_left; (focus (intro wq hSw; have hrd : ∀ b o, b < w5.heap.size → wq.cell? ⟨b, o, none⟩ = w5.cell? ⟨b, o, none⟩ := (fun b o h => Below.cell hSw (p := ⟨b, o, none⟩) h); go_simp; try with_reducible rfl; done)); try simp only [Act.put, List.setIfInBounds_toArray, List.set_cons_zero, List.set_cons_succ])
    (refine lat_now 16 (by rfl) ?_ (by kernel_rfl) (fun _ _ _ h => h) ?_ ?_; rotate_left; (focus (intro wq hSw; have q := run_str wq (h.below hSw) c; go_simp; try with_reducible rfl; done)); simp only [Act.put, List.setIfInBounds_toArray, List.set_cons_zero, List.set_cons_succ])
    refine lat_call 13 (by rfl) (by kernel_rfl) (by rfl) (fun wx1 hx1 KQ hKQ => ?_)
    go_simp
    replace hx3 := hx3.below hx1 hx3.lt
    replace hx4 := hx4.below hx1 hx4.lt
    replace hB := hB.trans (hx1.mono hB.size)
    replace by3 := by3.nx hx1
    replace by4 := by4.nx hx1
    replace h := h.nx hx1
    replace h2 := h2.nx hx1
    replace hM := hM.below hx1
    replace hq := hq.below hx1 hq.lt
    have hkl : m3 ≤ 1000000 := by rw [← by3.1, List.length_drop, hl.out]; omega
    refine (noBytes_any wx1 (byAt l 0) (byAt l 1) A3 m3 c3 (l.drop 2) by3 hkl).mono ?_
    rintro e w6 ⟨v6, rfl, own6, hb⟩
    rw [noB_back hk] at own6
    obtain ⟨A6, c6, rfl, _, _, by6, _⟩ := own6.any2
    clear own6
    replace h := h.nx hb
    replace h2 := h2.nx hb
    replace hM := hM.below hb
    replace hq := hq.below hb hq.lt
    refine hKQ.out _ _ hb ?_
    clear hKQ KQ
    replace hx3 := hx3.below hb hx3.lt
    replace hx4 := hx4.below hb hx4.lt
    replace hB := hB.trans (hb.mono hB.size)
    try simp only [Act.put, List.setIfInBounds_toArray, List.set_cons_zero, List.set_cons_succ]
    (refine lat_now 14 (by rfl) ?_ (by kernel_rfl) (fun _ _ _ h => h) ?_ ?_; rotate_left; (focus (intro wq hSw; have q := run_str wq (by6.below hSw) c6; go_simp; try with_reducible rfl; done)); simp only [Act.put, List.setIfInBounds_toArray, List.set_cons_zero, List.set_cons_succ])
    (refine lat_now 17 (by rfl) ?_ (by kernel_rfl) (fun _ _ _ h => h) ?_ ?_; rotate_left; (focus (intro wq hSw; have hrd : ∀ b o, b < w6.heap.size → wq.cell? ⟨b, o, none⟩ = w6.cell? ⟨b, o, none⟩ := (fun b o h => Below.cell hSw (p := ⟨b, o, none⟩) h); go_simp; try with_reducible rfl; done)); try simp only [Act.put, List.setIfInBounds_toArray, List.set_cons_zero, List.set_cons_succ])
    (refine lat_now 18 (by rfl) ?_ (by kernel_rfl) (fun _ _ _ h => h) ?_ ?_; rotate_left; (focus (intro wq hSw; have hrd : ∀ b o, b < w6.heap.size → wq.cell? ⟨b, o, none⟩ = w6.cell? ⟨b, o, none⟩ := (fun b o h => Below.cell hSw (p := ⟨b, o, none⟩) h); go_simp; try with_reducible rfl; done)); try simp only [Act.put, List.setIfInBounds_toArray, List.set_cons_zero, List.set_cons_succ])
    (refine lat_now 19 (by rfl) ?_ (by kernel_rfl) (fun _ _ _ h => h) ?_ ?_; rotate_left; (focus (intro wq hSw; have hrd : ∀ b o, b < w6.heap.size → wq.cell? ⟨b, o, none⟩ = w6.cell? ⟨b, o, none⟩ := (fun b o h => Below.cell hSw (p := ⟨b, o, none⟩) h); go_simp; try with_reducible rfl; done)); try simp only [Act.put, List.setIfInBounds_toArray, List.set_cons_zero, List.set_cons_succ])
    refine lat_done (by kernel_rfl) (fun wz hz => ?_) _
    try refine NoPanic.normal ?_
    replace hq := hq.below hz hq.lt
    replace h2 := h2.nx hz
    replace hM := hM.below hz
    replace hB := hB.trans (hz.mono hB.size)
    clear hx3 hx4 by3 by4
    have q0 : wz.cell? ⟨w.heap.size, 0, none⟩ = some (.int .i64 cd) := hq.cellv 0 rfl
    have q1 : wz.cell? ⟨w.heap.size, 1, none⟩ = some (.int .i64 sb) := hq.cellv 1 rfl
    have q2 : wz.cell? ⟨w.heap.size, 2, none⟩ = some (.slice A2 n2 c2) := hq.cellv 2 rfl
    have ql := hq.lt
    go_wp2_with fail
    refine (noBytes_any wz cd sb A2 n2 c2 d h2 (by omega)).mono ?_
    rintro e w7 ⟨v7, rfl, own7, hb⟩
    obtain ⟨A7, c7, rfl, hc7, _, by7, _⟩ := own7.any2
    clear own7
    clear q0 q1 q2 ql
    replace hq := hq.below hb hq.lt
    replace h2 := h2.nx hb
    replace hM := hM.below hb
    replace hB := hB.trans (hb.mono hB.size)
    clear hb
    have hnl := noB_len cd sb d
    have hnl2 : (noB cd sb d).length ≤ 1000000 := by have := hl2.out; omega
    generalize hLL : noB cd sb d = LL at *
    replace hLL := Lib.hid hLL
    generalize LL.length = N at *
    go_wp2_with fail
    refine (noParse_any w7 A7 N c7 LL by7 hnl2 hc7).mono ?_
    rintro e w8 ⟨hb, hP⟩
    replace hq := hq.below hb hq.lt
    replace h2 := h2.nx hb
    replace hM := hM.below hb
    replace hB := hB.trans (hb.mono hB.size)
    clear hb
    cases hg : goodN cd sb n2
    · have hk2 : okN LL = false := by
        rw [← hLL.out]; unfold noB; rw [hl2.out, hg]; rfl
      obtain ⟨A8, m8, c8, rfl, by5⟩ := hP.no hk2
      clear hP
      have hgd := fun w => noGood_any w cd sb A2 n2 c2
      simp only [hg] at hgd
      replace hg := Lib.hid hg
      replace hk2 := Lib.hid hk2
      have hb := (Below.refl w8.heap.size w8).alloc (Nat.le_refl _) (.cells #[.int .i64 0, .int .i64 0, .slice A8 m8 c8] 24)
      have hx := Blk.new w8 24 #[.int .i64 0, .int .i64 0, .slice A8 m8 c8]
      replace by5 := by5.nx hb
      replace hq := hq.below hb hq.lt
      replace h2 := h2.nx hb
      replace hM := hM.below hb
      replace hB := hB.trans (hb.mono hB.size)
      go_upto_region 8 with (fail)
      generalize w8.alloc (.cells #[.int .i64 0, .int .i64 0, .slice A8 m8 c8] 24) = w10 at *
      generalize w8.heap.size = g8 at *
      clear hb
      have q0 : w10.cell? ⟨w.heap.size, 0, none⟩ = some (.int .i64 cd) := hq.cellv 0 rfl
      have q1 : w10.cell? ⟨w.heap.size, 1, none⟩ = some (.int .i64 sb) := hq.cellv 1 rfl
      have q2 : w10.cell? ⟨w.heap.size, 2, none⟩ = some (.slice A2 n2 c2) := hq.cellv 2 rfl
      have ql := hq.lt
      go_wp2_with fail
      refine (hgd w10).mono ?_
      rintro e w11 ⟨rfl, hb⟩
      clear q0 q1 q2 ql
      replace hq := hq.below hb hq.lt
      replace h2 := h2.nx hb
      replace hM := hM.below hb
      replace hB := hB.trans (hb.mono hB.size)
      replace hx := hx.below hb hx.lt
      replace by5 := by5.nx hb
      clear hb
      go_wp2_with fail
      refine (lives10_any _ hM).mono ?_
      rintro e w9 ⟨rfl, hb9⟩
      go_wp2_with fail
      go_ret
      exact ⟨rfl, hB.trans (hb9.mono hB.size)⟩
    · have hg2 : goodN cd sb d.length = true := by rw [hl2.out]; exact hg
      have hkk := okN_noB hg2
      rw [hLL.out] at hkk
      obtain ⟨hk2, e0, e1, e2⟩ := hkk
      obtain ⟨A8, m8, c8, rfl, by5⟩ := hP.yes hk2
      clear hP
      rw [e0, e1]
      rw [e2] at by5
      have hgd := fun w => noGood_any w cd sb A2 n2 c2
      simp only [hg] at hgd
      replace hg := Lib.hid hg
      replace hg2 := Lib.hid hg2
      replace hk2 := Lib.hid hk2
      replace e0 := Lib.hid e0
      replace e1 := Lib.hid e1
      replace e2 := Lib.hid e2
      have hb := (Below.refl w8.heap.size w8).alloc (Nat.le_refl _) (.cells #[.int .i64 cd, .int .i64 sb, .slice A8 m8 c8] 24)
      have hx := Blk.new w8 24 #[.int .i64 cd, .int .i64 sb, .slice A8 m8 c8]
      replace by5 := by5.nx hb
      replace hq := hq.below hb hq.lt
      replace h2 := h2.nx hb
      replace hM := hM.below hb
      replace hB := hB.trans (hb.mono hB.size)
      go_upto_region 8 with (fail)
      generalize w8.alloc (.cells #[.int .i64 cd, .int .i64 sb, .slice A8 m8 c8] 24) = w10 at *
      generalize w8.heap.size = g8 at *
      clear hb
      have q0 : w10.cell? ⟨w.heap.size, 0, none⟩ = some (.int .i64 cd) := hq.cellv 0 rfl
      have q1 : w10.cell? ⟨w.heap.size, 1, none⟩ = some (.int .i64 sb) := hq.cellv 1 rfl
      have q2 : w10.cell? ⟨w.heap.size, 2, none⟩ = some (.slice A2 n2 c2) := hq.cellv 2 rfl
      have ql := hq.lt
      go_wp2_with fail
      refine (hgd w10).mono ?_
      rintro e w11 ⟨rfl, hb⟩
      clear q0 q1 q2 ql
      replace hq := hq.below hb hq.lt
      replace h2 := h2.nx hb
      replace hM := hM.below hb
      replace hB := hB.trans (hb.mono hB.size)
      replace hx := hx.below hb hx.lt
      replace by5 := by5.nx hb
      clear hb
      have q0 : w11.cell? ⟨w.heap.size, 0, none⟩ = some (.int .i64 cd) := hq.cellv 0 rfl
      have q1 : w11.cell? ⟨w.heap.size, 1, none⟩ = some (.int .i64 sb) := hq.cellv 1 rfl
      have q2 : w11.cell? ⟨w.heap.size, 2, none⟩ = some (.slice A2 n2 c2) := hq.cellv 2 rfl
      have ql := hq.lt
      have x0 : w11.cell? ⟨g8, 0, none⟩ = some (.int .i64 cd) := hx.cellv 0 rfl
      have x1 : w11.cell? ⟨g8, 1, none⟩ = some (.int .i64 sb) := hx.cellv 1 rfl
      have x2 : w11.cell? ⟨g8, 2, none⟩ = some (.slice A8 m8 c8) := hx.cellv 2 rfl
      have xl := hx.lt
      go_wp2_with fail
      refine (noSame_any w11 cd sb A8 m8 c8 d cd sb A2 n2 c2 d by5 h2).mono ?_
      rintro e w12 ⟨rfl, hb⟩
      rw [faultC_refl]
      clear q0 q1 q2 ql x0 x1 x2 xl
      replace hq := hq.below hb hq.lt
      replace h2 := h2.nx hb
      replace hM := hM.below hb
      replace hB := hB.trans (hb.mono hB.size)
      replace hx := hx.below hb hx.lt
      replace by5 := by5.nx hb
      clear hb
      go_wp2_with fail
      refine (lives10_any _ hM).mono ?_
      rintro e w9 ⟨rfl, hb9⟩
      go_wp2_with fail
      go_ret
      exact ⟨rfl, hB.trans (hb9.mono hB.size)⟩
end Go.Proofs.YtfnclmacodchfaaDoor
