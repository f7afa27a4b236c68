/- tunnel: TunnelBack, the walk. -/
import Derived.Test.YtnjbnnceeecekaaTunE
namespace Go.Proofs.Ytnjbnnceeecekaa
set_option linter.unusedVariables false
open Go.RowKit

theorem take_flds {l : List UInt8} (h : errV l = 0) : fP (l.take (lnK l).toNat) = fP l ∧ fG (l.take (lnK l).toNat) = fG l ∧ fF (l.take (lnK l).toNat) = fF l ∧ payL (l.take (lnK l).toNat) = payL l := by
  obtain ⟨t1, t2⟩ := take_err h
  obtain ⟨e1, e2, e3, e4, e5, e6, e7, e8⟩ := errV_ok h
  have h0 : byAt (l.take (lnK l).toNat) 0 = byAt l 0 := byAt_take _ _ _ (by omega)
  have hs : szK (l.take (lnK l).toNat) = szK l := by unfold szK; rw [h0]
  have hh : hdL (l.take (lnK l).toNat) = hdL l := by unfold hdL; rw [hs, List.take_take, Nat.min_eq_left (by omega)]
  refine ⟨?_, ?_, ?_, ?_⟩
  · unfold fP; rw [if_pos t1, if_pos h, hh]
  · unfold fG; rw [if_pos t1, if_pos h, hh]
  · unfold fF; rw [if_pos t1, if_pos h, hh]
  · unfold payL; rw [if_pos t1, if_pos h, hs, t2, List.drop_take, List.take_take, Nat.min_self]
theorem take_unw {l : List UInt8} (h : errV l = 0) : unwE (l.take (lnK l).toNat) = unwE l ∧ unwL (l.take (lnK l).toNat) = unwL l := by
  obtain ⟨t1, t2⟩ := take_err h
  obtain ⟨f1, f2, f3, f4⟩ := take_flds h
  have e : unwE (l.take (lnK l).toNat) = unwE l := by unfold unwE; rw [t1, h, f1, f2, f3, f4]
  exact ⟨e, by unfold unwL; rw [e, f4]⟩
theorem take_depth {l : List UInt8} (h : errV l = 0) (n : Nat) : depthF n (l.take (lnK l).toNat) = depthF n l := by
  cases n with
  | zero => rfl
  | succ n => unfold depthF; rw [(take_unw h).1, (take_unw h).2]
theorem depth_less (n : Nat) (l : List UInt8) : depthF n l = if depthF (n + 1) l = n + 1 then n else depthF (n + 1) l := by
  induction n generalizing l with
  | zero =>
    have := depthF_le (0 + 1) l
    have h0 : depthF 0 l = 0 := rfl
    split <;> omega
  | succ n ih =>
    have hle := depthF_le (n + 1 + 1) l
    by_cases hu : unwE l = 0
    · have e1 : depthF (n + 1) l = depthF n (unwL l) + 1 := by show (if unwE l = 0 then depthF n (unwL l) + 1 else 0) = _; rw [if_pos hu]
      have e2 : depthF (n + 1 + 1) l = depthF (n + 1) (unwL l) + 1 := by show (if unwE l = 0 then depthF (n + 1) (unwL l) + 1 else 0) = _; rw [if_pos hu]
      have := ih (unwL l)
      rw [e1, e2]
      split at this <;> split <;> omega
    · rw [depth_none hu, depth_none hu]; simp
theorem wrap_depth {l : List UInt8} (h : errV l = 0) (hl : lnK l ≤ 8980) (s d : Int) (s0 : 0 ≤ s) (s1 : s ≤ 4294967295) (d0 : 0 ≤ d) (d1 : d ≤ 4294967295) :
    depthF 8 (wrapL l s d) = if depthF 8 l = 8 then 8 else depthF 8 l + 1 := by
  have hw := wrap_unw h hl s d s0 s1 d0 d1 []
  rw [List.append_nil] at hw
  have e : depthF 8 (wrapL l s d) = depthF 7 (unwL (wrapL l s d)) + 1 := by show (if unwE (wrapL l s d) = 0 then depthF 7 (unwL (wrapL l s d)) + 1 else 0) = _; rw [if_pos hw.1]
  have h7 := depth_less 7 l
  have h8 : 7 + 1 = 8 := rfl
  rw [h8] at h7
  rw [e, hw.2, take_depth h, h7]
  have := depthF_le 8 l
  split <;> omega
theorem one_seven (w : World) : Byt (w.alloc (.cells #[.int .u8 7] 5)) (w.heap.size + 1) (some ⟨w.heap.size, 0, none⟩) 1 [7] := Byt.new w [7] 5 (0, 0)
set_option maxRecDepth 100000 in
set_option maxHeartbeats 8000000 in
theorem tback_walk (A : Option Addr) (n c : Nat) (l : List UInt8) (s d : Int) (w : World) (hc : n ≤ c) (hc2 : c ≤ maxLen) (hI : Byt w w.heap.size A n l) (w1 : (Lit.int .u32 s).wf = true) (w2 : (Lit.int .u32 d).wf = true) :
    Calls Try.prog 8 #[.slice A n c, .int .u32 s, .int .u32 d] w fun e w' => e = .returned (.bool true) ∧ Below w.heap.size w w' := by
  obtain ⟨s0, s1⟩ := bounds_u32 w1
  obtain ⟨d0, d1⟩ := bounds_u32 w2
  clear w1 w2
  by_cases hbig : 3000 < n
  · have i1 : (3000 : Int) < n := by omega
    go_enter Try.func8, Try.ntmps8
    go_wp2_with fail
    refine (lives6_any _).mono ?_
    rintro e w9 ⟨rfl, hb⟩
    go_wp2_with fail
    go_ret
    exact ⟨rfl, hb⟩
  have i1 : (n : Int) ≤ 3000 := by omega
  replace hbig : n ≤ 3000 := by omega
  have hn : n ≤ 10000000 := by omega
  have hnl := hI.1
  by_cases he : errV l = 0
  rotate_left
  · have e1 : wrapE l = errV l := if_pos he
    have e2 : wrapL l s d = [] := if_pos he
    have hb : (errV l != 0) = true := by simpa using he
    replace he := Lib.hid he
    replace hnl := Lib.hid hnl
    go_enter Try.func8, Try.ntmps8
    go_wp2_with fail
    refine (wrap_any w A n c l hI hc hc2 hn s d s0 s1 d0 d1).mono ?_
    rintro e w1 ⟨v1, rfl, own1, hB⟩
    rw [e1]
    rw [e2] at own1
    obtain ⟨A1, c1, rfl, hc1, hcm1, by1, _⟩ := own1.any2
    simp only [List.length_nil]
    clear own1 e1 e2
    go_wp2_with fail
    refine (ipParse_any w1 A n c l (hI.nx hB) hc hc2 hn).mono ?_
    rintro e w2 ⟨vo, vp, rfl, owno, ownp, hb2⟩
    unfold parsed
    obtain ⟨Ao1, co1, rfl, _⟩ := owno.any
    replace hB := hB.trans (hb2.mono hB.size)
    have hB2 := hB.alloc hB.size (.cells #[.int .i64 (fT l), .int .i64 (fI l), .int .i64 (fF l), .int .i64 (fG l), .int .i64 (fL l), .int .i64 (fP l), .int .u32 (fS l), .int .u32 (fD l), .slice Ao1 (optL l).length co1] 55)
    clear owno ownp hb2
    go_wp2_with fail
    refine (lives6_any _).mono ?_
    rintro e w9 ⟨rfl, hb⟩
    go_wp2_with fail
    go_ret
    exact ⟨rfl, hB2.trans (hb.mono hB2.size)⟩
  obtain ⟨q1, _, _, _, q5, q6, q7, _⟩ := errV_ok he
  have hlk : lnK l ≤ 8980 := by omega
  have hlk2 : 20 ≤ lnK l := by have := errV_ok he; omega
  have e1 : wrapE l = 0 := by unfold wrapE; rw [if_neg (by simpa using he), if_neg (by omega)]
  obtain ⟨hwl, hbt⟩ := wrap_built he hlk s d s0 s1 d0 d1 [7]
  have hwu := wrap_unw he hlk s d s0 s1 d0 d1 [7]
  have hwu0 := wrap_unw he hlk s d s0 s1 d0 d1 []
  rw [List.append_nil] at hwu0
  have hwd := wrap_depth he hlk s d s0 s1 d0 d1
  have htl := take_ln_len he
  have hNn : (lnK l).toNat ≤ n := by omega
  obtain ⟨A3, hsl3, hby3⟩ := slice_take A n c (lnK l).toNat hNn hc
  have hN20 : 20 ≤ (lnK l).toNat := by omega
  have hdl := depthF_le 8 l
  generalize hNN : (lnK l).toNat = N at *
  generalize hXX : wrapL l s d = X at *
  have hNi : (N : Int) ≤ n := by omega
  have hNj : (20 : Int) ≤ N := by omega
  clear q1 q5 q6 q7 hlk hlk2
  replace hNN := Lib.hid hNN
  replace hXX := Lib.hid hXX
  replace he := Lib.hid he
  replace hnl := Lib.hid hnl
  replace hwl := Lib.hid hwl
  replace hwu := Lib.hid hwu
  replace hwu0 := Lib.hid hwu0
  replace hwd := Lib.hid hwd
  replace htl := Lib.hid htl
  go_enter Try.func8, Try.ntmps8
  go_wp2_with fail
  refine (wrap_any w A n c l hI hc hc2 hn s d s0 s1 d0 d1).mono ?_
  rintro e w1 ⟨v1, rfl, own1, hB⟩
  rw [e1]
  clear e1
  rw [hXX.out, hwl.out] at own1
  obtain ⟨A1, c1, rfl, hc1, hcm1, by1, _⟩ := own1.any2
  replace hI := hI.nx hB
  have hlit : OwnB (w1.alloc (.cells #[] 5)) w1.heap.size (.slice (some ⟨w1.heap.size, 0, none⟩) 0 0) 0 [] := by
    have := OwnB.lit (base := w1.heap.size) w1 [] (Nat.le_refl _) (by simp)
    rw [show byCells [] = #[] from rfl] at this
    exact this
  have by0 := by1.alloc (Nat.le_refl _) (.cells #[] 5)
  clear own1
  go_wp2_with first
    | (at_builtin; refine wpList_app _ rfl (.tmp 49) (.tmp 50) rfl w1.heap.size _ 0 [] rfl hlit _ _ _ _ _ rfl by0 (by omega) (by simp) ?_; intro v3 w3 own3 hg3 hd3; clear hd3; have hb3 := ((Below.refl w1.heap.size w1).alloc (Nat.le_refl _) (.cells #[] 5)).trans (hlit.below_app hg3 (by simp)); clear hg3; rw [Nat.zero_add, List.nil_append] at own3; have own3a := own3.alloc (.cells #[.int .u8 7] 5); have seven := one_seven w3)
    | (at_builtin; refine wpList_app _ rfl (.tmp 51) (.tmp 52) rfl w1.heap.size _ _ _ rfl own3a _ _ 1 1 _ rfl seven (by omega) (by have := hb3.size; simp; omega) ?_; intro v4 w4 own4 hg4 hd4; clear hd4; have hb4 := (hb3.alloc hb3.size (.cells #[.int .u8 7] 5)).trans (own3a.below_app hg4 (by have := hb3.size; simp; omega)); clear hg4; obtain ⟨A4, c4, rfl, hc4, hcm4, by4, _⟩ := own4.any2)
  replace hI := hI.nx hb4
  replace by1 := by1.nx hb4
  replace hB := hB.trans (hb4.mono hB.size)
  clear by0 own3 own3a seven hb3 hlit hb4 own4
  refine (unwrap_yes w4 A4 _ c4 (X ++ [7]) by4 hc4 hcm4 (by omega) hwu.out.1).mono ?_
  rintro e w5 ⟨v5, Ao1, co1, rfl, own5, _, hb5⟩
  rw [hbt.s_, hbt.d_, hbt.p_]
  rw [hwu.out.2] at own5
  have hn5 := own5.len
  rw [htl.out] at hn5
  rw [← hn5] at own5
  clear hn5
  obtain ⟨A5, c5, rfl, hc5, hcm5, by5, _⟩ := own5.any2
  clear own5
  replace hI := hI.nx hb5
  replace by1 := by1.nx hb5
  replace hB := hB.trans (hb5.mono hB.size)
  clear hb5
  have hbh := (Below.refl w5.heap.size w5).alloc (Nat.le_refl _) (.cells #[.int .i64 (fT (X ++ [7])), .int .i64 (fI (X ++ [7])), .int .i64 (fF (X ++ [7])), .int .i64 (fG (X ++ [7])), .int .i64 (fL (X ++ [7])), .int .i64 4, .int .u32 s, .int .u32 d, .slice Ao1 (optL (X ++ [7])).length co1] 55)
  have hq := Blk.new w5 55 #[.int .i64 (fT (X ++ [7])), .int .i64 (fI (X ++ [7])), .int .i64 (fF (X ++ [7])), .int .i64 (fG (X ++ [7])), .int .i64 (fL (X ++ [7])), .int .i64 4, .int .u32 s, .int .u32 d, .slice Ao1 (optL (X ++ [7])).length co1]
  replace hI := hI.nx hbh
  replace by1 := by1.nx hbh
  replace by5 := by5.nx hbh
  replace hB := hB.trans (hbh.mono hB.size)
  clear hbh
  go_wp2_with fail
  rw [show ((20 : Int) + (N : Int) - 20) = (N : Int) by omega]
  generalize w5.alloc (.cells #[.int .i64 (fT (X ++ [7])), .int .i64 (fI (X ++ [7])), .int .i64 (fF (X ++ [7])), .int .i64 (fG (X ++ [7])), .int .i64 (fL (X ++ [7])), .int .i64 4, .int .u32 s, .int .u32 d, .slice Ao1 (optL (X ++ [7])).length co1] 55) = w6 at *
  generalize hG : w5.heap.size = G at *
  clear hG
  have c5' : w6.cell? ⟨G, 5, none⟩ = some (.int .i64 4) := hq.cellv 5 rfl
  have c6' : w6.cell? ⟨G, 6, none⟩ = some (.int .u32 s) := hq.cellv 6 rfl
  have c7' : w6.cell? ⟨G, 7, none⟩ = some (.int .u32 d) := hq.cellv 7 rfl
  have ltG := hq.lt
  have g1 : decide ((N : Int) < 20) = false := by rw [decide_eq_false_iff_not]; omega
  have g2 : decide (n < N) = false := by rw [decide_eq_false_iff_not]; omega
  -- region 9: 0 1 2 3 4 5 6 7 8 9 10 11 12 13 14 15 16 17 18 19 20 21 22 23 24 25 26 27 28 29 30 31 32 33 34 35 36 37
  try refine wp_region_noPanic ?_
  have hs1r : Below w6.heap.size w6 w6.drew := (Below.refl _ _).drew
  refine wp_region_held_drew (S := fun w' => Below w6.heap.size w6 w') (by kernel_rfl) hs1r (fun _ => ?_)
  (refine held_takeA 0 (by rfl) ?_ (by kernel_rfl) (fun _ _ _ h => h) hs1r ?_ ?_; rotate_left; (focus (intro wq hSw; have hrd : ∀ b o, b < w6.heap.size → wq.cell? ⟨b, o, none⟩ = w6.cell? ⟨b, o, none⟩ := (fun b o h => hSw.cell (p := ⟨b, o, none⟩) h); go_simp; try with_reducible rfl; done)); try simp only [Act.put, List.setIfInBounds_toArray, List.set_cons_zero, List.set_cons_succ])
  (refine held_takeA 1 (by rfl) ?_ (by kernel_rfl) (fun _ _ _ h => h) hs1r ?_ ?_; rotate_left; (focus (intro wq hSw; have hrd : ∀ b o, b < w6.heap.size → wq.cell? ⟨b, o, none⟩ = w6.cell? ⟨b, o, none⟩ := (fun b o h => hSw.cell (p := ⟨b, o, none⟩) h); go_simp; try with_reducible rfl; done)); try simp only [Act.put, List.setIfInBounds_toArray, List.set_cons_zero, List.set_cons_succ])
  (refine held_takeA 2 (by rfl) ?_ (by kernel_rfl) (fun _ _ _ h => h) hs1r ?_ ?_; rotate_left; (focus (intro wq hSw; have hrd : ∀ b o, b < w6.heap.size → wq.cell? ⟨b, o, none⟩ = w6.cell? ⟨b, o, none⟩ := (fun b o h => hSw.cell (p := ⟨b, o, none⟩) h); go_simp; try with_reducible rfl; done)); try simp only [Act.put, List.setIfInBounds_toArray, List.set_cons_zero, List.set_cons_succ])
  (refine held_takeA 3 (by rfl) ?_ (by kernel_rfl) (fun _ _ _ h => h) hs1r ?_ ?_; rotate_left; (focus (intro wq hSw; have hrd : ∀ b o, b < w6.heap.size → wq.cell? ⟨b, o, none⟩ = w6.cell? ⟨b, o, none⟩ := (fun b o h => hSw.cell (p := ⟨b, o, none⟩) h); go_simp; try with_reducible rfl; done)); try simp only [Act.put, List.setIfInBounds_toArray, List.set_cons_zero, List.set_cons_succ])
  (refine held_takeA 4 (by rfl) ?_ (by kernel_rfl) (fun _ _ _ h => h) hs1r ?_ ?_; rotate_left; (focus (intro wq hSw; have hrd : ∀ b o, b < w6.heap.size → wq.cell? ⟨b, o, none⟩ = w6.cell? ⟨b, o, none⟩ := (fun b o h => hSw.cell (p := ⟨b, o, none⟩) h); go_simp; try with_reducible rfl; done)); try simp only [Act.put, List.setIfInBounds_toArray, List.set_cons_zero, List.set_cons_succ])
  (refine held_takeA 5 (by rfl) ?_ (by kernel_rfl) (fun _ _ _ h => h) hs1r ?_ ?_; rotate_left; (focus (intro wq hSw; have hrd : ∀ b o, b < w6.heap.size → wq.cell? ⟨b, o, none⟩ = w6.cell? ⟨b, o, none⟩ := (fun b o h => hSw.cell (p := ⟨b, o, none⟩) h); go_simp; try with_reducible rfl; done)); try simp only [Act.put, List.setIfInBounds_toArray, List.set_cons_zero, List.set_cons_succ])
  (refine held_takeA 6 (by rfl) ?_ (by kernel_rfl) (fun _ _ _ h => h) hs1r ?_ ?_; rotate_left; (focus (intro wq hSw; have hrd : ∀ b o, b < w6.heap.size → wq.cell? ⟨b, o, none⟩ = w6.cell? ⟨b, o, none⟩ := (fun b o h => hSw.cell (p := ⟨b, o, none⟩) h); go_simp; try with_reducible rfl; done)); try simp only [Act.put, List.setIfInBounds_toArray, List.set_cons_zero, List.set_cons_succ])
  (refine held_takeA 7 (by rfl) ?_ (by kernel_rfl) (fun _ _ _ h => h) hs1r ?_ ?_; rotate_left; (focus (intro wq hSw; have hrd : ∀ b o, b < w6.heap.size → wq.cell? ⟨b, o, none⟩ = w6.cell? ⟨b, o, none⟩ := (fun b o h => hSw.cell (p := ⟨b, o, none⟩) h); go_simp; try with_reducible rfl; done)); try simp only [Act.put, List.setIfInBounds_toArray, List.set_cons_zero, List.set_cons_succ])
  (refine held_takeA 8 (by rfl) ?_ (by kernel_rfl) (fun _ _ _ h => h) hs1r ?_ ?_; rotate_left; (focus (intro wq hSw; have hrd : ∀ b o, b < w6.heap.size → wq.cell? ⟨b, o, none⟩ = w6.cell? ⟨b, o, none⟩ := (fun b o h => hSw.cell (p := ⟨b, o, none⟩) h); go_simp; try with_reducible rfl; done)); try simp only [Act.put, List.setIfInBounds_toArray, List.set_cons_zero, List.set_cons_succ])
  (refine held_takeA 9 (by rfl) ?_ (by kernel_rfl) (fun _ _ _ h => h) hs1r ?_ ?_; rotate_left; (focus (intro wq hSw; have hrd : ∀ b o, b < w6.heap.size → wq.cell? ⟨b, o, none⟩ = w6.cell? ⟨b, o, none⟩ := (fun b o h => hSw.cell (p := ⟨b, o, none⟩) h); go_simp; try with_reducible rfl; done)); try simp only [Act.put, List.setIfInBounds_toArray, List.set_cons_zero, List.set_cons_succ])
  (refine held_takeA 10 (by rfl) ?_ (by kernel_rfl) (fun _ _ _ h => h) hs1r ?_ ?_; rotate_left; (focus (intro wq hSw; have hrd : ∀ b o, b < w6.heap.size → wq.cell? ⟨b, o, none⟩ = w6.cell? ⟨b, o, none⟩ := (fun b o h => hSw.cell (p := ⟨b, o, none⟩) h); go_simp; try with_reducible rfl; done)); try simp only [Act.put, List.setIfInBounds_toArray, List.set_cons_zero, List.set_cons_succ])
  (refine held_takeA 11 (by rfl) ?_ (by kernel_rfl) (fun _ _ _ h => h) hs1r ?_ ?_; rotate_left; (focus (intro wq hSw; have hrd : ∀ b o, b < w6.heap.size → wq.cell? ⟨b, o, none⟩ = w6.cell? ⟨b, o, none⟩ := (fun b o h => hSw.cell (p := ⟨b, o, none⟩) h); go_simp; try with_reducible rfl; done)); try simp only [Act.put, List.setIfInBounds_toArray, List.set_cons_zero, List.set_cons_succ])
  (refine held_takeA 12 (by rfl) ?_ (by kernel_rfl) (fun _ _ _ h => h) hs1r ?_ ?_; rotate_left; (focus (intro wq hSw; have hrd : ∀ b o, b < w6.heap.size → wq.cell? ⟨b, o, none⟩ = w6.cell? ⟨b, o, none⟩ := (fun b o h => hSw.cell (p := ⟨b, o, none⟩) h); go_simp; try with_reducible rfl; done)); try simp only [Act.put, List.setIfInBounds_toArray, List.set_cons_zero, List.set_cons_succ])
  (refine held_takeA 13 (by rfl) ?_ (by kernel_rfl) (fun _ _ _ h => h) hs1r ?_ ?_; rotate_left; (focus (intro wq hSw; have hrd : ∀ b o, b < w6.heap.size → wq.cell? ⟨b, o, none⟩ = w6.cell? ⟨b, o, none⟩ := (fun b o h => hSw.cell (p := ⟨b, o, none⟩) h); go_simp; try with_reducible rfl; done)); try simp only [Act.put, List.setIfInBounds_toArray, List.set_cons_zero, List.set_cons_succ])
  (refine held_takeA 14 (by rfl) ?_ (by kernel_rfl) (fun _ _ _ h => h) hs1r ?_ ?_; rotate_left; (focus (intro wq hSw; have q := run_str wq (by5.below hSw) c5; go_simp; try with_reducible rfl; done)); simp only [Act.put, List.setIfInBounds_toArray, List.set_cons_zero, List.set_cons_succ])
  (refine held_takeA 15 (by rfl) ?_ (by kernel_rfl) (fun _ _ _ h => h) hs1r ?_ ?_; rotate_left; (focus (intro wq hSw; have hrd : ∀ b o, b < w6.heap.size → wq.cell? ⟨b, o, none⟩ = w6.cell? ⟨b, o, none⟩ := (fun b o h => hSw.cell (p := ⟨b, o, none⟩) h); go_simp; try with_reducible rfl; done)); try simp only [Act.put, List.setIfInBounds_toArray, List.set_cons_zero, List.set_cons_succ])
  (refine held_takeA 16 (by rfl) ?_ (by kernel_rfl) (fun _ _ _ h => h) hs1r ?_ ?_; rotate_left; (focus (intro wq hSw; have hrd : ∀ b o, b < w6.heap.size → wq.cell? ⟨b, o, none⟩ = w6.cell? ⟨b, o, none⟩ := (fun b o h => hSw.cell (p := ⟨b, o, none⟩) h); go_simp; try with_reducible rfl; done)); try simp only [Act.put, List.setIfInBounds_toArray, List.set_cons_zero, List.set_cons_succ])
  (refine held_takeA 17 (by rfl) ?_ (by kernel_rfl) (fun _ _ _ h => h) hs1r ?_ ?_; rotate_left; (focus (intro wq hSw; have q := hsl3 wq; go_simp; try with_reducible rfl; done)); simp only [Act.put, List.setIfInBounds_toArray, List.set_cons_zero, List.set_cons_succ])
  (refine held_takeA 18 (by rfl) ?_ (by kernel_rfl) (fun _ _ _ h => h) hs1r ?_ ?_; rotate_left; (focus (intro wq hSw; have q := run_str wq ((hby3 _ _ _ hI).below hSw) c; go_simp; try with_reducible rfl; done)); simp only [Act.put, List.setIfInBounds_toArray, List.set_cons_zero, List.set_cons_succ])
  (refine held_takeA 19 (by rfl) ?_ (by kernel_rfl) (fun _ _ _ h => h) hs1r ?_ ?_; rotate_left; (focus (intro wq hSw; have hrd : ∀ b o, b < w6.heap.size → wq.cell? ⟨b, o, none⟩ = w6.cell? ⟨b, o, none⟩ := (fun b o h => hSw.cell (p := ⟨b, o, none⟩) h); go_simp; try with_reducible rfl; done)); try simp only [Act.put, List.setIfInBounds_toArray, List.set_cons_zero, List.set_cons_succ])
  (refine held_takeA 20 (by rfl) ?_ (by kernel_rfl) (fun _ _ _ h => h) hs1r ?_ ?_; rotate_left; (focus (intro wq hSw; have hrd : ∀ b o, b < w6.heap.size → wq.cell? ⟨b, o, none⟩ = w6.cell? ⟨b, o, none⟩ := (fun b o h => hSw.cell (p := ⟨b, o, none⟩) h); go_simp; try with_reducible rfl; done)); try simp only [Act.put, List.setIfInBounds_toArray, List.set_cons_zero, List.set_cons_succ])
  (refine held_takeA 21 (by rfl) ?_ (by kernel_rfl) (fun _ _ _ h => h) hs1r ?_ ?_; rotate_left; (focus (intro wq hSw; have hrd : ∀ b o, b < w6.heap.size → wq.cell? ⟨b, o, none⟩ = w6.cell? ⟨b, o, none⟩ := (fun b o h => hSw.cell (p := ⟨b, o, none⟩) h); go_simp; try with_reducible rfl; done)); try simp only [Act.put, List.setIfInBounds_toArray, List.set_cons_zero, List.set_cons_succ])
  (refine held_takeA 22 (by rfl) ?_ (by kernel_rfl) (fun _ _ _ h => h) hs1r ?_ ?_; rotate_left; (focus (intro wq hSw; have hrd : ∀ b o, b < w6.heap.size → wq.cell? ⟨b, o, none⟩ = w6.cell? ⟨b, o, none⟩ := (fun b o h => hSw.cell (p := ⟨b, o, none⟩) h); go_simp; try with_reducible rfl; done)); try simp only [Act.put, List.setIfInBounds_toArray, List.set_cons_zero, List.set_cons_succ])
  (refine held_takeA 23 (by rfl) ?_ (by kernel_rfl) (fun _ _ _ h => h) hs1r ?_ ?_; rotate_left; (focus (intro wq hSw; have hrd : ∀ b o, b < w6.heap.size → wq.cell? ⟨b, o, none⟩ = w6.cell? ⟨b, o, none⟩ := (fun b o h => hSw.cell (p := ⟨b, o, none⟩) h); go_simp; try with_reducible rfl; done)); try simp only [Act.put, List.setIfInBounds_toArray, List.set_cons_zero, List.set_cons_succ])
  (refine held_takeA 24 (by rfl) ?_ (by kernel_rfl) (fun _ _ _ h => h) hs1r ?_ ?_; rotate_left; (focus (intro wq hSw; have hrd : ∀ b o, b < w6.heap.size → wq.cell? ⟨b, o, none⟩ = w6.cell? ⟨b, o, none⟩ := (fun b o h => hSw.cell (p := ⟨b, o, none⟩) h); go_simp; try with_reducible rfl; done)); try simp only [Act.put, List.setIfInBounds_toArray, List.set_cons_zero, List.set_cons_succ])
  (refine held_takeA 25 (by rfl) ?_ (by kernel_rfl) (fun _ _ _ h => h) hs1r ?_ ?_; rotate_left; (focus (intro wq hSw; have hrd : ∀ b o, b < w6.heap.size → wq.cell? ⟨b, o, none⟩ = w6.cell? ⟨b, o, none⟩ := (fun b o h => hSw.cell (p := ⟨b, o, none⟩) h); go_simp; try with_reducible rfl; done)); try simp only [Act.put, List.setIfInBounds_toArray, List.set_cons_zero, List.set_cons_succ])
  (refine held_takeA 26 (by rfl) ?_ (by kernel_rfl) (fun _ _ _ h => h) hs1r ?_ ?_; rotate_left; (focus (intro wq hSw; have hrd : ∀ b o, b < w6.heap.size → wq.cell? ⟨b, o, none⟩ = w6.cell? ⟨b, o, none⟩ := (fun b o h => hSw.cell (p := ⟨b, o, none⟩) h); go_simp; try with_reducible rfl; done)); try simp only [Act.put, List.setIfInBounds_toArray, List.set_cons_zero, List.set_cons_succ])
  (refine held_takeA 27 (by rfl) ?_ (by kernel_rfl) (fun _ _ _ h => h) hs1r ?_ ?_; rotate_left; (focus (intro wq hSw; have hrd : ∀ b o, b < w6.heap.size → wq.cell? ⟨b, o, none⟩ = w6.cell? ⟨b, o, none⟩ := (fun b o h => hSw.cell (p := ⟨b, o, none⟩) h); go_simp; try with_reducible rfl; done)); try simp only [Act.put, List.setIfInBounds_toArray, List.set_cons_zero, List.set_cons_succ])
  (refine held_takeA 28 (by rfl) ?_ (by kernel_rfl) (fun _ _ _ h => h) hs1r ?_ ?_; rotate_left; (focus (intro wq hSw; have hrd : ∀ b o, b < w6.heap.size → wq.cell? ⟨b, o, none⟩ = w6.cell? ⟨b, o, none⟩ := (fun b o h => hSw.cell (p := ⟨b, o, none⟩) h); go_simp; try with_reducible rfl; done)); try simp only [Act.put, List.setIfInBounds_toArray, List.set_cons_zero, List.set_cons_succ])
  (refine held_takeA 29 (by rfl) ?_ (by kernel_rfl) (fun _ _ _ h => h) hs1r ?_ ?_; rotate_left; (focus (intro wq hSw; have hrd : ∀ b o, b < w6.heap.size → wq.cell? ⟨b, o, none⟩ = w6.cell? ⟨b, o, none⟩ := (fun b o h => hSw.cell (p := ⟨b, o, none⟩) h); go_simp; try with_reducible rfl; done)); try simp only [Act.put, List.setIfInBounds_toArray, List.set_cons_zero, List.set_cons_succ])
  (refine held_takeA 30 (by rfl) ?_ (by kernel_rfl) (fun _ _ _ h => h) hs1r ?_ ?_; rotate_left; (focus (intro wq hSw; have hrd : ∀ b o, b < w6.heap.size → wq.cell? ⟨b, o, none⟩ = w6.cell? ⟨b, o, none⟩ := (fun b o h => hSw.cell (p := ⟨b, o, none⟩) h); go_simp; try with_reducible rfl; done)); try simp only [Act.put, List.setIfInBounds_toArray, List.set_cons_zero, List.set_cons_succ])
  (refine held_takeA 31 (by rfl) ?_ (by kernel_rfl) (fun _ _ _ h => h) hs1r ?_ ?_; rotate_left; (focus (intro wq hSw; have hrd : ∀ b o, b < w6.heap.size → wq.cell? ⟨b, o, none⟩ = w6.cell? ⟨b, o, none⟩ := (fun b o h => hSw.cell (p := ⟨b, o, none⟩) h); go_simp; try with_reducible rfl; done)); try simp only [Act.put, List.setIfInBounds_toArray, List.set_cons_zero, List.set_cons_succ])
  (refine held_takeA 32 (by rfl) ?_ (by kernel_rfl) (fun _ _ _ h => h) hs1r ?_ ?_; rotate_left; (focus (intro wq hSw; have hrd : ∀ b o, b < w6.heap.size → wq.cell? ⟨b, o, none⟩ = w6.cell? ⟨b, o, none⟩ := (fun b o h => hSw.cell (p := ⟨b, o, none⟩) h); go_simp; try with_reducible rfl; done)); try simp only [Act.put, List.setIfInBounds_toArray, List.set_cons_zero, List.set_cons_succ])
  (refine held_takeA 33 (by rfl) ?_ (by kernel_rfl) (fun _ _ _ h => h) hs1r ?_ ?_; rotate_left; (focus (intro wq hSw; have hrd : ∀ b o, b < w6.heap.size → wq.cell? ⟨b, o, none⟩ = w6.cell? ⟨b, o, none⟩ := (fun b o h => hSw.cell (p := ⟨b, o, none⟩) h); go_simp; try with_reducible rfl; done)); try simp only [Act.put, List.setIfInBounds_toArray, List.set_cons_zero, List.set_cons_succ])
  (refine held_takeA 34 (by rfl) ?_ (by kernel_rfl) (fun _ _ _ h => h) hs1r ?_ ?_; rotate_left; (focus (intro wq hSw; have hrd : ∀ b o, b < w6.heap.size → wq.cell? ⟨b, o, none⟩ = w6.cell? ⟨b, o, none⟩ := (fun b o h => hSw.cell (p := ⟨b, o, none⟩) h); go_simp; try with_reducible rfl; done)); try simp only [Act.put, List.setIfInBounds_toArray, List.set_cons_zero, List.set_cons_succ])
  (refine held_takeA 35 (by rfl) ?_ (by kernel_rfl) (fun _ _ _ h => h) hs1r ?_ ?_; rotate_left; (focus (intro wq hSw; have hrd : ∀ b o, b < w6.heap.size → wq.cell? ⟨b, o, none⟩ = w6.cell? ⟨b, o, none⟩ := (fun b o h => hSw.cell (p := ⟨b, o, none⟩) h); go_simp; try with_reducible rfl; done)); try simp only [Act.put, List.setIfInBounds_toArray, List.set_cons_zero, List.set_cons_succ])
  (refine held_takeA 36 (by rfl) ?_ (by kernel_rfl) (fun _ _ _ h => h) hs1r ?_ ?_; rotate_left; (focus (intro wq hSw; have hrd : ∀ b o, b < w6.heap.size → wq.cell? ⟨b, o, none⟩ = w6.cell? ⟨b, o, none⟩ := (fun b o h => hSw.cell (p := ⟨b, o, none⟩) h); go_simp; try with_reducible rfl; done)); try simp only [Act.put, List.setIfInBounds_toArray, List.set_cons_zero, List.set_cons_succ])
  (refine held_takeA 37 (by rfl) ?_ (by kernel_rfl) (fun _ _ _ h => h) hs1r ?_ ?_; rotate_left; (focus (intro wq hSw; have hrd : ∀ b o, b < w6.heap.size → wq.cell? ⟨b, o, none⟩ = w6.cell? ⟨b, o, none⟩ := (fun b o h => hSw.cell (p := ⟨b, o, none⟩) h); go_simp; try with_reducible rfl; done)); try simp only [Act.put, List.setIfInBounds_toArray, List.set_cons_zero, List.set_cons_succ])
  refine wpAnyH_done (by kernel_rfl) ?_ _
  try refine NoPanic.normal ?_
  replace hI : Byt w6.drew w6.drew.heap.size A n l := hI.drew
  replace by1 : Byt w6.drew w6.drew.heap.size A1 (20 + N) X := by1.drew
  replace hB := hB.drew
  clear by5 hq c5' c6' c7' ltG
  generalize w6.drew = w7 at *
  go_wp2_with fail
  refine (depth_any w7 A n c l hI hc hc2 hn).mono ?_
  rintro e w8 ⟨rfl, hb8⟩
  replace by1 := by1.nx hb8
  replace hB := hB.trans (hb8.mono hB.size)
  clear hI hb8
  generalize hdd : depthF 8 l = D at *
  have hux : (unwE X == 0) = true := by simpa using hwu0.out.1
  clear hdd g1 g2 by4
  by_cases h8 : D = 8
  · have hx : depthF 8 X = 8 := by have := hwd.out; rwa [if_pos h8] at this
    subst h8
    go_wp2_with fail
    refine (depth_any w8 A1 _ c1 X by1 hc1 hcm1 (by omega)).mono ?_
    rintro e w9 ⟨rfl, hb9⟩
    rw [hx]
    replace by1 := by1.nx hb9
    replace hB := hB.trans (hb9.mono hB.size)
    clear hb9
    go_wp2_with fail
    refine (is_any w9 A1 _ c1 X by1 hc1 hcm1 (by omega)).mono ?_
    rintro e w10 ⟨rfl, hb10⟩
    rw [hux]
    replace hB := hB.trans (hb10.mono hB.size)
    clear hb10
    go_wp2_with fail
    refine (lives6_any _).mono ?_
    rintro e w11 ⟨rfl, hb11⟩
    replace hB := hB.trans (hb11.mono hB.size)
    go_wp2_with fail
    go_ret
    exact ⟨rfl, hB⟩
  · have hx : ((depthF 8 X : Nat) : Int) = (D : Int) + 1 := by have := hwd.out; rw [if_neg h8] at this; omega
    have d8 : ((D : Int) == 8) = false := by rw [beq_eq_false_iff_ne]; omega
    have d9 : (D == 8) = false := by rw [beq_eq_false_iff_ne]; omega
    have d7 : (D : Int) ≤ 7 := by omega
    go_wp2_with fail
    refine (depth_any w8 A1 _ c1 X by1 hc1 hcm1 (by omega)).mono ?_
    rintro e w9 ⟨rfl, hb9⟩
    rw [hx]
    replace by1 := by1.nx hb9
    replace hB := hB.trans (hb9.mono hB.size)
    clear hb9
    go_wp2_with fail
    refine (is_any w9 A1 _ c1 X by1 hc1 hcm1 (by omega)).mono ?_
    rintro e w10 ⟨rfl, hb10⟩
    rw [hux]
    replace hB := hB.trans (hb10.mono hB.size)
    clear hb10
    go_wp2_with fail
    refine (lives6_any _).mono ?_
    rintro e w11 ⟨rfl, hb11⟩
    replace hB := hB.trans (hb11.mono hB.size)
    go_wp2_with fail
    go_ret
    exact ⟨rfl, hB⟩
end Go.Proofs.Ytnjbnnceeecekaa
