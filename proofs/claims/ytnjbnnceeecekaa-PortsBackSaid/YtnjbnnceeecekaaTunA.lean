/- tunnel: alone, Wrap. -/
import Derived.Test.YtnjbnnceeecekaaPrtC
namespace Go.Proofs.Ytnjbnnceeecekaa
set_option linter.unusedVariables false
open Go.RowKit

theorem and2_bd (n : Int) : 0 ≤ bits .and .i64 n 2 ∧ bits .and .i64 n 2 ≤ 2 := by
  have e : bits .and .i64 n 2 = ((BitVec.ofInt 64 n &&& BitVec.ofInt 64 2).toNat : Int) := by
    show IntKind.i64.wrap ((BitVec.ofInt 64 n &&& BitVec.ofInt 64 2).toNat : Int) = _
    have h : (BitVec.ofInt 64 n &&& BitVec.ofInt 64 2).toNat ≤ 2 := by
      rw [BitVec.toNat_and]; exact Nat.and_le_right
    rw [IntKind.wrap_i64]; omega
  have h : (BitVec.ofInt 64 n &&& BitVec.ofInt 64 2).toNat ≤ 2 := by
    rw [BitVec.toNat_and]; exact Nat.and_le_right
  omega
def flagW (l : List UInt8) : Int := bits .and .i64 (fF l) 2
def wrapE (l : List UInt8) : Int := if errV l ≠ 0 then errV l else if 8980 < lnK l then 10 else 0
def wrapL (l : List UInt8) (s d : Int) : List UInt8 := if errV l ≠ 0 then [] else buildL (fT l) (fI l) (flagW l) 0 64 4 s d [] (l.take (lnK l).toNat)
theorem wrap_good {l : List UInt8} (h : errV l = 0) : goodH (fT l) (fI l) (flagW l) 0 64 4 0 = true := by
  have h2 := and2_bd (fF l)
  have e1 := (errV_ok h).1
  have ht : 0 ≤ fT l ∧ fT l ≤ 255 := by
    unfold fT pT; rw [if_pos h]
    exact ⟨numV_lo _ _, by unfold numV; split; omega; simp only [getN]; have := byAt_hi (tk (stp (hdL l) 1) ((1 : Nat) : Int)).2 0; omega⟩
  have hi : 0 ≤ fI l ∧ fI l ≤ 65535 := by
    unfold fI pI; rw [if_pos h]
    exact ⟨numV_lo _ _, by unfold numV; split; omega; exact getN_2 _ _ (by omega)⟩
  simp [goodH, inH, flagW]
  exact ⟨⟨ht, hi⟩, decide_eq_true h2.1, decide_eq_true (by omega)⟩
theorem take_ln_len {l : List UInt8} (h : errV l = 0) : (l.take (lnK l).toNat).length = (lnK l).toNat := by
  have := errV_ok h
  rw [List.length_take]; omega
set_option maxHeartbeats 1000000 in
theorem alone_any (w : World) (A : Option Addr) (n c : Nat) (l : List UInt8) (h : Byt w w.heap.size A n l) (hc : n ≤ c) (hc2 : c ≤ maxLen) (hn : n ≤ 10000000) (he : errV l = 0) :
    Calls Try.prog 39 #[.slice A n c] w fun e w' => ∃ v, e = .returned v ∧ OwnB w' w.heap.size v (lnK l).toNat (l.take (lnK l).toNat) ∧ Below w.heap.size w w' := by
  obtain ⟨e1, e2, e3, e4, e5, e6, e7, e8⟩ := errV_ok he
  have hl := h.1
  have hgv := getV_lnK l e1
  have hfi : fitsB n 2 2 = true := (fitsB_iff _ _ _).2 ⟨by omega, by omega⟩
  have hln : ((lnK l).toNat : Int) = lnK l := by omega
  obtain ⟨A1, hsl, hby⟩ := slice_take3 A n c (lnK l).toNat (by omega) hc
  rw [hln] at hsl
  have hb := hby w _ l h
  replace hgv := Lib.hid hgv
  replace hln := Lib.hid hln
  replace hl := Lib.hid hl
  replace e8 := Lib.hid e8
  replace he := Lib.hid he
  replace e2 := Lib.hid e2
  go_enter Try.func39, Try.ntmps39
  go_wp2_with fail
  refine (get16_any w A n c l _ h hc hc2 2 (by omega)).mono ?_
  rintro e w' ⟨rfl, rfl⟩
  rw [hgv.out, hfi]
  go_wp2_with fail
  refine (clone_any w A1 _ _ _ _ hb (Nat.le_refl _) (by omega)).mono ?_
  rintro e w1 ⟨v, rfl, own, hb1⟩
  go_wp2_with fail
  go_ret
  exact ⟨v, rfl, own, hb1⟩
set_option maxRecDepth 100000 in
set_option maxHeartbeats 4000000 in
theorem wrap_any (w : World) (A : Option Addr) (n c : Nat) (l : List UInt8) (h : Byt w w.heap.size A n l) (hc : n ≤ c) (hc2 : c ≤ maxLen) (hn : n ≤ 10000000) (s d : Int) (s0 : 0 ≤ s) (s1 : s ≤ 4294967295) (d0 : 0 ≤ d) (d1 : d ≤ 4294967295) :
    Calls Try.prog 20 #[.slice A n c, .int .u32 s, .int .u32 d] w fun e w' => ∃ v, e = .returned (.tuple #[v, .int .i64 (wrapE l)]) ∧ OwnB w' w.heap.size v (wrapL l s d).length (wrapL l s d) ∧ Below w.heap.size w w' := by
  have hi : (Try.prog.info? 55).map (·.size) = some 9 := by kernel_rfl
  go_enter Try.func20, Try.ntmps20
  go_wp2_with fail
  refine (ipParse_any _ A n c l h hc hc2 hn).mono ?_
  rintro e w1 ⟨vo, vp, rfl, owno, ownp, hb1⟩
  unfold parsed
  obtain ⟨Ap, cp, rfl, _, _, _⟩ := ownp.any
  obtain ⟨Ao, co, rfl, _, _, _⟩ := owno.any
  clear owno ownp
  have hB := hb1.alloc hb1.size (.cells #[.int .i64 (fT l), .int .i64 (fI l), .int .i64 (fF l), .int .i64 (fG l), .int .i64 (fL l), .int .i64 (fP l), .int .u32 (fS l), .int .u32 (fD l), .slice Ao (optL l).length co] 55)
  by_cases he : errV l = 0
  rotate_left
  · have hb : (errV l != 0) = true := by simpa using he
    have e1 : wrapE l = errV l := if_pos he
    have e2 : [] = wrapL l s d := (if_pos he).symm
    replace he := Lib.hid he
    replace e1 := Lib.hid e1
    replace e2 := Lib.hid e2
    go_wp2_with fail
    go_ret2
    exact ⟨_, tuple2 e1.out.symm, (OwnB.nil _ _).fit e2.out, hB⟩
  rw [he]
  have hgd := wrap_good he
  have e2 : wrapL l s d = buildL (fT l) (fI l) (flagW l) 0 64 4 s d [] (l.take (lnK l).toNat) := if_neg (by simpa using he)
  have htl := take_ln_len he
  have hln := errV_ok he
  have hlnK : 0 ≤ lnK l ∧ lnK l ≤ 9000 := by omega
  clear hln
  have hlow : wrapE l = if 8980 < lnK l then 10 else 0 := if_neg (by simpa using he)
  replace e2 := Lib.hid e2
  replace htl := Lib.hid htl
  replace hlow := Lib.hid hlow
  replace hgd := Lib.hid hgd
  have he' := Lib.hid he
  clear he
  have hw : bits .and .i64 (fF l) 2 = flagW l := rfl
  go_wp2_with fail
  clear hw
  have hB2 := hB.alloc hB.size (.cells #[.int .i64 (fT l), .int .i64 (fI l), .int .i64 (flagW l), .int .i64 0, .int .i64 64, .int .i64 4, .int .u32 s, .int .u32 d, .slice none 0 0] 55)
  have hq2 := Blk.new (w1.alloc (.cells #[.int .i64 (fT l), .int .i64 (fI l), .int .i64 (fF l), .int .i64 (fG l), .int .i64 (fL l), .int .i64 (fP l), .int .u32 (fS l), .int .u32 (fD l), .slice Ao (optL l).length co] 55)) 55 #[.int .i64 (fT l), .int .i64 (fI l), .int .i64 (flagW l), .int .i64 0, .int .i64 64, .int .i64 4, .int .u32 s, .int .u32 d, .slice none 0 0]
  generalize (w1.alloc (.cells #[.int .i64 (fT l), .int .i64 (fI l), .int .i64 (fF l), .int .i64 (fG l), .int .i64 (fL l), .int .i64 (fP l), .int .u32 (fS l), .int .u32 (fD l), .slice Ao (optL l).length co] 55)).alloc (.cells #[.int .i64 (fT l), .int .i64 (fI l), .int .i64 (flagW l), .int .i64 0, .int .i64 64, .int .i64 4, .int .u32 s, .int .u32 d, .slice none 0 0] 55) = w2 at *
  rw [World.size_alloc] at hq2 
  have hz2 := hB2.size
  -- region 5: 0 1 2C 3C 4
  try refine wp_region_noPanic ?_
  have hs1r : Below w2.heap.size w2 w2.drew := (Below.refl _ _).drew
  refine wp_region_held_drew (S := fun w' => Below w2.heap.size w2 w') (by kernel_rfl) hs1r (fun _ => ?_)
  (refine held_takeA 0 (by rfl) ?_ (by kernel_rfl) (fun _ _ _ h => h) hs1r ?_ ?_; rotate_left; (focus (intro wq hSw; refine exec_load_blk (x := .tmp 11) ?_ ?_ (hq2.below hSw hq2.lt) _ Try.underlying55 rfl (by kernel_rfl) <;> rfl)); simp only [Act.put, List.setIfInBounds_toArray, List.set_cons_zero, List.set_cons_succ])
  (refine held_takeA 1 (by rfl) ?_ (by kernel_rfl) (fun _ _ _ h => h) hs1r ?_ ?_; rotate_left; (focus (intro wq hSw; have hrd : ∀ b o, b < w2.heap.size → wq.cell? ⟨b, o, none⟩ = w2.cell? ⟨b, o, none⟩ := (fun b o h => hSw.cell (p := ⟨b, o, none⟩) h); go_simp; try with_reducible rfl; done)); try simp only [Act.put, List.setIfInBounds_toArray, List.set_cons_zero, List.set_cons_succ])
  refine held_callA 2 (by rfl) (by kernel_rfl) (by rfl) (fun KQ hKQ => ?_)
  go_simp
  refine (alone_any w2.drew A n c l (((h.below hB2).more hz2).drew) hc hc2 hn he'.out).mono ?_
  rintro e w3 ⟨v3, rfl, own3, hb3⟩
  obtain ⟨A3, c3, rfl, _, by3, _⟩ := own3.any
  clear own3
  refine hKQ.out _ _ (hs1r.trans hb3) (held_mono (S' := fun w' => Below w3.heap.size w3 w') (fun w' h => (hs1r.trans hb3).trans (h.mono (hs1r.trans hb3).size)) _ _ _ _ ?_)
  clear hKQ KQ
  replace hq2 := hq2.below (hs1r.trans hb3) hq2.lt
  replace hB2 := hB2.trans ((hs1r.trans hb3).mono hB2.size)
  have hs2r : Below w3.heap.size w3 w3 := Below.refl _ _
  try simp only [Act.put, List.setIfInBounds_toArray, List.set_cons_zero, List.set_cons_succ]
  refine held_callA 3 (by rfl) (by kernel_rfl) (by rfl) (fun KQ hKQ => ?_)
  go_simp
  by_cases hbig : 8980 < lnK l
  · refine (build_no (fT l) (fI l) (flagW l) 0 64 4 s d none 0 0 A3 _ c3 w3 (by omega) (by omega) (.inr (by omega))).mono ?_
    rintro e w4 ⟨rfl, hb4⟩
    refine hKQ.out _ _ (hs2r.trans hb4) (held_mono (S' := fun w' => Below w4.heap.size w4 w') (fun w' h => (hs2r.trans hb4).trans (h.mono (hs2r.trans hb4).size)) _ _ _ _ ?_)
    clear hKQ KQ
    replace hq2 := hq2.below (hs2r.trans hb4) hq2.lt
    replace hB2 := hB2.trans ((hs2r.trans hb4).mono hB2.size)
    have hs3r : Below w4.heap.size w4 w4 := Below.refl _ _
    try simp only [Act.put, List.setIfInBounds_toArray, List.set_cons_zero, List.set_cons_succ]
    (refine held_takeA 4 (by rfl) ?_ (by kernel_rfl) (fun _ _ _ h => h) hs3r ?_ ?_; rotate_left; (focus (intro wq hSw; have hrd : ∀ b o, b < w4.heap.size → wq.cell? ⟨b, o, none⟩ = w4.cell? ⟨b, o, none⟩ := (fun b o h => hSw.cell (p := ⟨b, o, none⟩) h); go_simp; try with_reducible rfl; done)); try simp only [Act.put, List.setIfInBounds_toArray, List.set_cons_zero, List.set_cons_succ])
    refine wpAnyH_done (by kernel_rfl) ?_ _
    try refine NoPanic.normal ?_
    have e1 : wrapE l = 10 := by rw [hlow.out, if_pos hbig]
    have e3 : [] = wrapL l s d := by rw [e2.out, buildL_no (by rw [htl.out]; simp; omega)]
    replace e1 := Lib.hid e1
    replace e3 := Lib.hid e3
    have heq := fun w => Go.run_eql_slice_nil (P := Try.prog) w 22 5 none 0 0 Try.underlying22
    go_wp2_with fail
    go_ret2
    exact ⟨_, tuple2 e1.out.symm, (OwnB.nil _ _).fit e3.out, hB2⟩
  · refine (build_yes (fT l) (fI l) (flagW l) 0 64 4 s d none 0 0 [] A3 _ c3 _ w3 hgd.out (by omega) (byt_empty _ _ _) by3 s0 s1 d0 d1).mono ?_
    rintro e w4 ⟨v4, rfl, own4, hb4⟩
    rw [builds_same _ _ _ _ _ _ _ _ _ _ _ _ hgd.out (by omega) rfl] at own4
    have hz3 := hB2.size
    obtain ⟨g4, c4, rfl, _⟩ := own4.form (by omega)
    refine hKQ.out _ _ (hs2r.trans hb4) (held_mono (S' := fun w' => Below w4.heap.size w4 w') (fun w' h => (hs2r.trans hb4).trans (h.mono (hs2r.trans hb4).size)) _ _ _ _ ?_)
    clear hKQ KQ
    replace hq2 := hq2.below (hs2r.trans hb4) hq2.lt
    replace hB2 := hB2.trans ((hs2r.trans hb4).mono hB2.size)
    have hs4r : Below w4.heap.size w4 w4 := Below.refl _ _
    try simp only [Act.put, List.setIfInBounds_toArray, List.set_cons_zero, List.set_cons_succ]
    (refine held_takeA 4 (by rfl) ?_ (by kernel_rfl) (fun _ _ _ h => h) hs4r ?_ ?_; rotate_left; (focus (intro wq hSw; have hrd : ∀ b o, b < w4.heap.size → wq.cell? ⟨b, o, none⟩ = w4.cell? ⟨b, o, none⟩ := (fun b o h => hSw.cell (p := ⟨b, o, none⟩) h); go_simp; try with_reducible rfl; done)); try simp only [Act.put, List.setIfInBounds_toArray, List.set_cons_zero, List.set_cons_succ])
    refine wpAnyH_done (by kernel_rfl) ?_ _
    try refine NoPanic.normal ?_
    have e1 : wrapE l = 0 := by rw [hlow.out, if_neg hbig]
    replace e1 := Lib.hid e1
    have heq := fun w => Go.run_eql_slice_nil (P := Try.prog) w 22 5 (some ⟨g4, 0, none⟩) (20 + 0 + (lnK l).toNat) c4 Try.underlying22
    go_wp2_with fail
    go_ret2
    refine ⟨_, tuple2 e1.out.symm, ?_, hB2⟩
    rw [e2.out, buildL_len hgd.out (by rw [htl.out]; simp; omega), buildL_yes hgd.out (by rw [htl.out]; simp; omega), htl.out]
    exact own4.less hz3
end Go.Proofs.Ytnjbnnceeecekaa
