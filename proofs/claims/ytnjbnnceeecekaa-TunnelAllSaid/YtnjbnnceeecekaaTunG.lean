/- tunnel: the document's whole, Wrap. -/
import Derived.Test.YtnjbnnceeecekaaTunF
namespace Go.Proofs.Ytnjbnnceeecekaa
set_option linter.unusedVariables false
open Go.RowKit

set_option maxRecDepth 100000 in
set_option maxHeartbeats 2000000 in
theorem refWhole_any (w : World) (A : Option Addr) (n c : Nat) (l : List UInt8) (h : Byt w w.heap.size A n l) (hc : n ≤ c) (hc2 : c ≤ maxLen) (hn : n ≤ 10000000) (he : errV l = 0) :
    Calls Try.prog 41 #[.slice A n c] w fun e w' => ∃ v, e = .returned v ∧ OwnB w' w.heap.size v (lnK l).toNat (l.take (lnK l).toNat) ∧ Below w.heap.size w w' := by
  obtain ⟨e1, e2, e3, e4, e5, e6, e7, e8⟩ := errV_ok he
  obtain rfl : l.length = n := h.1
  obtain ⟨b, off, rfl, hb, hcell⟩ := h.2 (by omega)
  have c2 := hcell 2 (by omega)
  have c3 := hcell 3 (by omega)
  have hlz : 256 * byAt l 2 + byAt l 3 = lnK l := rfl
  have b20 := byAt_lo l 2
  have b21 := byAt_hi l 2
  have b30 := byAt_lo l 3
  have b31 := byAt_hi l 3
  have i2 : (2 : Int) < l.length := by omega
  have i3 : (3 : Int) < l.length := by omega
  clear hcell
  have hcutN : ((lnK l).toNat : Int) = lnK l := by omega
  have k3 : (lnK l).toNat ≤ l.length := by omega
  obtain ⟨A2, hsl2, hby2⟩ := slice_take (some ⟨b, off, none⟩) l.length c (lnK l).toNat k3 hc
  rw [hcutN] at hsl2
  have hw1 : IntKind.i64.wrap (byAt l 2) = byAt l 2 := IntWalk.i64_in _ (by omega)
  have hw2 : IntKind.i64.wrap (byAt l 3) = byAt l 3 := IntWalk.i64_in _ (by omega)
  have hw3 : IntKind.i64.wrap (256 * byAt l 2) = 256 * byAt l 2 := IntWalk.i64_in _ (by omega)
  have hw4 : IntKind.i64.wrap (lnK l) = lnK l := IntWalk.i64_in _ (by omega)
  replace hcutN := Lib.hid hcutN
  replace he := Lib.hid he
  replace e2 := Lib.hid e2
  replace e8 := Lib.hid e8
  have hm : (lnK l).toNat ≤ 140737488355328 := by omega
  go_enter Try.func41, Try.ntmps41
  go_wp2_with fail
  -- region 1: 0M 1 2 3 4 5 6 7 8 9 10 11 12 13M 14
  try refine wp_region_noPanic ?_
  have hs1r : Below w.heap.size w w.drew := (Below.refl _ _).drew
  refine wp_region_held_drew (S := fun w' => Below w.heap.size w w') (by kernel_rfl) hs1r (fun _ => ?_)
  (refine held_takeA 1 (by rfl) ?_ (by kernel_rfl) (fun _ _ _ h => h) hs1r ?_ ?_; rotate_left; (focus (intro wq hSw; have hrd : ∀ b o, b < w.heap.size → wq.cell? ⟨b, o, none⟩ = w.cell? ⟨b, o, none⟩ := (fun b o h => hSw.cell (p := ⟨b, o, none⟩) h); go_simp; try with_reducible rfl; done)); try simp only [Act.put, List.setIfInBounds_toArray, List.set_cons_zero, List.set_cons_succ])
  (refine held_takeA 2 (by rfl) ?_ (by kernel_rfl) (fun _ _ _ h => h) hs1r ?_ ?_; rotate_left; (focus (intro wq hSw; have hrd : ∀ b o, b < w.heap.size → wq.cell? ⟨b, o, none⟩ = w.cell? ⟨b, o, none⟩ := (fun b o h => hSw.cell (p := ⟨b, o, none⟩) h); go_simp; try with_reducible rfl; done)); try simp only [Act.put, List.setIfInBounds_toArray, List.set_cons_zero, List.set_cons_succ])
  (refine held_takeA 3 (by rfl) ?_ (by kernel_rfl) (fun _ _ _ h => h) hs1r ?_ ?_; rotate_left; (focus (intro wq hSw; have hrd : ∀ b o, b < w.heap.size → wq.cell? ⟨b, o, none⟩ = w.cell? ⟨b, o, none⟩ := (fun b o h => hSw.cell (p := ⟨b, o, none⟩) h); go_simp; try with_reducible rfl; done)); try simp only [Act.put, List.setIfInBounds_toArray, List.set_cons_zero, List.set_cons_succ])
  (refine held_takeA 4 (by rfl) ?_ (by kernel_rfl) (fun _ _ _ h => h) hs1r ?_ ?_; rotate_left; (focus (intro wq hSw; have hrd : ∀ b o, b < w.heap.size → wq.cell? ⟨b, o, none⟩ = w.cell? ⟨b, o, none⟩ := (fun b o h => hSw.cell (p := ⟨b, o, none⟩) h); go_simp; try with_reducible rfl; done)); try simp only [Act.put, List.setIfInBounds_toArray, List.set_cons_zero, List.set_cons_succ])
  (refine held_takeA 5 (by rfl) ?_ (by kernel_rfl) (fun _ _ _ h => h) hs1r ?_ ?_; rotate_left; (focus (intro wq hSw; have hrd : ∀ b o, b < w.heap.size → wq.cell? ⟨b, o, none⟩ = w.cell? ⟨b, o, none⟩ := (fun b o h => hSw.cell (p := ⟨b, o, none⟩) h); go_simp; try with_reducible rfl; done)); try simp only [Act.put, List.setIfInBounds_toArray, List.set_cons_zero, List.set_cons_succ])
  (refine held_takeA 6 (by rfl) ?_ (by kernel_rfl) (fun _ _ _ h => h) hs1r ?_ ?_; rotate_left; (focus (intro wq hSw; have hrd : ∀ b o, b < w.heap.size → wq.cell? ⟨b, o, none⟩ = w.cell? ⟨b, o, none⟩ := (fun b o h => hSw.cell (p := ⟨b, o, none⟩) h); go_simp; try with_reducible rfl; done)); try simp only [Act.put, List.setIfInBounds_toArray, List.set_cons_zero, List.set_cons_succ])
  (refine held_takeA 7 (by rfl) ?_ (by kernel_rfl) (fun _ _ _ h => h) hs1r ?_ ?_; rotate_left; (focus (intro wq hSw; have hrd : ∀ b o, b < w.heap.size → wq.cell? ⟨b, o, none⟩ = w.cell? ⟨b, o, none⟩ := (fun b o h => hSw.cell (p := ⟨b, o, none⟩) h); go_simp; try with_reducible rfl; done)); try simp only [Act.put, List.setIfInBounds_toArray, List.set_cons_zero, List.set_cons_succ])
  (refine held_takeA 8 (by rfl) ?_ (by kernel_rfl) (fun _ _ _ h => h) hs1r ?_ ?_; rotate_left; (focus (intro wq hSw; have hrd : ∀ b o, b < w.heap.size → wq.cell? ⟨b, o, none⟩ = w.cell? ⟨b, o, none⟩ := (fun b o h => hSw.cell (p := ⟨b, o, none⟩) h); go_simp; try with_reducible rfl; done)); try simp only [Act.put, List.setIfInBounds_toArray, List.set_cons_zero, List.set_cons_succ])
  (refine held_takeA 9 (by rfl) ?_ (by kernel_rfl) (fun _ _ _ h => h) hs1r ?_ ?_; rotate_left; (focus (intro wq hSw; have hrd : ∀ b o, b < w.heap.size → wq.cell? ⟨b, o, none⟩ = w.cell? ⟨b, o, none⟩ := (fun b o h => hSw.cell (p := ⟨b, o, none⟩) h); go_simp; try with_reducible rfl; done)); try simp only [Act.put, List.setIfInBounds_toArray, List.set_cons_zero, List.set_cons_succ])
  (refine held_takeA 10 (by rfl) ?_ (by kernel_rfl) (fun _ _ _ h => h) hs1r ?_ ?_; rotate_left; (focus (intro wq hSw; have hrd : ∀ b o, b < w.heap.size → wq.cell? ⟨b, o, none⟩ = w.cell? ⟨b, o, none⟩ := (fun b o h => hSw.cell (p := ⟨b, o, none⟩) h); go_simp; try with_reducible rfl; done)); try simp only [Act.put, List.setIfInBounds_toArray, List.set_cons_zero, List.set_cons_succ])
  (refine held_takeA 11 (by rfl) ?_ (by kernel_rfl) (fun _ _ _ h => h) hs1r ?_ ?_; rotate_left; (focus (intro wq hSw; have hrd : ∀ b o, b < w.heap.size → wq.cell? ⟨b, o, none⟩ = w.cell? ⟨b, o, none⟩ := (fun b o h => hSw.cell (p := ⟨b, o, none⟩) h); go_simp; try with_reducible rfl; done)); try simp only [Act.put, List.setIfInBounds_toArray, List.set_cons_zero, List.set_cons_succ])
  (refine held_takeA 12 (by rfl) ?_ (by kernel_rfl) (fun _ _ _ h => h) hs1r ?_ ?_; rotate_left; (focus (intro wq hSw; have hrd : ∀ b o, b < w.heap.size → wq.cell? ⟨b, o, none⟩ = w.cell? ⟨b, o, none⟩ := (fun b o h => hSw.cell (p := ⟨b, o, none⟩) h); go_simp; try with_reducible rfl; done)); try simp only [Act.put, List.setIfInBounds_toArray, List.set_cons_zero, List.set_cons_succ])
  refine held_callA 0 (by rfl) (by kernel_rfl) (by rfl) (fun KQ hKQ => ?_)
  go_simp
  have hlit : OwnB (w.alloc (.cells #[] 5)).drew w.heap.size (.slice (some ⟨w.heap.size, 0, none⟩) 0 0) 0 [] := (OwnB.lit (base := w.heap.size) w [] (Nat.le_refl _) (by simp)).drew
  have hbx := ((Below.refl w.heap.size w).alloc (Nat.le_refl _) (.cells #[] 5)).drew
  generalize (w.alloc (.cells #[] 5)).drew = wx at *
  have hs2r := hbx
  refine hKQ.out _ _ hs2r ?_
  clear hKQ KQ
  try simp only [Act.put, List.setIfInBounds_toArray, List.set_cons_zero, List.set_cons_succ]
  refine held_callA 13 (by rfl) (by kernel_rfl) (by rfl) (fun KQ hKQ => ?_)
  refine wp_app _ (.tmp 3) (.tmp 15) (by rfl) w.heap.size _ 0 [] (by rfl) hlit _ A2 (lnK l).toNat _ _ (by rfl) (hby2 wx _ l (h.below hbx)) (by omega) hbx.size ?_
  intro vp wy ownp hgy hdy
  clear hdy
  have hby := hlit.below_app hgy hbx.size
  rw [Nat.zero_add, List.nil_append] at ownp
  have hs3r := hbx.trans hby
  refine hKQ.out _ _ hs3r ?_
  clear hKQ KQ
  try simp only [Act.put, List.setIfInBounds_toArray, List.set_cons_zero, List.set_cons_succ]
  (refine held_takeA 14 (by rfl) ?_ (by kernel_rfl) (fun _ _ _ h => h) hs3r ?_ ?_; rotate_left; (focus (intro wq hSw; have hrd : ∀ b o, b < w.heap.size → wq.cell? ⟨b, o, none⟩ = w.cell? ⟨b, o, none⟩ := (fun b o h => hSw.cell (p := ⟨b, o, none⟩) h); go_simp; try with_reducible rfl; done)); try simp only [Act.put, List.setIfInBounds_toArray, List.set_cons_zero, List.set_cons_succ])
  refine wpAnyH_done (by kernel_rfl) ?_ _
  try refine NoPanic.normal ?_
  go_wp2_with fail
  go_ret
  exact ⟨vp, rfl, ownp, hbx.trans hby⟩
set_option maxRecDepth 100000 in
set_option maxHeartbeats 4000000 in
theorem refWrap_any (w : World) (A : Option Addr) (n c : Nat) (l : List UInt8) (h : Byt w w.heap.size A n l) (hc : n ≤ c) (hc2 : c ≤ maxLen) (hn : n ≤ 10000000) (s d : Int) (s0 : 0 ≤ s) (s1 : s ≤ 4294967295) (d0 : 0 ≤ d) (d1 : d ≤ 4294967295) :
    Calls Try.prog 21 #[.slice A n c, .int .u32 s, .int .u32 d] w fun e w' => ∃ v, e = .returned (.tuple #[v, .int .i64 (wrapE l)]) ∧ OwnB w' w.heap.size v (wrapL l s d).length (wrapL l s d) ∧ Below w.heap.size w w' := by
  have hi : (Try.prog.info? 58).map (·.size) = some 9 := by kernel_rfl
  go_enter Try.func21, Try.ntmps21
  go_wp2_with fail
  refine (refParse_any _ A n c l h hc hc2 hn).mono ?_
  rintro e w1 ⟨vo, vp, rfl, owno, ownp, hb1⟩
  unfold parsed
  obtain ⟨Ap, cp, rfl, _, _, _⟩ := ownp.any
  obtain ⟨Ao, co, rfl, _, _, _⟩ := owno.any
  clear owno ownp
  have hB := hb1.alloc hb1.size (.cells #[.int .i64 (fT l), .int .i64 (fI l), .int .i64 (fF l), .int .i64 (fG l), .int .i64 (fL l), .int .i64 (fP l), .int .u32 (fS l), .int .u32 (fD l), .slice Ao (optL l).length co] 58)
  by_cases he : errV l = 0
  rotate_left
  · have hb : (errV l != 0) = true := by simpa using he
    have e1 : wrapE l = errV l := if_pos he
    have e2 : [] = wrapL l s d := (if_pos he).symm
    replace he := Lib.hid he
    replace e1 := Lib.hid e1
    replace e2 := Lib.hid e2
    go_wp2_with fail
    go_ret2
    exact ⟨_, tuple2 e1.out.symm, (OwnB.nil _ _).fit e2.out, hB⟩
  rw [he]
  have hgd := wrap_good he
  have e2 : wrapL l s d = buildL (fT l) (fI l) (flagW l) 0 64 4 s d [] (l.take (lnK l).toNat) := if_neg (by simpa using he)
  have htl := take_ln_len he
  have hln := errV_ok he
  have hlnK : 0 ≤ lnK l ∧ lnK l ≤ 9000 := by omega
  clear hln
  have hlow : wrapE l = if 8980 < lnK l then 10 else 0 := if_neg (by simpa using he)
  replace e2 := Lib.hid e2
  replace htl := Lib.hid htl
  replace hlow := Lib.hid hlow
  replace hgd := Lib.hid hgd
  have he' := Lib.hid he
  clear he
  have hw : bits .and .i64 (fF l) 2 = flagW l := rfl
  go_wp2_with fail
  have hq2 := Blk.new w1 58 #[.int .i64 (fT l), .int .i64 (fI l), .int .i64 (fF l), .int .i64 (fG l), .int .i64 (fL l), .int .i64 (fP l), .int .u32 (fS l), .int .u32 (fD l), .slice Ao (optL l).length co]
  generalize w1.alloc (.cells #[.int .i64 (fT l), .int .i64 (fI l), .int .i64 (fF l), .int .i64 (fG l), .int .i64 (fL l), .int .i64 (fP l), .int .u32 (fS l), .int .u32 (fD l), .slice Ao (optL l).length co] 58) = w2 at *
  have hz2 := hB.size
  generalize w1.heap.size = G at *
  have c0 : w2.cell? ⟨G, 0, none⟩ = some (.int .i64 (fT l)) := hq2.cellv 0 rfl
  have c1 : w2.cell? ⟨G, 1, none⟩ = some (.int .i64 (fI l)) := hq2.cellv 1 rfl
  have c2 : w2.cell? ⟨G, 2, none⟩ = some (.int .i64 (fF l)) := hq2.cellv 2 rfl
  have ltG := hq2.lt
  -- region 4: 0 1 2 3 4 5 6 7 8 9 10 11C 12C 13
  try refine wp_region_noPanic ?_
  have hs4r : Below w2.heap.size w2 w2.drew := (Below.refl _ _).drew
  refine wp_region_held_drew (S := fun w' => Below w2.heap.size w2 w') (by kernel_rfl) hs4r (fun _ => ?_)
  (refine held_takeA 0 (by rfl) ?_ (by kernel_rfl) (fun _ _ _ h => h) hs4r ?_ ?_; rotate_left; (focus (intro wq hSw; have hrd : ∀ b o, b < w2.heap.size → wq.cell? ⟨b, o, none⟩ = w2.cell? ⟨b, o, none⟩ := (fun b o h => hSw.cell (p := ⟨b, o, none⟩) h); go_simp; try with_reducible rfl; done)); try simp only [Act.put, List.setIfInBounds_toArray, List.set_cons_zero, List.set_cons_succ])
  (refine held_takeA 1 (by rfl) ?_ (by kernel_rfl) (fun _ _ _ h => h) hs4r ?_ ?_; rotate_left; (focus (intro wq hSw; have hrd : ∀ b o, b < w2.heap.size → wq.cell? ⟨b, o, none⟩ = w2.cell? ⟨b, o, none⟩ := (fun b o h => hSw.cell (p := ⟨b, o, none⟩) h); go_simp; try with_reducible rfl; done)); try simp only [Act.put, List.setIfInBounds_toArray, List.set_cons_zero, List.set_cons_succ])
  (refine held_takeA 2 (by rfl) ?_ (by kernel_rfl) (fun _ _ _ h => h) hs4r ?_ ?_; rotate_left; (focus (intro wq hSw; have hrd : ∀ b o, b < w2.heap.size → wq.cell? ⟨b, o, none⟩ = w2.cell? ⟨b, o, none⟩ := (fun b o h => hSw.cell (p := ⟨b, o, none⟩) h); go_simp; try with_reducible rfl; done)); try simp only [Act.put, List.setIfInBounds_toArray, List.set_cons_zero, List.set_cons_succ])
  (refine held_takeA 3 (by rfl) ?_ (by kernel_rfl) (fun _ _ _ h => h) hs4r ?_ ?_; rotate_left; (focus (intro wq hSw; have hrd : ∀ b o, b < w2.heap.size → wq.cell? ⟨b, o, none⟩ = w2.cell? ⟨b, o, none⟩ := (fun b o h => hSw.cell (p := ⟨b, o, none⟩) h); go_simp; try with_reducible rfl; done)); try simp only [Act.put, List.setIfInBounds_toArray, List.set_cons_zero, List.set_cons_succ])
  (refine held_takeA 4 (by rfl) ?_ (by kernel_rfl) (fun _ _ _ h => h) hs4r ?_ ?_; rotate_left; (focus (intro wq hSw; have hrd : ∀ b o, b < w2.heap.size → wq.cell? ⟨b, o, none⟩ = w2.cell? ⟨b, o, none⟩ := (fun b o h => hSw.cell (p := ⟨b, o, none⟩) h); go_simp; try with_reducible rfl; done)); try simp only [Act.put, List.setIfInBounds_toArray, List.set_cons_zero, List.set_cons_succ])
  (refine held_takeA 5 (by rfl) ?_ (by kernel_rfl) (fun _ _ _ h => h) hs4r ?_ ?_; rotate_left; (focus (intro wq hSw; have hrd : ∀ b o, b < w2.heap.size → wq.cell? ⟨b, o, none⟩ = w2.cell? ⟨b, o, none⟩ := (fun b o h => hSw.cell (p := ⟨b, o, none⟩) h); go_simp; try with_reducible rfl; done)); try simp only [Act.put, List.setIfInBounds_toArray, List.set_cons_zero, List.set_cons_succ])
  (refine held_takeA 6 (by rfl) ?_ (by kernel_rfl) (fun _ _ _ h => h) hs4r ?_ ?_; rotate_left; (focus (intro wq hSw; have hrd : ∀ b o, b < w2.heap.size → wq.cell? ⟨b, o, none⟩ = w2.cell? ⟨b, o, none⟩ := (fun b o h => hSw.cell (p := ⟨b, o, none⟩) h); go_simp; try with_reducible rfl; done)); try simp only [Act.put, List.setIfInBounds_toArray, List.set_cons_zero, List.set_cons_succ])
  (refine held_takeA 7 (by rfl) ?_ (by kernel_rfl) (fun _ _ _ h => h) hs4r ?_ ?_; rotate_left; (focus (intro wq hSw; have hrd : ∀ b o, b < w2.heap.size → wq.cell? ⟨b, o, none⟩ = w2.cell? ⟨b, o, none⟩ := (fun b o h => hSw.cell (p := ⟨b, o, none⟩) h); go_simp; try with_reducible rfl; done)); try simp only [Act.put, List.setIfInBounds_toArray, List.set_cons_zero, List.set_cons_succ])
  (refine held_takeA 8 (by rfl) ?_ (by kernel_rfl) (fun _ _ _ h => h) hs4r ?_ ?_; rotate_left; (focus (intro wq hSw; have hrd : ∀ b o, b < w2.heap.size → wq.cell? ⟨b, o, none⟩ = w2.cell? ⟨b, o, none⟩ := (fun b o h => hSw.cell (p := ⟨b, o, none⟩) h); go_simp; try with_reducible rfl; done)); try simp only [Act.put, List.setIfInBounds_toArray, List.set_cons_zero, List.set_cons_succ])
  (refine held_takeA 9 (by rfl) ?_ (by kernel_rfl) (fun _ _ _ h => h) hs4r ?_ ?_; rotate_left; (focus (intro wq hSw; have hrd : ∀ b o, b < w2.heap.size → wq.cell? ⟨b, o, none⟩ = w2.cell? ⟨b, o, none⟩ := (fun b o h => hSw.cell (p := ⟨b, o, none⟩) h); go_simp; try with_reducible rfl; done)); try simp only [Act.put, List.setIfInBounds_toArray, List.set_cons_zero, List.set_cons_succ])
  (refine held_takeA 10 (by rfl) ?_ (by kernel_rfl) (fun _ _ _ h => h) hs4r ?_ ?_; rotate_left; (focus (intro wq hSw; have hrd : ∀ b o, b < w2.heap.size → wq.cell? ⟨b, o, none⟩ = w2.cell? ⟨b, o, none⟩ := (fun b o h => hSw.cell (p := ⟨b, o, none⟩) h); go_simp; try with_reducible rfl; done)); try simp only [Act.put, List.setIfInBounds_toArray, List.set_cons_zero, List.set_cons_succ])
  refine held_callA 11 (by rfl) (by kernel_rfl) (by rfl) (fun KQ hKQ => ?_)
  go_simp
  refine (refWhole_any w2.drew A n c l (((h.below hB).more hz2).drew) hc hc2 hn he'.out).mono ?_
  rintro e w3 ⟨v3, rfl, own3, hb3⟩
  obtain ⟨A3, c3, rfl, _, by3, _⟩ := own3.any
  clear own3
  refine hKQ.out _ _ (hs4r.trans hb3) (held_mono (S' := fun w' => Below w3.heap.size w3 w') (fun w' h => (hs4r.trans hb3).trans (h.mono (hs4r.trans hb3).size)) _ _ _ _ ?_)
  clear hKQ KQ
  replace hB := hB.trans ((hs4r.trans hb3).mono hB.size)
  have hs5r : Below w3.heap.size w3 w3 := Below.refl _ _
  try simp only [Act.put, List.setIfInBounds_toArray, List.set_cons_zero, List.set_cons_succ]
  refine held_callA 12 (by rfl) (by kernel_rfl) (by rfl) (fun KQ hKQ => ?_)
  go_simp
  by_cases hbig : 8980 < lnK l
  · refine (refBuild_no (fT l) (fI l) (flagW l) 0 64 4 s d none 0 0 A3 _ c3 w3 (by omega) (by omega) (.inr (by omega))).mono ?_
    rintro e w4 ⟨rfl, hb4⟩
    refine hKQ.out _ _ (hs5r.trans hb4) (held_mono (S' := fun w' => Below w4.heap.size w4 w') (fun w' h => (hs5r.trans hb4).trans (h.mono (hs5r.trans hb4).size)) _ _ _ _ ?_)
    clear hKQ KQ
    replace hB := hB.trans ((hs5r.trans hb4).mono hB.size)
    have hs6r : Below w4.heap.size w4 w4 := Below.refl _ _
    try simp only [Act.put, List.setIfInBounds_toArray, List.set_cons_zero, List.set_cons_succ]
    (refine held_takeA 13 (by rfl) ?_ (by kernel_rfl) (fun _ _ _ h => h) hs6r ?_ ?_; rotate_left; (focus (intro wq hSw; have hrd : ∀ b o, b < w4.heap.size → wq.cell? ⟨b, o, none⟩ = w4.cell? ⟨b, o, none⟩ := (fun b o h => hSw.cell (p := ⟨b, o, none⟩) h); go_simp; try with_reducible rfl; done)); try simp only [Act.put, List.setIfInBounds_toArray, List.set_cons_zero, List.set_cons_succ])
    refine wpAnyH_done (by kernel_rfl) ?_ _
    try refine NoPanic.normal ?_
    have e1 : wrapE l = 10 := by rw [hlow.out, if_pos hbig]
    have e3 : [] = wrapL l s d := by rw [e2.out, buildL_no (by rw [htl.out]; simp; omega)]
    replace e1 := Lib.hid e1
    replace e3 := Lib.hid e3
    have heq := fun w => Go.run_eql_slice_nil (P := Try.prog) w 22 5 none 0 0 Try.underlying22
    go_wp2_with fail
    go_ret2
    exact ⟨_, tuple2 e1.out.symm, (OwnB.nil _ _).fit e3.out, hB⟩
  · refine (refBuild_yes (fT l) (fI l) (flagW l) 0 64 4 s d none 0 0 [] A3 _ c3 _ w3 hgd.out (by omega) (byt_empty _ _ _) by3 s0 s1 d0 d1).mono ?_
    rintro e w4 ⟨v4, rfl, own4, hb4⟩
    have hz3 := hB.size
    obtain ⟨g4, c4, rfl, _⟩ := own4.form (by omega)
    refine hKQ.out _ _ (hs5r.trans hb4) (held_mono (S' := fun w' => Below w4.heap.size w4 w') (fun w' h => (hs5r.trans hb4).trans (h.mono (hs5r.trans hb4).size)) _ _ _ _ ?_)
    clear hKQ KQ
    replace hB := hB.trans ((hs5r.trans hb4).mono hB.size)
    have hs7r : Below w4.heap.size w4 w4 := Below.refl _ _
    try simp only [Act.put, List.setIfInBounds_toArray, List.set_cons_zero, List.set_cons_succ]
    (refine held_takeA 13 (by rfl) ?_ (by kernel_rfl) (fun _ _ _ h => h) hs7r ?_ ?_; rotate_left; (focus (intro wq hSw; have hrd : ∀ b o, b < w4.heap.size → wq.cell? ⟨b, o, none⟩ = w4.cell? ⟨b, o, none⟩ := (fun b o h => hSw.cell (p := ⟨b, o, none⟩) h); go_simp; try with_reducible rfl; done)); try simp only [Act.put, List.setIfInBounds_toArray, List.set_cons_zero, List.set_cons_succ])
    refine wpAnyH_done (by kernel_rfl) ?_ _
    try refine NoPanic.normal ?_
    have e1 : wrapE l = 0 := by rw [hlow.out, if_neg hbig]
    replace e1 := Lib.hid e1
    have heq := fun w => Go.run_eql_slice_nil (P := Try.prog) w 22 5 (some ⟨g4, 0, none⟩) (20 + 0 + (lnK l).toNat) c4 Try.underlying22
    go_wp2_with fail
    go_ret2
    refine ⟨_, tuple2 e1.out.symm, ?_, hB⟩
    rw [e2.out, buildL_len hgd.out (by rw [htl.out]; simp; omega), buildL_yes hgd.out (by rw [htl.out]; simp; omega), htl.out]
    exact own4.less hz3
end Go.Proofs.Ytnjbnnceeecekaa
