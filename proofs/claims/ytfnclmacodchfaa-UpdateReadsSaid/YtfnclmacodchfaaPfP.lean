/- the document's Bytes of attributes. -/
import Derived.Test.YtfnclmacodchfaaPfO
import Derived.Test.YtfnclmacodchfaaAtH
namespace Go.Proofs.Ytfnclmacodchfaa
set_option linter.unusedVariables false
open Go Go.RowKit

theorem refPut2v (w : World) (A : Option Addr) (n c : Nat) (l : List UInt8) (B : Nat) (h : Byt w B A n l) (hB : B ≤ w.heap.size) (hn : n ≤ 100000000) (x : Int) :
    Calls Try.prog 71 #[.slice A n c, .int .u64 (x % 18446744073709551616), .int .i64 2] w fun e w' => ∃ v, e = .returned v ∧ OwnB w' w.heap.size v (n + 2) (l ++ be (x % 18446744073709551616) 2) ∧ Below w.heap.size w w' :=
  refPut_any w A n c l B h hB hn (x % 18446744073709551616) (by omega) 2 (by omega)
theorem refPut4v (w : World) (A : Option Addr) (n c : Nat) (l : List UInt8) (B : Nat) (h : Byt w B A n l) (hB : B ≤ w.heap.size) (hn : n ≤ 100000000) (x : Int) :
    Calls Try.prog 71 #[.slice A n c, .int .u64 (x % 18446744073709551616), .int .i64 4] w fun e w' => ∃ v, e = .returned v ∧ OwnB w' w.heap.size v (n + 4) (l ++ be (x % 18446744073709551616) 4) ∧ Below w.heap.size w w' :=
  refPut_any w A n c l B h hB hn (x % 18446744073709551616) (by omega) 4 (by omega)
theorem be_32 (x : Int) : be (x % 4294967296) 4 = be (x % 18446744073709551616) 4 := by
  have h : ∀ a b : Int, a % 256 = b % 256 → byOf a = byOf b := fun a b h => by unfold byOf; rw [h]
  simp only [be]
  rw [h (x % 4294967296 / 2 ^ (8 * 3)) (x % 18446744073709551616 / 2 ^ (8 * 3)) (by omega), h (x % 4294967296 / 2 ^ (8 * 2)) (x % 18446744073709551616 / 2 ^ (8 * 2)) (by omega),
    h (x % 4294967296 / 2 ^ (8 * 1)) (x % 18446744073709551616 / 2 ^ (8 * 1)) (by omega), h (x % 4294967296 / 2 ^ (8 * 0)) (x % 18446744073709551616 / 2 ^ (8 * 0)) (by omega)]
theorem Byt.nxd {w w' : World} {A : Option Addr} {n : Nat} {l : List UInt8} (h : Byt w w.heap.size A n l) (hb : Below w.drew.heap.size w.drew w') : Byt w' w'.heap.size A n l := Byt.nx (w := w.drew) h hb
set_option maxRecDepth 100000 in
set_option maxHeartbeats 8000000 in
theorem refBytes7_any (w : World) (o : Int) (A : Option Addr) (n c : Nat) (zs : List Int) (h m : Int) (b : Bool) (hN : Nums .i64 w w.heap.size A n zs) (h0 : 0 ≤ h) (h1 : h ≤ 4294967295) (z3 : n ≤ 100000) :
    Calls Try.prog 70 #[.agg #[.int .i64 o, .slice A n c, .int .u32 h, .int .i64 m, .bool b]] w fun e w' => ∃ v, e = .returned v ∧ OwnB w' w.heap.size v (attrsB o zs h m b).length (attrsB o zs h m b) ∧ Below w.heap.size w w' := by
  have hl := hN.1
  have hB := (Below.refl w.heap.size w).alloc (Nat.le_refl _) (.cells #[.int .i64 o, .slice A n c, .int .u32 h, .int .i64 m, .bool b] 31)
  have hq := Blk.new w 31 #[.int .i64 o, .slice A n c, .int .u32 h, .int .i64 m, .bool b]
  go_enter Try.func70, Try.ntmps70
  go_upto_region 1 with (fail)
  generalize w.alloc (.cells #[.int .i64 o, .slice A n c, .int .u32 h, .int .i64 m, .bool b] 31) = w1 at *
  have hN1 := hN.nx hB
  have hg1 := refGood7_any w1 o A n c zs h m b hN1 h0 h1 z3
  have q0 : w1.cell? ⟨w.heap.size, 0, none⟩ = some (.int .i64 o) := hq.cellv 0 rfl
  have q1 : w1.cell? ⟨w.heap.size, 1, none⟩ = some (.slice A n c) := hq.cellv 1 rfl
  have q2 : w1.cell? ⟨w.heap.size, 2, none⟩ = some (.int .u32 h) := hq.cellv 2 rfl
  have q3 : w1.cell? ⟨w.heap.size, 3, none⟩ = some (.int .i64 m) := hq.cellv 3 rfl
  have q4 : w1.cell? ⟨w.heap.size, 4, none⟩ = some (.bool b) := hq.cellv 4 rfl
  have ql := hq.lt
  cases hg : goodA o zs h m b
  · have e : [] = attrsB o zs h m b := by unfold attrsB; rw [hg]; rfl
    replace e := Lib.hid e
    rw [hg] at hg1
    replace hg := Lib.hid hg
    go_wp2_with (go_at_call 30; refine hg1.mono ?_; rintro e w2 ⟨rfl, hb2⟩)
    go_ret
    exact ⟨_, rfl, by rw [← e.out]; exact OwnB.nil _ _, hB.trans (hb2.mono hB.size)⟩
  have hat := Lib.hid (show attrsB o zs h m b = joinD (attrsD o zs h m b) from if_pos hg)
  have hn16 : n ≤ 16 := by have := hg; unfold goodA at this; simp at this; omega
  rw [hg] at hg1
  replace hg := Lib.hid hg
  replace hl := Lib.hid hl
  by_cases hn0 : n = 0
  · have hsg := Lib.hid (show segL zs = [] by unfold segL; rw [if_pos (by rw [hl.out]; exact hn0)])
    have d0 : ¬ (0 < n) := by omega
    have d1 : ¬ ((0 : Int) < n) := by omega
    replace hn0 := Lib.hid hn0
    go_upto_region 3 with (go_at_call 30; refine hg1.mono ?_; rintro e w2 ⟨rfl, hb2⟩)
    have hq2 := hq.below hb2 hq.lt
    have hB2 := hB.trans (hb2.mono hB.size)
    have hN2 := hN1.nx hb2
    clear q0 q1 q2 q3 q4 ql hb2 hN1 hg1
    have q0 : w2.cell? ⟨w.heap.size, 0, none⟩ = some (.int .i64 o) := hq2.cellv 0 rfl
    have q1 : w2.cell? ⟨w.heap.size, 1, none⟩ = some (.slice A n c) := hq2.cellv 1 rfl
    have q2 : w2.cell? ⟨w.heap.size, 2, none⟩ = some (.int .u32 h) := hq2.cellv 2 rfl
    have q3 : w2.cell? ⟨w.heap.size, 3, none⟩ = some (.int .i64 m) := hq2.cellv 3 rfl
    have q4 : w2.cell? ⟨w.heap.size, 4, none⟩ = some (.bool b) := hq2.cellv 4 rfl
    have ql := hq2.lt
    go_upto_region 11 with (fail)
    have by3 : Byt w2 w2.heap.size none 0 [] := Byt.none_
    have hc3 : 0 ≤ 0 := Nat.le_refl _
    have hcm3 : 0 ≤ maxLen := Nat.zero_le _
    have hA3 : ∀ a, (none : Option Addr) = some a → w2.heap.size ≤ a.block := fun a ha => by cases ha
    have hsg3 := Lib.hid hsg.out.symm
    have hWlo : w2.heap.size ≤ w2.heap.size := Nat.le_refl _
    have kw : IntKind.u8.wrap o = o % 256 := IntKind.wrap_u8 _
    have kx : IntKind.u64.wrap h = h := by rw [IntKind.wrap_u64]; omega
    have hb0 : Below w2.heap.size w2 w2.drew := (Below.refl _ _).drew
    -- region 11: 0 1 2 3M 4 5 6 7 8 9 10C 11 12M 13
    try refine wp_region_noPanic ?_
    have hs1r : (fun w' => Below w2.heap.size w2 w') w2.drew := (Below.refl _ _).drew
    refine wp_region_held_drew (S := fun w' => Below w2.heap.size w2 w') (by kernel_rfl) hs1r (fun _ => ?_)
    (refine held_takeA 0 (by rfl) ?_ (by kernel_rfl) (fun _ _ _ h => h) hs1r ?_ ?_; rotate_left; (focus (intro wq hSw; have hrd := hSw; (have hrd : ∀ b' o, b' < w2.heap.size → wq.cell? ⟨b', o, none⟩ = w2.cell? ⟨b', o, none⟩ := fun b' o h => Below.cell hSw (p := ⟨b', o, none⟩) h); go_simp; try with_reducible rfl; done)); try simp only [Act.put, List.setIfInBounds_toArray, List.set_cons_zero, List.set_cons_succ])
    (refine held_takeA 1 (by rfl) ?_ (by kernel_rfl) (fun _ _ _ h => h) hs1r ?_ ?_; rotate_left; (focus (intro wq hSw; have hrd := hSw; (have hrd : ∀ b' o, b' < w2.heap.size → wq.cell? ⟨b', o, none⟩ = w2.cell? ⟨b', o, none⟩ := fun b' o h => Below.cell hSw (p := ⟨b', o, none⟩) h); go_simp; try with_reducible rfl; done)); try simp only [Act.put, List.setIfInBounds_toArray, List.set_cons_zero, List.set_cons_succ])
    (refine held_takeA 2 (by rfl) ?_ (by kernel_rfl) (fun _ _ _ h => h) hs1r ?_ ?_; rotate_left; (focus (intro wq hSw; have hrd := hSw; (have hrd : ∀ b' o, b' < w2.heap.size → wq.cell? ⟨b', o, none⟩ = w2.cell? ⟨b', o, none⟩ := fun b' o h => Below.cell hSw (p := ⟨b', o, none⟩) h); go_simp; try with_reducible rfl; done)); try simp only [Act.put, List.setIfInBounds_toArray, List.set_cons_zero, List.set_cons_succ])
    (refine held_takeA 5 (by rfl) ?_ (by kernel_rfl) (fun _ _ _ h => h) hs1r ?_ ?_; rotate_left; (focus (intro wq hSw; have hrd := hSw; (have hrd : ∀ b' o, b' < w2.heap.size → wq.cell? ⟨b', o, none⟩ = w2.cell? ⟨b', o, none⟩ := fun b' o h => Below.cell hSw (p := ⟨b', o, none⟩) h); go_simp; try with_reducible rfl; done)); try simp only [Act.put, List.setIfInBounds_toArray, List.set_cons_zero, List.set_cons_succ])
    (refine held_takeA 6 (by rfl) ?_ (by kernel_rfl) (fun _ _ _ h => h) hs1r ?_ ?_; rotate_left; (focus (intro wq hSw; have hrd := hSw; (have hrd : ∀ b' o, b' < w2.heap.size → wq.cell? ⟨b', o, none⟩ = w2.cell? ⟨b', o, none⟩ := fun b' o h => Below.cell hSw (p := ⟨b', o, none⟩) h); go_simp; try with_reducible rfl; done)); try simp only [Act.put, List.setIfInBounds_toArray, List.set_cons_zero, List.set_cons_succ])
    (refine held_takeA 7 (by rfl) ?_ (by kernel_rfl) (fun _ _ _ h => h) hs1r ?_ ?_; rotate_left; (focus (intro wq hSw; have hrd := hSw; (have hrd : ∀ b' o, b' < w2.heap.size → wq.cell? ⟨b', o, none⟩ = w2.cell? ⟨b', o, none⟩ := fun b' o h => Below.cell hSw (p := ⟨b', o, none⟩) h); go_simp; try with_reducible rfl; done)); try simp only [Act.put, List.setIfInBounds_toArray, List.set_cons_zero, List.set_cons_succ])
    (refine held_takeA 8 (by rfl) ?_ (by kernel_rfl) (fun _ _ _ h => h) hs1r ?_ ?_; rotate_left; (focus (intro wq hSw; have hrd := hSw; (have hrd : ∀ b' o, b' < w2.heap.size → wq.cell? ⟨b', o, none⟩ = w2.cell? ⟨b', o, none⟩ := fun b' o h => Below.cell hSw (p := ⟨b', o, none⟩) h); go_simp; try with_reducible rfl; done)); try simp only [Act.put, List.setIfInBounds_toArray, List.set_cons_zero, List.set_cons_succ])
    (refine held_takeA 9 (by rfl) ?_ (by kernel_rfl) (fun _ _ _ h => h) hs1r ?_ ?_; rotate_left; (focus (intro wq hSw; have hrd := hSw; (have hrd : ∀ b' o, b' < w2.heap.size → wq.cell? ⟨b', o, none⟩ = w2.cell? ⟨b', o, none⟩ := fun b' o h => Below.cell hSw (p := ⟨b', o, none⟩) h); go_simp; try with_reducible rfl; done)); try simp only [Act.put, List.setIfInBounds_toArray, List.set_cons_zero, List.set_cons_succ])
    refine held_two 3 10 (by rfl) (by rfl) (by kernel_rfl) (by rfl) (by rfl) (fun KQ hKQ => ?_) (fun KQ hKQ => ?_)
    · skip
      go_simp
      have hd : (w2.alloc (.cells #[.int .u8 (o % 256)] 5)).drew = w2.drew.alloc (.cells #[.int .u8 (o % 256)] 5) := rfl
      try rw [hd]
      have own1 : OwnB (w2.drew.alloc (.cells #[.int .u8 (o % 256)] 5)) w2.heap.size (.slice (some ⟨w2.heap.size, 0, none⟩) 1 1) 1 [byOf o] := own_one w2.drew o
      have hbl := hb0.alloc hb0.size (.cells #[.int .u8 (o % 256)] 5)
      have hbl1 := (Below.refl w2.drew.heap.size w2.drew).alloc (Nat.le_refl _) (.cells #[.int .u8 (o % 256)] 5)
      skip
      have by3 := by3.nxd hbl1
      obtain ⟨g1, hg1⟩ : ∃ g1, g1 = w2.heap.size := ⟨_, rfl⟩
      have hlo1 : w2.heap.size ≤ g1 := by rw [hg1]; exact Nat.le_trans hWlo hb0.size
      generalize w2.drew.alloc (.cells #[.int .u8 (o % 256)] 5) = w4 at *
      rw [← hg1] at own1 ⊢
      replace hg1 := Lib.hid hg1
      have by1 := own1.byt
      have hs2r := hbl
      refine hKQ.out _ _ hs2r ?_
      clear hKQ KQ
      try simp only [Act.put, List.setIfInBounds_toArray, List.set_cons_zero, List.set_cons_succ]
      (refine held_takeA 4 (by rfl) ?_ (by kernel_rfl) (fun _ _ _ h => h) hs2r ?_ ?_; rotate_left; (focus (intro wq hSw; have hrd := hSw; (have hrd : ∀ b' o, b' < w2.heap.size → wq.cell? ⟨b', o, none⟩ = w2.cell? ⟨b', o, none⟩ := fun b' o h => Below.cell hSw (p := ⟨b', o, none⟩) h); go_simp; try with_reducible rfl; done)); try simp only [Act.put, List.setIfInBounds_toArray, List.set_cons_zero, List.set_cons_succ])
      refine held_callA 10 (by rfl) (by kernel_rfl) (by rfl) (fun KQ hKQ => ?_)
      go_simp
      refine (refPut_any w4 none 0 0 [] 0 Byt.none_ (by omega) (by omega) h h0 4 (by omega)).mono ?_
      rintro e w5 ⟨v5, rfl, own5, hbp⟩
      rw [List.nil_append, Nat.zero_add] at own5
      obtain ⟨P5, c5, rfl, hc5, hcm5, by5, hA5⟩ := own5.any2
      have hlo5 : ∀ a, P5 = some a → w2.heap.size ≤ a.block := fun a ha => Nat.le_trans hWlo (Nat.le_trans hbl.size (hA5 a ha))
      have hbq := hbl.trans (hbp.mono hbl.size)
      have by3 := by3.nx hbp
      have by1 := by1.nx hbp
      have hs3r := hbq
      refine hKQ.out _ _ hs3r ?_
      clear hKQ KQ
      try simp only [Act.put, List.setIfInBounds_toArray, List.set_cons_zero, List.set_cons_succ]
      (refine held_takeA 11 (by rfl) ?_ (by kernel_rfl) (fun _ _ _ h => h) hs3r ?_ ?_; rotate_left; (focus (intro wq hSw; have hrd := hSw; (have hrd : ∀ b' o, b' < w2.heap.size → wq.cell? ⟨b', o, none⟩ = w2.cell? ⟨b', o, none⟩ := fun b' o h => Below.cell hSw (p := ⟨b', o, none⟩) h); go_simp; try with_reducible rfl; done)); try simp only [Act.put, List.setIfInBounds_toArray, List.set_cons_zero, List.set_cons_succ])
      obtain ⟨rs, hrs⟩ : ∃ rs : List RawV, rs = [⟨64, 1, some ⟨g1, 0, none⟩, 1, 1, [byOf o]⟩, ⟨64, 2, none, 0, 0, []⟩, ⟨64, 3, P5, 4, c5, be h 4⟩] := ⟨_, rfl⟩
      have hok : ∀ r ∈ rs, rawK.ok w5 (fun b => w2.heap.size ≤ b ∧ b < w5.heap.size) r := by
        intro r hr
        rw [hrs] at hr
        simp only [List.mem_cons, List.not_mem_nil, or_false] at hr
        rcases hr with rfl | rfl | rfl
        · exact ⟨Nat.le_refl _, by show 1 ≤ maxLen; unfold maxLen; omega, by1.bytS fun _ a ha => by injection ha with ha; subst ha; exact hlo1⟩
        · exact ⟨hc3, hcm3, by3.bytS fun _ a ha => hA3 a ha⟩
        · exact ⟨hc5, hcm5, by5.bytS fun _ a ha => hlo5 a ha⟩
      have hrow := rows_lit w5 124 rs #[.int .i64 64, .int .i64 1, .slice (some ⟨g1, 0, none⟩) 1 1, .int .i64 64, .int .i64 2, .slice none 0 0, .int .i64 64, .int .i64 3, .slice P5 4 c5] 3 (by rw [hrs]; rfl) (by rw [hrs]; rfl) hok (by unfold maxLen; omega)
      have hdat : rs.map dat = [(64, 1, [byOf o]), (64, 2, segL zs), (64, 3, be h 4)] := by rw [hrs]; simp only [List.map_cons, List.map_nil, dat_one, hsg3.out]
      have hrl : rs.length = 3 := by rw [hrs]; rfl
      replace hrs := Lib.hid hrs
      refine held_callA 12 (by rfl) (by kernel_rfl) (by rfl) (fun KQ hKQ => ?_)
      go_simp
      have hbn := hbq.alloc hbq.size (.cells #[.int .i64 64, .int .i64 1, .slice (some ⟨g1, 0, none⟩) 1 1, .int .i64 64, .int .i64 2, .slice none 0 0, .int .i64 64, .int .i64 3, .slice P5 4 c5] 124)
      generalize w5.alloc (.cells #[.int .i64 64, .int .i64 1, .slice (some ⟨g1, 0, none⟩) 1 1, .int .i64 64, .int .i64 2, .slice none 0 0, .int .i64 64, .int .i64 3, .slice P5 4 c5] 124) = w6 at *
      generalize hg5 : w5.heap.size = g5 at hrow hbn ⊢
      subst hg5
      have hs4r := hbn
      refine hKQ.out _ _ hs4r ?_
      clear hKQ KQ
      try simp only [Act.put, List.setIfInBounds_toArray, List.set_cons_zero, List.set_cons_succ]
      (refine held_takeA 13 (by rfl) ?_ (by kernel_rfl) (fun _ _ _ h => h) hs4r ?_ ?_; rotate_left; (focus (intro wq hSw; have hrd := hSw; (have hrd : ∀ b' o, b' < w2.heap.size → wq.cell? ⟨b', o, none⟩ = w2.cell? ⟨b', o, none⟩ := fun b' o h => Below.cell hSw (p := ⟨b', o, none⟩) h); go_simp; try with_reducible rfl; done)); try simp only [Act.put, List.setIfInBounds_toArray, List.set_cons_zero, List.set_cons_succ])
      refine wpAnyH_done (by kernel_rfl) ?_ _
      try refine NoPanic.normal ?_
      have hq6 := hq2.below hbn hq2.lt
      have hB6 := hB2.trans (hbn.mono hB2.size)
      have hz6 := hB6.size
      have hlt6 : w5.heap.size < w6.heap.size := (hrow.own w5.heap.size rfl).2
      clear q0 q1 q2 q3 q4 ql
      have hf3 : w6.cell? ⟨w.heap.size, 3, none⟩ = some (.int .i64 m) := hq6.cellv 3 rfl
      have hf4 : w6.cell? ⟨w.heap.size, 4, none⟩ = some (.bool b) := hq6.cellv 4 rfl
      have hlq6 := hq6.lt
      replace hrl := Lib.hid hrl
      replace hdat := Lib.hid hdat
      have hwz : w.heap.size ≤ w5.heap.size := by have := hbq.size; have := hB2.size; omega
      have hwz2 : w2.heap.size ≤ w5.heap.size := Nat.le_trans hWlo hbq.size
      have hwz3 : w.heap.size ≤ w2.heap.size := hB2.size
      cases b
      · go_upto_region 14 with (fail)
        obtain ⟨A7, c7, he7, hc7, hcm7, hseen⟩ := hrow.seen (by omega)
        rw [hrl.out] at he7 hc7 hseen
        injection he7 with e1 e2 e3
        subst e1 e3
        go_wp2_with (go_at_call 97; refine (refJoin_any w6 _ 3 3 rs (hseen.more fun b hb => hb.2) (by omega)).mono ?_; rintro e w7 ⟨v7, rfl, own7, hb7⟩)
        go_ret
        refine ⟨v7, rfl, ?_, hB6.trans (hb7.mono hz6)⟩
        rw [hat.out]
        have e : joinD (attrsD o zs h m false) = joinL rs := by rw [joinL_dat, hdat.out]; simp [attrsD]
        rw [e]
        exact own7.less hz6
      · have km : IntKind.u64.wrap m = m % 18446744073709551616 := IntKind.wrap_u64 _
        go_wp2_with fail
        refine (refPut4v w6 none 0 0 [] 0 Byt.none_ (by omega) (by omega) m).mono ?_
        rintro e w7 ⟨v7, rfl, own7, hb⟩
        rw [List.nil_append, Nat.zero_add, ← be_32] at own7
        obtain ⟨A7, c7, rfl, hc7, hcm7, by7, hA7⟩ := own7.any2
        replace hrow := hrow.below hb
        have hz7 := hb.size
        have hB7 := hB6.trans (hb.mono hz6)
        clear own7
        obtain ⟨r, hr⟩ : ∃ r : RawV, r = ⟨128, 4, A7, 4, c7, be (m % 4294967296) 4⟩ := ⟨_, rfl⟩
        have hok : rawK.ok w7 (fun b => w6.heap.size ≤ b ∧ b < w7.heap.size) r := by rw [hr]; exact ⟨hc7, hcm7, by7.bytS fun _ a ha => hA7 a ha⟩
        have hcr : rawK.cel r = [.int .i64 128, .int .i64 4, .slice A7 4 c7] := by rw [hr]; rfl
        have hone := seen_one w7 124 r #[.int .i64 128, .int .i64 4, .slice A7 4 c7] (by rw [hcr]) hok (S' := fun b => b < w7.heap.size + 1) (fun b hb => hb.2) (Nat.lt_succ_self _) (fun b hb => by omega)
        have hby8 := (Below.refl w7.heap.size w7).alloc (Nat.le_refl _) (.cells #[.int .i64 128, .int .i64 4, .slice A7 4 c7] 124)
        have hz8 := hby8.size
        have hrow8 := hrow.alloc (.cells #[.int .i64 128, .int .i64 4, .slice A7 4 c7] 124)
        have hok8 : ∀ e ∈ [r], rawK.ok (w7.alloc (.cells #[.int .i64 128, .int .i64 4, .slice A7 4 c7] 124)) (fun b => w2.heap.size ≤ b ∧ b < (w7.alloc (.cells #[.int .i64 128, .int .i64 4, .slice A7 4 c7] 124)).heap.size ∧ (Value.slice (some ⟨w5.heap.size, 0, none⟩) 3 3).ownBlock ≠ some b) e := fun e he => by
          obtain rfl : e = r := by simpa using he
          exact rawK.more (rawK.keep hok fun p hp => hby8.cell hp.2) fun b hb => ⟨by omega, by omega, fun e2 => by injection e2 with e2; have e3 : w5.heap.size = b := e2; omega⟩
        go_wp2_with (at_builtin; refine wpList_rows refRaw_ok rfl (.tmp 46) (.tmp 52) rfl hrow8 rfl rfl hone hok8 (by rw [hrl.out]; unfold maxLen; omega) (by rw [hrl.out]; omega) (by omega) ?_; intro v9 w9 hrow9 hg9)
        have hb9 := hrow8.below_app hg9 (by omega)
        obtain ⟨A8, c8, rfl, hc8, hcm8, hseen⟩ := hrow9.seen (by omega)
        have hl4 : (rs ++ [r]).length = 4 := by rw [List.length_append, hrl.out]; rfl
        rw [hl4] at hc8 hseen
        rw [hl4]
        have hz9 := hb9.size
        have hB9 := (hB7.alloc (by omega) (.cells #[.int .i64 128, .int .i64 4, .slice A7 4 c7] 124)).trans (hb9.mono (by omega))
        refine (refJoin_any w9 A8 4 c8 (rs ++ [r]) (hseen.more fun b hb => hb.2) (by omega)).mono ?_
        rintro e w10 ⟨v10, rfl, own10, hb10⟩
        go_wp2_with fail
        go_ret
        refine ⟨v10, rfl, ?_, hB9.trans (hb10.mono hB9.size)⟩
        rw [hat.out]
        have e : joinD (attrsD o zs h m true) = joinL (rs ++ [r]) := by rw [joinL_dat, List.map_append, hdat.out, hr]; rfl
        rw [e]
        exact own10.less hB9.size
    · skip
      go_simp
      refine (refPut_any w2.drew none 0 0 [] 0 Byt.none_ (by omega) (by omega) h h0 4 (by omega)).mono ?_
      rintro e w4 ⟨v5, rfl, own5, hbp⟩
      rw [List.nil_append, Nat.zero_add] at own5
      obtain ⟨P5, c5, rfl, hc5, hcm5, by5, hA5⟩ := own5.any2
      have hlo5 : ∀ a, P5 = some a → w2.heap.size ≤ a.block := fun a ha => Nat.le_trans hWlo (Nat.le_trans hb0.size (hA5 a ha))
      have hbq := hb0.trans (hbp.mono hb0.size)
      have by3 := by3.nxd hbp
      skip
      have hs5r := hbq
      refine hKQ.out _ _ hs5r ?_
      clear hKQ KQ
      try simp only [Act.put, List.setIfInBounds_toArray, List.set_cons_zero, List.set_cons_succ]
      (refine held_takeA 11 (by rfl) ?_ (by kernel_rfl) (fun _ _ _ h => h) hs5r ?_ ?_; rotate_left; (focus (intro wq hSw; have hrd := hSw; (have hrd : ∀ b' o, b' < w2.heap.size → wq.cell? ⟨b', o, none⟩ = w2.cell? ⟨b', o, none⟩ := fun b' o h => Below.cell hSw (p := ⟨b', o, none⟩) h); go_simp; try with_reducible rfl; done)); try simp only [Act.put, List.setIfInBounds_toArray, List.set_cons_zero, List.set_cons_succ])
      refine held_callA 3 (by rfl) (by kernel_rfl) (by rfl) (fun KQ hKQ => ?_)
      go_simp
      have own1 : OwnB (w4.alloc (.cells #[.int .u8 (o % 256)] 5)) w4.heap.size (.slice (some ⟨w4.heap.size, 0, none⟩) 1 1) 1 [byOf o] := own_one w4 o
      have hbl := hbq.alloc hbq.size (.cells #[.int .u8 (o % 256)] 5)
      have hbl1 := (Below.refl w4.heap.size w4).alloc (Nat.le_refl _) (.cells #[.int .u8 (o % 256)] 5)
      have by5 := by5.nx hbl1
      have by3 := by3.nx hbl1
      obtain ⟨g1, hg1⟩ : ∃ g1, g1 = w4.heap.size := ⟨_, rfl⟩
      have hlo1 : w2.heap.size ≤ g1 := by rw [hg1]; exact Nat.le_trans hWlo hbq.size
      generalize w4.alloc (.cells #[.int .u8 (o % 256)] 5) = w5 at *
      rw [← hg1] at own1 ⊢
      replace hg1 := Lib.hid hg1
      have by1 := own1.byt
      have hs6r := hbl
      refine hKQ.out _ _ hs6r ?_
      clear hKQ KQ
      try simp only [Act.put, List.setIfInBounds_toArray, List.set_cons_zero, List.set_cons_succ]
      (refine held_takeA 4 (by rfl) ?_ (by kernel_rfl) (fun _ _ _ h => h) hs6r ?_ ?_; rotate_left; (focus (intro wq hSw; have hrd := hSw; (have hrd : ∀ b' o, b' < w2.heap.size → wq.cell? ⟨b', o, none⟩ = w2.cell? ⟨b', o, none⟩ := fun b' o h => Below.cell hSw (p := ⟨b', o, none⟩) h); go_simp; try with_reducible rfl; done)); try simp only [Act.put, List.setIfInBounds_toArray, List.set_cons_zero, List.set_cons_succ])
      obtain ⟨rs, hrs⟩ : ∃ rs : List RawV, rs = [⟨64, 1, some ⟨g1, 0, none⟩, 1, 1, [byOf o]⟩, ⟨64, 2, none, 0, 0, []⟩, ⟨64, 3, P5, 4, c5, be h 4⟩] := ⟨_, rfl⟩
      have hok : ∀ r ∈ rs, rawK.ok w5 (fun b => w2.heap.size ≤ b ∧ b < w5.heap.size) r := by
        intro r hr
        rw [hrs] at hr
        simp only [List.mem_cons, List.not_mem_nil, or_false] at hr
        rcases hr with rfl | rfl | rfl
        · exact ⟨Nat.le_refl _, by show 1 ≤ maxLen; unfold maxLen; omega, by1.bytS fun _ a ha => by injection ha with ha; subst ha; exact hlo1⟩
        · exact ⟨hc3, hcm3, by3.bytS fun _ a ha => hA3 a ha⟩
        · exact ⟨hc5, hcm5, by5.bytS fun _ a ha => hlo5 a ha⟩
      have hrow := rows_lit w5 124 rs #[.int .i64 64, .int .i64 1, .slice (some ⟨g1, 0, none⟩) 1 1, .int .i64 64, .int .i64 2, .slice none 0 0, .int .i64 64, .int .i64 3, .slice P5 4 c5] 3 (by rw [hrs]; rfl) (by rw [hrs]; rfl) hok (by unfold maxLen; omega)
      have hdat : rs.map dat = [(64, 1, [byOf o]), (64, 2, segL zs), (64, 3, be h 4)] := by rw [hrs]; simp only [List.map_cons, List.map_nil, dat_one, hsg3.out]
      have hrl : rs.length = 3 := by rw [hrs]; rfl
      replace hrs := Lib.hid hrs
      refine held_callA 12 (by rfl) (by kernel_rfl) (by rfl) (fun KQ hKQ => ?_)
      go_simp
      have hbn := hbl.alloc hbl.size (.cells #[.int .i64 64, .int .i64 1, .slice (some ⟨g1, 0, none⟩) 1 1, .int .i64 64, .int .i64 2, .slice none 0 0, .int .i64 64, .int .i64 3, .slice P5 4 c5] 124)
      generalize w5.alloc (.cells #[.int .i64 64, .int .i64 1, .slice (some ⟨g1, 0, none⟩) 1 1, .int .i64 64, .int .i64 2, .slice none 0 0, .int .i64 64, .int .i64 3, .slice P5 4 c5] 124) = w6 at *
      generalize hg5 : w5.heap.size = g5 at hrow hbn ⊢
      subst hg5
      have hs7r := hbn
      refine hKQ.out _ _ hs7r ?_
      clear hKQ KQ
      try simp only [Act.put, List.setIfInBounds_toArray, List.set_cons_zero, List.set_cons_succ]
      (refine held_takeA 13 (by rfl) ?_ (by kernel_rfl) (fun _ _ _ h => h) hs7r ?_ ?_; rotate_left; (focus (intro wq hSw; have hrd := hSw; (have hrd : ∀ b' o, b' < w2.heap.size → wq.cell? ⟨b', o, none⟩ = w2.cell? ⟨b', o, none⟩ := fun b' o h => Below.cell hSw (p := ⟨b', o, none⟩) h); go_simp; try with_reducible rfl; done)); try simp only [Act.put, List.setIfInBounds_toArray, List.set_cons_zero, List.set_cons_succ])
      refine wpAnyH_done (by kernel_rfl) ?_ _
      try refine NoPanic.normal ?_
      have hq6 := hq2.below hbn hq2.lt
      have hB6 := hB2.trans (hbn.mono hB2.size)
      have hz6 := hB6.size
      have hlt6 : w5.heap.size < w6.heap.size := (hrow.own w5.heap.size rfl).2
      clear q0 q1 q2 q3 q4 ql
      have hf3 : w6.cell? ⟨w.heap.size, 3, none⟩ = some (.int .i64 m) := hq6.cellv 3 rfl
      have hf4 : w6.cell? ⟨w.heap.size, 4, none⟩ = some (.bool b) := hq6.cellv 4 rfl
      have hlq6 := hq6.lt
      replace hrl := Lib.hid hrl
      replace hdat := Lib.hid hdat
      have hwz : w.heap.size ≤ w5.heap.size := by have := hbl.size; have := hB2.size; omega
      have hwz2 : w2.heap.size ≤ w5.heap.size := Nat.le_trans hWlo hbl.size
      have hwz3 : w.heap.size ≤ w2.heap.size := hB2.size
      cases b
      · go_upto_region 14 with (fail)
        obtain ⟨A7, c7, he7, hc7, hcm7, hseen⟩ := hrow.seen (by omega)
        rw [hrl.out] at he7 hc7 hseen
        injection he7 with e1 e2 e3
        subst e1 e3
        go_wp2_with (go_at_call 97; refine (refJoin_any w6 _ 3 3 rs (hseen.more fun b hb => hb.2) (by omega)).mono ?_; rintro e w7 ⟨v7, rfl, own7, hb7⟩)
        go_ret
        refine ⟨v7, rfl, ?_, hB6.trans (hb7.mono hz6)⟩
        rw [hat.out]
        have e : joinD (attrsD o zs h m false) = joinL rs := by rw [joinL_dat, hdat.out]; simp [attrsD]
        rw [e]
        exact own7.less hz6
      · have km : IntKind.u64.wrap m = m % 18446744073709551616 := IntKind.wrap_u64 _
        go_wp2_with fail
        refine (refPut4v w6 none 0 0 [] 0 Byt.none_ (by omega) (by omega) m).mono ?_
        rintro e w7 ⟨v7, rfl, own7, hb⟩
        rw [List.nil_append, Nat.zero_add, ← be_32] at own7
        obtain ⟨A7, c7, rfl, hc7, hcm7, by7, hA7⟩ := own7.any2
        replace hrow := hrow.below hb
        have hz7 := hb.size
        have hB7 := hB6.trans (hb.mono hz6)
        clear own7
        obtain ⟨r, hr⟩ : ∃ r : RawV, r = ⟨128, 4, A7, 4, c7, be (m % 4294967296) 4⟩ := ⟨_, rfl⟩
        have hok : rawK.ok w7 (fun b => w6.heap.size ≤ b ∧ b < w7.heap.size) r := by rw [hr]; exact ⟨hc7, hcm7, by7.bytS fun _ a ha => hA7 a ha⟩
        have hcr : rawK.cel r = [.int .i64 128, .int .i64 4, .slice A7 4 c7] := by rw [hr]; rfl
        have hone := seen_one w7 124 r #[.int .i64 128, .int .i64 4, .slice A7 4 c7] (by rw [hcr]) hok (S' := fun b => b < w7.heap.size + 1) (fun b hb => hb.2) (Nat.lt_succ_self _) (fun b hb => by omega)
        have hby8 := (Below.refl w7.heap.size w7).alloc (Nat.le_refl _) (.cells #[.int .i64 128, .int .i64 4, .slice A7 4 c7] 124)
        have hz8 := hby8.size
        have hrow8 := hrow.alloc (.cells #[.int .i64 128, .int .i64 4, .slice A7 4 c7] 124)
        have hok8 : ∀ e ∈ [r], rawK.ok (w7.alloc (.cells #[.int .i64 128, .int .i64 4, .slice A7 4 c7] 124)) (fun b => w2.heap.size ≤ b ∧ b < (w7.alloc (.cells #[.int .i64 128, .int .i64 4, .slice A7 4 c7] 124)).heap.size ∧ (Value.slice (some ⟨w5.heap.size, 0, none⟩) 3 3).ownBlock ≠ some b) e := fun e he => by
          obtain rfl : e = r := by simpa using he
          exact rawK.more (rawK.keep hok fun p hp => hby8.cell hp.2) fun b hb => ⟨by omega, by omega, fun e2 => by injection e2 with e2; have e3 : w5.heap.size = b := e2; omega⟩
        go_wp2_with (at_builtin; refine wpList_rows refRaw_ok rfl (.tmp 46) (.tmp 52) rfl hrow8 rfl rfl hone hok8 (by rw [hrl.out]; unfold maxLen; omega) (by rw [hrl.out]; omega) (by omega) ?_; intro v9 w9 hrow9 hg9)
        have hb9 := hrow8.below_app hg9 (by omega)
        obtain ⟨A8, c8, rfl, hc8, hcm8, hseen⟩ := hrow9.seen (by omega)
        have hl4 : (rs ++ [r]).length = 4 := by rw [List.length_append, hrl.out]; rfl
        rw [hl4] at hc8 hseen
        rw [hl4]
        have hz9 := hb9.size
        have hB9 := (hB7.alloc (by omega) (.cells #[.int .i64 128, .int .i64 4, .slice A7 4 c7] 124)).trans (hb9.mono (by omega))
        refine (refJoin_any w9 A8 4 c8 (rs ++ [r]) (hseen.more fun b hb => hb.2) (by omega)).mono ?_
        rintro e w10 ⟨v10, rfl, own10, hb10⟩
        go_wp2_with fail
        go_ret
        refine ⟨v10, rfl, ?_, hB9.trans (hb10.mono hB9.size)⟩
        rw [hat.out]
        have e : joinD (attrsD o zs h m true) = joinL (rs ++ [r]) := by rw [joinL_dat, List.map_append, hdat.out, hr]; rfl
        rw [e]
        exact own10.less hB9.size
  · have hsg := Lib.hid (show segL zs = [byOf 2, byOf n] ++ segT zs by unfold segL; rw [if_neg (by rw [hl.out]; exact hn0), hl.out])
    have d0 : 0 < n := by omega
    have d1 : (0 : Int) < n := by omega
    replace hn0 := Lib.hid hn0
    go_upto_region 3 with (go_at_call 30; refine hg1.mono ?_; rintro e w2 ⟨rfl, hb2⟩)
    have hq2 := hq.below hb2 hq.lt
    have hB2 := hB.trans (hb2.mono hB.size)
    have hN2 := hN1.nx hb2
    clear q0 q1 q2 q3 q4 ql hb2 hN1 hg1
    have q0 : w2.cell? ⟨w.heap.size, 0, none⟩ = some (.int .i64 o) := hq2.cellv 0 rfl
    have q1 : w2.cell? ⟨w.heap.size, 1, none⟩ = some (.slice A n c) := hq2.cellv 1 rfl
    have q2 : w2.cell? ⟨w.heap.size, 2, none⟩ = some (.int .u32 h) := hq2.cellv 2 rfl
    have q3 : w2.cell? ⟨w.heap.size, 3, none⟩ = some (.int .i64 m) := hq2.cellv 3 rfl
    have q4 : w2.cell? ⟨w.heap.size, 4, none⟩ = some (.bool b) := hq2.cellv 4 rfl
    have ql := hq2.lt
    have own3 : OwnB (w2.alloc (.cells #[.int .u8 2, .int .u8 ((n : Int) % 256)] 5)) w2.heap.size (.slice (some ⟨w2.heap.size, 0, none⟩) 2 2) 2 [byOf 2, byOf n] := own_two w2 2 n
    have hb3 := (Below.refl w2.heap.size w2).alloc (Nat.le_refl _) (.cells #[.int .u8 2, .int .u8 ((n : Int) % 256)] 5)
    have kn : IntKind.u8.wrap (n : Int) = (n : Int) % 256 := IntKind.wrap_u8 _
    go_upto_region 6 with (fail)
    generalize w2.alloc (.cells #[.int .u8 2, .int .u8 ((n : Int) % 256)] 5) = w3 at *
    have hq3 := hq2.below hb3 hq2.lt
    clear q0 q1 q2 q3 q4 ql
    have q0 : w3.cell? ⟨w.heap.size, 0, none⟩ = some (.int .i64 o) := hq3.cellv 0 rfl
    have q1 : w3.cell? ⟨w.heap.size, 1, none⟩ = some (.slice A n c) := hq3.cellv 1 rfl
    have q2 : w3.cell? ⟨w.heap.size, 2, none⟩ = some (.int .u32 h) := hq3.cellv 2 rfl
    have q3 : w3.cell? ⟨w.heap.size, 3, none⟩ = some (.int .i64 m) := hq3.cellv 3 rfl
    have q4 : w3.cell? ⟨w.heap.size, 4, none⟩ = some (.bool b) := hq3.cellv 4 rfl
    have ql := hq3.lt
    go_wp2_with fail
    go_loopw [3, 5, 22] (fun v _ i wr => ∃ k : Nat, k ≤ n ∧ i = .int .i64 (k : Int) ∧ OwnB wr w2.heap.size v (2 + 2 * k) ([byOf 2, byOf n] ++ segT (zs.take k)) ∧ Below w2.heap.size w2 wr) (fun _ _ i _ => n - (intOf i).toNat)
    case atStart => exact ⟨0, Nat.zero_le _, rfl, own3, hb3⟩
    case round =>
    clear q0 q1 q2 q3 q4 ql hq3 own3 hb3
    obtain ⟨k, hk, rfl, hown, hBr⟩ := hrel
    have hzr := hBr.size
    by_cases hlt : k < n
    · have hNr := hN2.below hBr
      obtain ⟨b5, off, rfl, hb5, hc⟩ := hNr.2.2 (by omega)
      have hck := hc k hlt
      have hki : (k : Int) < n := by omega
      have hst := Lib.hid (segT_take zs k (by rw [hl.out]; exact hlt))
      obtain ⟨A3, c3, rfl, _, by3, _⟩ := hown.any
      have kw := IntKind.wrap_u64 (nAt zs k)
      have lb5 : b5 < wr.heap.size := Nat.lt_of_lt_of_le hb5 hzr
      clear hc
      go_wp2_with fail
      refine (refPut2v wr A3 _ c3 _ _ by3 (Nat.le_refl _) (by omega) (nAt zs k)).mono ?_
      rintro e w4 ⟨v4, rfl, own4, hb4⟩
      go_wp2_with fail
      refine ⟨⟨k + 1, by omega, by go_num, ?_, hBr.trans (hb4.mono hzr)⟩, by simp [intOf]; omega⟩
      rw [hst.out, ← List.append_assoc, show 2 + 2 * (k + 1) = 2 + 2 * k + 2 by omega]
      exact own4.less hzr
    · obtain rfl : k = n := by omega
      rw [List.take_of_length_le (by rw [hl.out]; omega), ← hsg.out] at hown
      obtain ⟨m3, hm3⟩ : ∃ m3, m3 = 2 + 2 * k := ⟨_, rfl⟩
      rw [← hm3] at hown
      replace hm3 := Lib.hid hm3
      obtain ⟨P3, c3, rfl, hc3, hcm3, by3, hA3'⟩ := hown.any2
      have hqr := hq2.below hBr hq2.lt
      have hBw := hB2.trans (hBr.mono hB2.size)
      have hsg3 := Lib.hid (show segL zs = segL zs from rfl)
      have hWlo : w2.heap.size ≤ wr.heap.size := hzr
      have hA3 : ∀ a, P3 = some a → w2.heap.size ≤ a.block := hA3'
      have q0 : wr.cell? ⟨w.heap.size, 0, none⟩ = some (.int .i64 o) := hqr.cellv 0 rfl
      have q1 : wr.cell? ⟨w.heap.size, 1, none⟩ = some (.slice A k c) := hqr.cellv 1 rfl
      have q2 : wr.cell? ⟨w.heap.size, 2, none⟩ = some (.int .u32 h) := hqr.cellv 2 rfl
      have q3 : wr.cell? ⟨w.heap.size, 3, none⟩ = some (.int .i64 m) := hqr.cellv 3 rfl
      have q4 : wr.cell? ⟨w.heap.size, 4, none⟩ = some (.bool b) := hqr.cellv 4 rfl
      have ql := hqr.lt
      go_upto_region 11 with (fail)
      have kw : IntKind.u8.wrap o = o % 256 := IntKind.wrap_u8 _
      have kx : IntKind.u64.wrap h = h := by rw [IntKind.wrap_u64]; omega
      have hb0 : Below wr.heap.size wr wr.drew := (Below.refl _ _).drew
      -- region 11: 0 1 2 3M 4 5 6 7 8 9 10C 11 12M 13
      try refine wp_region_noPanic ?_
      have hs8r : (fun w' => Below wr.heap.size wr w') wr.drew := (Below.refl _ _).drew
      refine wp_region_held_drew (S := fun w' => Below wr.heap.size wr w') (by kernel_rfl) hs8r (fun _ => ?_)
      (refine held_takeA 0 (by rfl) ?_ (by kernel_rfl) (fun _ _ _ h => h) hs8r ?_ ?_; rotate_left; (focus (intro wq hSw; have hrd := hSw; (have hrd : ∀ b' o, b' < wr.heap.size → wq.cell? ⟨b', o, none⟩ = wr.cell? ⟨b', o, none⟩ := fun b' o h => Below.cell hSw (p := ⟨b', o, none⟩) h); go_simp; try with_reducible rfl; done)); try simp only [Act.put, List.setIfInBounds_toArray, List.set_cons_zero, List.set_cons_succ])
      (refine held_takeA 1 (by rfl) ?_ (by kernel_rfl) (fun _ _ _ h => h) hs8r ?_ ?_; rotate_left; (focus (intro wq hSw; have hrd := hSw; (have hrd : ∀ b' o, b' < wr.heap.size → wq.cell? ⟨b', o, none⟩ = wr.cell? ⟨b', o, none⟩ := fun b' o h => Below.cell hSw (p := ⟨b', o, none⟩) h); go_simp; try with_reducible rfl; done)); try simp only [Act.put, List.setIfInBounds_toArray, List.set_cons_zero, List.set_cons_succ])
      (refine held_takeA 2 (by rfl) ?_ (by kernel_rfl) (fun _ _ _ h => h) hs8r ?_ ?_; rotate_left; (focus (intro wq hSw; have hrd := hSw; (have hrd : ∀ b' o, b' < wr.heap.size → wq.cell? ⟨b', o, none⟩ = wr.cell? ⟨b', o, none⟩ := fun b' o h => Below.cell hSw (p := ⟨b', o, none⟩) h); go_simp; try with_reducible rfl; done)); try simp only [Act.put, List.setIfInBounds_toArray, List.set_cons_zero, List.set_cons_succ])
      (refine held_takeA 5 (by rfl) ?_ (by kernel_rfl) (fun _ _ _ h => h) hs8r ?_ ?_; rotate_left; (focus (intro wq hSw; have hrd := hSw; (have hrd : ∀ b' o, b' < wr.heap.size → wq.cell? ⟨b', o, none⟩ = wr.cell? ⟨b', o, none⟩ := fun b' o h => Below.cell hSw (p := ⟨b', o, none⟩) h); go_simp; try with_reducible rfl; done)); try simp only [Act.put, List.setIfInBounds_toArray, List.set_cons_zero, List.set_cons_succ])
      (refine held_takeA 6 (by rfl) ?_ (by kernel_rfl) (fun _ _ _ h => h) hs8r ?_ ?_; rotate_left; (focus (intro wq hSw; have hrd := hSw; (have hrd : ∀ b' o, b' < wr.heap.size → wq.cell? ⟨b', o, none⟩ = wr.cell? ⟨b', o, none⟩ := fun b' o h => Below.cell hSw (p := ⟨b', o, none⟩) h); go_simp; try with_reducible rfl; done)); try simp only [Act.put, List.setIfInBounds_toArray, List.set_cons_zero, List.set_cons_succ])
      (refine held_takeA 7 (by rfl) ?_ (by kernel_rfl) (fun _ _ _ h => h) hs8r ?_ ?_; rotate_left; (focus (intro wq hSw; have hrd := hSw; (have hrd : ∀ b' o, b' < wr.heap.size → wq.cell? ⟨b', o, none⟩ = wr.cell? ⟨b', o, none⟩ := fun b' o h => Below.cell hSw (p := ⟨b', o, none⟩) h); go_simp; try with_reducible rfl; done)); try simp only [Act.put, List.setIfInBounds_toArray, List.set_cons_zero, List.set_cons_succ])
      (refine held_takeA 8 (by rfl) ?_ (by kernel_rfl) (fun _ _ _ h => h) hs8r ?_ ?_; rotate_left; (focus (intro wq hSw; have hrd := hSw; (have hrd : ∀ b' o, b' < wr.heap.size → wq.cell? ⟨b', o, none⟩ = wr.cell? ⟨b', o, none⟩ := fun b' o h => Below.cell hSw (p := ⟨b', o, none⟩) h); go_simp; try with_reducible rfl; done)); try simp only [Act.put, List.setIfInBounds_toArray, List.set_cons_zero, List.set_cons_succ])
      (refine held_takeA 9 (by rfl) ?_ (by kernel_rfl) (fun _ _ _ h => h) hs8r ?_ ?_; rotate_left; (focus (intro wq hSw; have hrd := hSw; (have hrd : ∀ b' o, b' < wr.heap.size → wq.cell? ⟨b', o, none⟩ = wr.cell? ⟨b', o, none⟩ := fun b' o h => Below.cell hSw (p := ⟨b', o, none⟩) h); go_simp; try with_reducible rfl; done)); try simp only [Act.put, List.setIfInBounds_toArray, List.set_cons_zero, List.set_cons_succ])
      refine held_two 3 10 (by rfl) (by rfl) (by kernel_rfl) (by rfl) (by rfl) (fun KQ hKQ => ?_) (fun KQ hKQ => ?_)
      · skip
        go_simp
        have hd : (wr.alloc (.cells #[.int .u8 (o % 256)] 5)).drew = wr.drew.alloc (.cells #[.int .u8 (o % 256)] 5) := rfl
        try rw [hd]
        have own1 : OwnB (wr.drew.alloc (.cells #[.int .u8 (o % 256)] 5)) wr.heap.size (.slice (some ⟨wr.heap.size, 0, none⟩) 1 1) 1 [byOf o] := own_one wr.drew o
        have hbl := hb0.alloc hb0.size (.cells #[.int .u8 (o % 256)] 5)
        have hbl1 := (Below.refl wr.drew.heap.size wr.drew).alloc (Nat.le_refl _) (.cells #[.int .u8 (o % 256)] 5)
        skip
        have by3 := by3.nxd hbl1
        obtain ⟨g1, hg1⟩ : ∃ g1, g1 = wr.heap.size := ⟨_, rfl⟩
        have hlo1 : w2.heap.size ≤ g1 := by rw [hg1]; exact Nat.le_trans hWlo hb0.size
        generalize wr.drew.alloc (.cells #[.int .u8 (o % 256)] 5) = w4 at *
        rw [← hg1] at own1 ⊢
        replace hg1 := Lib.hid hg1
        have by1 := own1.byt
        have hs9r := hbl
        refine hKQ.out _ _ hs9r ?_
        clear hKQ KQ
        try simp only [Act.put, List.setIfInBounds_toArray, List.set_cons_zero, List.set_cons_succ]
        (refine held_takeA 4 (by rfl) ?_ (by kernel_rfl) (fun _ _ _ h => h) hs9r ?_ ?_; rotate_left; (focus (intro wq hSw; have hrd := hSw; (have hrd : ∀ b' o, b' < wr.heap.size → wq.cell? ⟨b', o, none⟩ = wr.cell? ⟨b', o, none⟩ := fun b' o h => Below.cell hSw (p := ⟨b', o, none⟩) h); go_simp; try with_reducible rfl; done)); try simp only [Act.put, List.setIfInBounds_toArray, List.set_cons_zero, List.set_cons_succ])
        refine held_callA 10 (by rfl) (by kernel_rfl) (by rfl) (fun KQ hKQ => ?_)
        go_simp
        refine (refPut_any w4 none 0 0 [] 0 Byt.none_ (by omega) (by omega) h h0 4 (by omega)).mono ?_
        rintro e w5 ⟨v5, rfl, own5, hbp⟩
        rw [List.nil_append, Nat.zero_add] at own5
        obtain ⟨P5, c5, rfl, hc5, hcm5, by5, hA5⟩ := own5.any2
        have hlo5 : ∀ a, P5 = some a → w2.heap.size ≤ a.block := fun a ha => Nat.le_trans hWlo (Nat.le_trans hbl.size (hA5 a ha))
        have hbq := hbl.trans (hbp.mono hbl.size)
        have by3 := by3.nx hbp
        have by1 := by1.nx hbp
        have hs10r := hbq
        refine hKQ.out _ _ hs10r ?_
        clear hKQ KQ
        try simp only [Act.put, List.setIfInBounds_toArray, List.set_cons_zero, List.set_cons_succ]
        (refine held_takeA 11 (by rfl) ?_ (by kernel_rfl) (fun _ _ _ h => h) hs10r ?_ ?_; rotate_left; (focus (intro wq hSw; have hrd := hSw; (have hrd : ∀ b' o, b' < wr.heap.size → wq.cell? ⟨b', o, none⟩ = wr.cell? ⟨b', o, none⟩ := fun b' o h => Below.cell hSw (p := ⟨b', o, none⟩) h); go_simp; try with_reducible rfl; done)); try simp only [Act.put, List.setIfInBounds_toArray, List.set_cons_zero, List.set_cons_succ])
        obtain ⟨rs, hrs⟩ : ∃ rs : List RawV, rs = [⟨64, 1, some ⟨g1, 0, none⟩, 1, 1, [byOf o]⟩, ⟨64, 2, P3, m3, c3, (segL zs)⟩, ⟨64, 3, P5, 4, c5, be h 4⟩] := ⟨_, rfl⟩
        have hok : ∀ r ∈ rs, rawK.ok w5 (fun b => w2.heap.size ≤ b ∧ b < w5.heap.size) r := by
          intro r hr
          rw [hrs] at hr
          simp only [List.mem_cons, List.not_mem_nil, or_false] at hr
          rcases hr with rfl | rfl | rfl
          · exact ⟨Nat.le_refl _, by show 1 ≤ maxLen; unfold maxLen; omega, by1.bytS fun _ a ha => by injection ha with ha; subst ha; exact hlo1⟩
          · exact ⟨hc3, hcm3, by3.bytS fun _ a ha => hA3 a ha⟩
          · exact ⟨hc5, hcm5, by5.bytS fun _ a ha => hlo5 a ha⟩
        have hrow := rows_lit w5 124 rs #[.int .i64 64, .int .i64 1, .slice (some ⟨g1, 0, none⟩) 1 1, .int .i64 64, .int .i64 2, .slice P3 m3 c3, .int .i64 64, .int .i64 3, .slice P5 4 c5] 3 (by rw [hrs]; rfl) (by rw [hrs]; rfl) hok (by unfold maxLen; omega)
        have hdat : rs.map dat = [(64, 1, [byOf o]), (64, 2, segL zs), (64, 3, be h 4)] := by rw [hrs]; simp only [List.map_cons, List.map_nil, dat_one]
        have hrl : rs.length = 3 := by rw [hrs]; rfl
        replace hrs := Lib.hid hrs
        refine held_callA 12 (by rfl) (by kernel_rfl) (by rfl) (fun KQ hKQ => ?_)
        go_simp
        have hbn := hbq.alloc hbq.size (.cells #[.int .i64 64, .int .i64 1, .slice (some ⟨g1, 0, none⟩) 1 1, .int .i64 64, .int .i64 2, .slice P3 m3 c3, .int .i64 64, .int .i64 3, .slice P5 4 c5] 124)
        generalize w5.alloc (.cells #[.int .i64 64, .int .i64 1, .slice (some ⟨g1, 0, none⟩) 1 1, .int .i64 64, .int .i64 2, .slice P3 m3 c3, .int .i64 64, .int .i64 3, .slice P5 4 c5] 124) = w6 at *
        generalize hg5 : w5.heap.size = g5 at hrow hbn ⊢
        subst hg5
        have hs11r := hbn
        refine hKQ.out _ _ hs11r ?_
        clear hKQ KQ
        try simp only [Act.put, List.setIfInBounds_toArray, List.set_cons_zero, List.set_cons_succ]
        (refine held_takeA 13 (by rfl) ?_ (by kernel_rfl) (fun _ _ _ h => h) hs11r ?_ ?_; rotate_left; (focus (intro wq hSw; have hrd := hSw; (have hrd : ∀ b' o, b' < wr.heap.size → wq.cell? ⟨b', o, none⟩ = wr.cell? ⟨b', o, none⟩ := fun b' o h => Below.cell hSw (p := ⟨b', o, none⟩) h); go_simp; try with_reducible rfl; done)); try simp only [Act.put, List.setIfInBounds_toArray, List.set_cons_zero, List.set_cons_succ])
        refine wpAnyH_done (by kernel_rfl) ?_ _
        try refine NoPanic.normal ?_
        have hq6 := hqr.below hbn hqr.lt
        have hB6 := hBw.trans (hbn.mono hBw.size)
        have hz6 := hB6.size
        have hlt6 : w5.heap.size < w6.heap.size := (hrow.own w5.heap.size rfl).2
        clear q0 q1 q2 q3 q4 ql
        have hf3 : w6.cell? ⟨w.heap.size, 3, none⟩ = some (.int .i64 m) := hq6.cellv 3 rfl
        have hf4 : w6.cell? ⟨w.heap.size, 4, none⟩ = some (.bool b) := hq6.cellv 4 rfl
        have hlq6 := hq6.lt
        replace hrl := Lib.hid hrl
        replace hdat := Lib.hid hdat
        have hwz : w.heap.size ≤ w5.heap.size := by have := hbq.size; have := hBw.size; omega
        have hwz2 : w2.heap.size ≤ w5.heap.size := Nat.le_trans hWlo hbq.size
        have hwz3 : w.heap.size ≤ w2.heap.size := hB2.size
        cases b
        · go_upto_region 14 with (fail)
          obtain ⟨A7, c7, he7, hc7, hcm7, hseen⟩ := hrow.seen (by omega)
          rw [hrl.out] at he7 hc7 hseen
          injection he7 with e1 e2 e3
          subst e1 e3
          go_wp2_with (go_at_call 97; refine (refJoin_any w6 _ 3 3 rs (hseen.more fun b hb => hb.2) (by omega)).mono ?_; rintro e w7 ⟨v7, rfl, own7, hb7⟩)
          go_ret
          refine ⟨v7, rfl, ?_, hB6.trans (hb7.mono hz6)⟩
          rw [hat.out]
          have e : joinD (attrsD o zs h m false) = joinL rs := by rw [joinL_dat, hdat.out]; simp [attrsD]
          rw [e]
          exact own7.less hz6
        · have km : IntKind.u64.wrap m = m % 18446744073709551616 := IntKind.wrap_u64 _
          go_wp2_with fail
          refine (refPut4v w6 none 0 0 [] 0 Byt.none_ (by omega) (by omega) m).mono ?_
          rintro e w7 ⟨v7, rfl, own7, hb⟩
          rw [List.nil_append, Nat.zero_add, ← be_32] at own7
          obtain ⟨A7, c7, rfl, hc7, hcm7, by7, hA7⟩ := own7.any2
          replace hrow := hrow.below hb
          have hz7 := hb.size
          have hB7 := hB6.trans (hb.mono hz6)
          clear own7
          obtain ⟨r, hr⟩ : ∃ r : RawV, r = ⟨128, 4, A7, 4, c7, be (m % 4294967296) 4⟩ := ⟨_, rfl⟩
          have hok : rawK.ok w7 (fun b => w6.heap.size ≤ b ∧ b < w7.heap.size) r := by rw [hr]; exact ⟨hc7, hcm7, by7.bytS fun _ a ha => hA7 a ha⟩
          have hcr : rawK.cel r = [.int .i64 128, .int .i64 4, .slice A7 4 c7] := by rw [hr]; rfl
          have hone := seen_one w7 124 r #[.int .i64 128, .int .i64 4, .slice A7 4 c7] (by rw [hcr]) hok (S' := fun b => b < w7.heap.size + 1) (fun b hb => hb.2) (Nat.lt_succ_self _) (fun b hb => by omega)
          have hby8 := (Below.refl w7.heap.size w7).alloc (Nat.le_refl _) (.cells #[.int .i64 128, .int .i64 4, .slice A7 4 c7] 124)
          have hz8 := hby8.size
          have hrow8 := hrow.alloc (.cells #[.int .i64 128, .int .i64 4, .slice A7 4 c7] 124)
          have hok8 : ∀ e ∈ [r], rawK.ok (w7.alloc (.cells #[.int .i64 128, .int .i64 4, .slice A7 4 c7] 124)) (fun b => w2.heap.size ≤ b ∧ b < (w7.alloc (.cells #[.int .i64 128, .int .i64 4, .slice A7 4 c7] 124)).heap.size ∧ (Value.slice (some ⟨w5.heap.size, 0, none⟩) 3 3).ownBlock ≠ some b) e := fun e he => by
            obtain rfl : e = r := by simpa using he
            exact rawK.more (rawK.keep hok fun p hp => hby8.cell hp.2) fun b hb => ⟨by omega, by omega, fun e2 => by injection e2 with e2; have e3 : w5.heap.size = b := e2; omega⟩
          go_wp2_with (at_builtin; refine wpList_rows refRaw_ok rfl (.tmp 46) (.tmp 52) rfl hrow8 rfl rfl hone hok8 (by rw [hrl.out]; unfold maxLen; omega) (by rw [hrl.out]; omega) (by omega) ?_; intro v9 w9 hrow9 hg9)
          have hb9 := hrow8.below_app hg9 (by omega)
          obtain ⟨A8, c8, rfl, hc8, hcm8, hseen⟩ := hrow9.seen (by omega)
          have hl4 : (rs ++ [r]).length = 4 := by rw [List.length_append, hrl.out]; rfl
          rw [hl4] at hc8 hseen
          rw [hl4]
          have hz9 := hb9.size
          have hB9 := (hB7.alloc (by omega) (.cells #[.int .i64 128, .int .i64 4, .slice A7 4 c7] 124)).trans (hb9.mono (by omega))
          refine (refJoin_any w9 A8 4 c8 (rs ++ [r]) (hseen.more fun b hb => hb.2) (by omega)).mono ?_
          rintro e w10 ⟨v10, rfl, own10, hb10⟩
          go_wp2_with fail
          go_ret
          refine ⟨v10, rfl, ?_, hB9.trans (hb10.mono hB9.size)⟩
          rw [hat.out]
          have e : joinD (attrsD o zs h m true) = joinL (rs ++ [r]) := by rw [joinL_dat, List.map_append, hdat.out, hr]; rfl
          rw [e]
          exact own10.less hB9.size
      · skip
        go_simp
        refine (refPut_any wr.drew none 0 0 [] 0 Byt.none_ (by omega) (by omega) h h0 4 (by omega)).mono ?_
        rintro e w4 ⟨v5, rfl, own5, hbp⟩
        rw [List.nil_append, Nat.zero_add] at own5
        obtain ⟨P5, c5, rfl, hc5, hcm5, by5, hA5⟩ := own5.any2
        have hlo5 : ∀ a, P5 = some a → w2.heap.size ≤ a.block := fun a ha => Nat.le_trans hWlo (Nat.le_trans hb0.size (hA5 a ha))
        have hbq := hb0.trans (hbp.mono hb0.size)
        have by3 := by3.nxd hbp
        skip
        have hs12r := hbq
        refine hKQ.out _ _ hs12r ?_
        clear hKQ KQ
        try simp only [Act.put, List.setIfInBounds_toArray, List.set_cons_zero, List.set_cons_succ]
        (refine held_takeA 11 (by rfl) ?_ (by kernel_rfl) (fun _ _ _ h => h) hs12r ?_ ?_; rotate_left; (focus (intro wq hSw; have hrd := hSw; (have hrd : ∀ b' o, b' < wr.heap.size → wq.cell? ⟨b', o, none⟩ = wr.cell? ⟨b', o, none⟩ := fun b' o h => Below.cell hSw (p := ⟨b', o, none⟩) h); go_simp; try with_reducible rfl; done)); try simp only [Act.put, List.setIfInBounds_toArray, List.set_cons_zero, List.set_cons_succ])
        refine held_callA 3 (by rfl) (by kernel_rfl) (by rfl) (fun KQ hKQ => ?_)
        go_simp
        have own1 : OwnB (w4.alloc (.cells #[.int .u8 (o % 256)] 5)) w4.heap.size (.slice (some ⟨w4.heap.size, 0, none⟩) 1 1) 1 [byOf o] := own_one w4 o
        have hbl := hbq.alloc hbq.size (.cells #[.int .u8 (o % 256)] 5)
        have hbl1 := (Below.refl w4.heap.size w4).alloc (Nat.le_refl _) (.cells #[.int .u8 (o % 256)] 5)
        have by5 := by5.nx hbl1
        have by3 := by3.nx hbl1
        obtain ⟨g1, hg1⟩ : ∃ g1, g1 = w4.heap.size := ⟨_, rfl⟩
        have hlo1 : w2.heap.size ≤ g1 := by rw [hg1]; exact Nat.le_trans hWlo hbq.size
        generalize w4.alloc (.cells #[.int .u8 (o % 256)] 5) = w5 at *
        rw [← hg1] at own1 ⊢
        replace hg1 := Lib.hid hg1
        have by1 := own1.byt
        have hs13r := hbl
        refine hKQ.out _ _ hs13r ?_
        clear hKQ KQ
        try simp only [Act.put, List.setIfInBounds_toArray, List.set_cons_zero, List.set_cons_succ]
        (refine held_takeA 4 (by rfl) ?_ (by kernel_rfl) (fun _ _ _ h => h) hs13r ?_ ?_; rotate_left; (focus (intro wq hSw; have hrd := hSw; (have hrd : ∀ b' o, b' < wr.heap.size → wq.cell? ⟨b', o, none⟩ = wr.cell? ⟨b', o, none⟩ := fun b' o h => Below.cell hSw (p := ⟨b', o, none⟩) h); go_simp; try with_reducible rfl; done)); try simp only [Act.put, List.setIfInBounds_toArray, List.set_cons_zero, List.set_cons_succ])
        obtain ⟨rs, hrs⟩ : ∃ rs : List RawV, rs = [⟨64, 1, some ⟨g1, 0, none⟩, 1, 1, [byOf o]⟩, ⟨64, 2, P3, m3, c3, (segL zs)⟩, ⟨64, 3, P5, 4, c5, be h 4⟩] := ⟨_, rfl⟩
        have hok : ∀ r ∈ rs, rawK.ok w5 (fun b => w2.heap.size ≤ b ∧ b < w5.heap.size) r := by
          intro r hr
          rw [hrs] at hr
          simp only [List.mem_cons, List.not_mem_nil, or_false] at hr
          rcases hr with rfl | rfl | rfl
          · exact ⟨Nat.le_refl _, by show 1 ≤ maxLen; unfold maxLen; omega, by1.bytS fun _ a ha => by injection ha with ha; subst ha; exact hlo1⟩
          · exact ⟨hc3, hcm3, by3.bytS fun _ a ha => hA3 a ha⟩
          · exact ⟨hc5, hcm5, by5.bytS fun _ a ha => hlo5 a ha⟩
        have hrow := rows_lit w5 124 rs #[.int .i64 64, .int .i64 1, .slice (some ⟨g1, 0, none⟩) 1 1, .int .i64 64, .int .i64 2, .slice P3 m3 c3, .int .i64 64, .int .i64 3, .slice P5 4 c5] 3 (by rw [hrs]; rfl) (by rw [hrs]; rfl) hok (by unfold maxLen; omega)
        have hdat : rs.map dat = [(64, 1, [byOf o]), (64, 2, segL zs), (64, 3, be h 4)] := by rw [hrs]; simp only [List.map_cons, List.map_nil, dat_one]
        have hrl : rs.length = 3 := by rw [hrs]; rfl
        replace hrs := Lib.hid hrs
        refine held_callA 12 (by rfl) (by kernel_rfl) (by rfl) (fun KQ hKQ => ?_)
        go_simp
        have hbn := hbl.alloc hbl.size (.cells #[.int .i64 64, .int .i64 1, .slice (some ⟨g1, 0, none⟩) 1 1, .int .i64 64, .int .i64 2, .slice P3 m3 c3, .int .i64 64, .int .i64 3, .slice P5 4 c5] 124)
        generalize w5.alloc (.cells #[.int .i64 64, .int .i64 1, .slice (some ⟨g1, 0, none⟩) 1 1, .int .i64 64, .int .i64 2, .slice P3 m3 c3, .int .i64 64, .int .i64 3, .slice P5 4 c5] 124) = w6 at *
        generalize hg5 : w5.heap.size = g5 at hrow hbn ⊢
        subst hg5
        have hs14r := hbn
        refine hKQ.out _ _ hs14r ?_
        clear hKQ KQ
        try simp only [Act.put, List.setIfInBounds_toArray, List.set_cons_zero, List.set_cons_succ]
        (refine held_takeA 13 (by rfl) ?_ (by kernel_rfl) (fun _ _ _ h => h) hs14r ?_ ?_; rotate_left; (focus (intro wq hSw; have hrd := hSw; (have hrd : ∀ b' o, b' < wr.heap.size → wq.cell? ⟨b', o, none⟩ = wr.cell? ⟨b', o, none⟩ := fun b' o h => Below.cell hSw (p := ⟨b', o, none⟩) h); go_simp; try with_reducible rfl; done)); try simp only [Act.put, List.setIfInBounds_toArray, List.set_cons_zero, List.set_cons_succ])
        refine wpAnyH_done (by kernel_rfl) ?_ _
        try refine NoPanic.normal ?_
        have hq6 := hqr.below hbn hqr.lt
        have hB6 := hBw.trans (hbn.mono hBw.size)
        have hz6 := hB6.size
        have hlt6 : w5.heap.size < w6.heap.size := (hrow.own w5.heap.size rfl).2
        clear q0 q1 q2 q3 q4 ql
        have hf3 : w6.cell? ⟨w.heap.size, 3, none⟩ = some (.int .i64 m) := hq6.cellv 3 rfl
        have hf4 : w6.cell? ⟨w.heap.size, 4, none⟩ = some (.bool b) := hq6.cellv 4 rfl
        have hlq6 := hq6.lt
        replace hrl := Lib.hid hrl
        replace hdat := Lib.hid hdat
        have hwz : w.heap.size ≤ w5.heap.size := by have := hbl.size; have := hBw.size; omega
        have hwz2 : w2.heap.size ≤ w5.heap.size := Nat.le_trans hWlo hbl.size
        have hwz3 : w.heap.size ≤ w2.heap.size := hB2.size
        cases b
        · go_upto_region 14 with (fail)
          obtain ⟨A7, c7, he7, hc7, hcm7, hseen⟩ := hrow.seen (by omega)
          rw [hrl.out] at he7 hc7 hseen
          injection he7 with e1 e2 e3
          subst e1 e3
          go_wp2_with (go_at_call 97; refine (refJoin_any w6 _ 3 3 rs (hseen.more fun b hb => hb.2) (by omega)).mono ?_; rintro e w7 ⟨v7, rfl, own7, hb7⟩)
          go_ret
          refine ⟨v7, rfl, ?_, hB6.trans (hb7.mono hz6)⟩
          rw [hat.out]
          have e : joinD (attrsD o zs h m false) = joinL rs := by rw [joinL_dat, hdat.out]; simp [attrsD]
          rw [e]
          exact own7.less hz6
        · have km : IntKind.u64.wrap m = m % 18446744073709551616 := IntKind.wrap_u64 _
          go_wp2_with fail
          refine (refPut4v w6 none 0 0 [] 0 Byt.none_ (by omega) (by omega) m).mono ?_
          rintro e w7 ⟨v7, rfl, own7, hb⟩
          rw [List.nil_append, Nat.zero_add, ← be_32] at own7
          obtain ⟨A7, c7, rfl, hc7, hcm7, by7, hA7⟩ := own7.any2
          replace hrow := hrow.below hb
          have hz7 := hb.size
          have hB7 := hB6.trans (hb.mono hz6)
          clear own7
          obtain ⟨r, hr⟩ : ∃ r : RawV, r = ⟨128, 4, A7, 4, c7, be (m % 4294967296) 4⟩ := ⟨_, rfl⟩
          have hok : rawK.ok w7 (fun b => w6.heap.size ≤ b ∧ b < w7.heap.size) r := by rw [hr]; exact ⟨hc7, hcm7, by7.bytS fun _ a ha => hA7 a ha⟩
          have hcr : rawK.cel r = [.int .i64 128, .int .i64 4, .slice A7 4 c7] := by rw [hr]; rfl
          have hone := seen_one w7 124 r #[.int .i64 128, .int .i64 4, .slice A7 4 c7] (by rw [hcr]) hok (S' := fun b => b < w7.heap.size + 1) (fun b hb => hb.2) (Nat.lt_succ_self _) (fun b hb => by omega)
          have hby8 := (Below.refl w7.heap.size w7).alloc (Nat.le_refl _) (.cells #[.int .i64 128, .int .i64 4, .slice A7 4 c7] 124)
          have hz8 := hby8.size
          have hrow8 := hrow.alloc (.cells #[.int .i64 128, .int .i64 4, .slice A7 4 c7] 124)
          have hok8 : ∀ e ∈ [r], rawK.ok (w7.alloc (.cells #[.int .i64 128, .int .i64 4, .slice A7 4 c7] 124)) (fun b => w2.heap.size ≤ b ∧ b < (w7.alloc (.cells #[.int .i64 128, .int .i64 4, .slice A7 4 c7] 124)).heap.size ∧ (Value.slice (some ⟨w5.heap.size, 0, none⟩) 3 3).ownBlock ≠ some b) e := fun e he => by
            obtain rfl : e = r := by simpa using he
            exact rawK.more (rawK.keep hok fun p hp => hby8.cell hp.2) fun b hb => ⟨by omega, by omega, fun e2 => by injection e2 with e2; have e3 : w5.heap.size = b := e2; omega⟩
          go_wp2_with (at_builtin; refine wpList_rows refRaw_ok rfl (.tmp 46) (.tmp 52) rfl hrow8 rfl rfl hone hok8 (by rw [hrl.out]; unfold maxLen; omega) (by rw [hrl.out]; omega) (by omega) ?_; intro v9 w9 hrow9 hg9)
          have hb9 := hrow8.below_app hg9 (by omega)
          obtain ⟨A8, c8, rfl, hc8, hcm8, hseen⟩ := hrow9.seen (by omega)
          have hl4 : (rs ++ [r]).length = 4 := by rw [List.length_append, hrl.out]; rfl
          rw [hl4] at hc8 hseen
          rw [hl4]
          have hz9 := hb9.size
          have hB9 := (hB7.alloc (by omega) (.cells #[.int .i64 128, .int .i64 4, .slice A7 4 c7] 124)).trans (hb9.mono (by omega))
          refine (refJoin_any w9 A8 4 c8 (rs ++ [r]) (hseen.more fun b hb => hb.2) (by omega)).mono ?_
          rintro e w10 ⟨v10, rfl, own10, hb10⟩
          go_wp2_with fail
          go_ret
          refine ⟨v10, rfl, ?_, hB9.trans (hb10.mono hB9.size)⟩
          rw [hat.out]
          have e : joinD (attrsD o zs h m true) = joinL (rs ++ [r]) := by rw [joinL_dat, List.map_append, hdat.out, hr]; rfl
          rw [e]
          exact own10.less hB9.size
end Go.Proofs.Ytfnclmacodchfaa
