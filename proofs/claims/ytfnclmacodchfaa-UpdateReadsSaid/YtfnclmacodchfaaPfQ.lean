/- update: counted, body, Size, Bytes, and the document's. -/
import Derived.Test.YtfnclmacodchfaaPfP
import Derived.Test.YtfnclmacodchfaaAtQ
namespace Go.Proofs.Ytfnclmacodchfaa
set_option linter.unusedVariables false
open Go Go.RowKit

/-- bytes behind how many there are. -/
def cntB (l : List UInt8) : List UInt8 := be ((l.length : Int) % 18446744073709551616) 2 ++ l
theorem cntB_len (l : List UInt8) : (cntB l).length = 2 + l.length := by unfold cntB; rw [List.length_append, be_len]
def attU (l2 : List (Int × Int)) (o : Int) (zs : List Int) (h m : Int) (b : Bool) : List UInt8 := if l2.length = 0 then [] else attrsB o zs h m b
/-- a body's bytes, however long. -/
def bodyB (l1 l2 : List (Int × Int)) (o : Int) (zs : List Int) (h m : Int) (b : Bool) : List UInt8 := cntB (pfAll l1) ++ cntB (attU l2 o zs h m b) ++ pfAll l2
set_option maxRecDepth 100000 in
theorem counted_any (w : World) (A : Option Addr) (n c : Nat) (l : List UInt8) (h : Byt w w.heap.size A n l) (hn : n ≤ 10000000) :
    Calls Try.prog 68 #[.slice A n c] w fun e w' => ∃ v, e = .returned v ∧ OwnB w' w.heap.size v (2 + n) (cntB l) ∧ Below w.heap.size w w' := by
  have hl := Lib.hid h.1
  go_enter Try.func68, Try.ntmps68
  go_wp2_with (first
    | (go_at_call 90; refine (put16_any w none 0 0 [] 0 Byt.none_ (by omega) (by omega) (n : Int)).mono ?_; rintro e w2 ⟨v2, rfl, own2, hb2⟩; have by2 := h.nx hb2; have hz2 := hb2.size)
    | (at_builtin; refine wpList_app _ rfl (.tmp 5) (.tmp 6) rfl w.heap.size _ _ _ rfl own2 _ _ n c _ rfl by2 (by omega) hz2 ?_; intro v3 w3 own3 hg3 hd3; clear hd3; have hb3 := own2.below_app hg3 hz2))
  go_ret
  refine ⟨_, rfl, ?_, hb2.trans hb3⟩
  unfold cntB
  rw [hl.out]
  rw [Nat.zero_add] at own3
  exact own3
theorem attrsB_le (o : Int) (zs : List Int) (h m : Int) (b : Bool) : (attrsB o zs h m b).length ≤ 100 := by
  cases hg : goodA o zs h m b
  · unfold attrsB; rw [hg]; simp
  · have := (attrsB_len hg).2
    omega
theorem attU_le (l2 : List (Int × Int)) (o : Int) (zs : List Int) (h m : Int) (b : Bool) : (attU l2 o zs h m b).length ≤ 100 := by
  unfold attU
  split
  · simp
  · exact attrsB_le o zs h m b
set_option maxRecDepth 100000 in
set_option maxHeartbeats 8000000 in
theorem upBody_any (w : World) (A1 : Option Addr) (n1 c1 : Nat) (l1 : List (Int × Int)) (o : Int) (A : Option Addr) (n c : Nat) (zs : List Int) (h m : Int) (b : Bool) (A2 : Option Addr) (n2 c2 : Nat) (l2 : List (Int × Int)) (u : UpR w A1 n1 l1 A n zs h A2 n2 l2) (z1 : n1 ≤ 100000) (z2 : n2 ≤ 100000) (z3 : n ≤ 100000) :
    Calls Try.prog 31 #[.agg #[.slice A1 n1 c1, .int .i64 o, .slice A n c, .int .u32 h, .int .i64 m, .bool b, .slice A2 n2 c2]] w fun e w' => ∃ v, e = .returned v ∧ OwnB w' w.heap.size v (bodyB l1 l2 o zs h m b).length (bodyB l1 l2 o zs h m b) ∧ Below w.heap.size w w' := by
  have hB := (Below.refl w.heap.size w).alloc (Nat.le_refl _) (.cells #[.slice A1 n1 c1, .int .i64 o, .slice A n c, .int .u32 h, .int .i64 m, .bool b, .slice A2 n2 c2] 28)
  have hp := Blk.new w 28 #[.slice A1 n1 c1, .int .i64 o, .slice A n c, .int .u32 h, .int .i64 m, .bool b, .slice A2 n2 c2]
  have hl2 := Lib.hid u.s2.1
  have hl1 := Lib.hid u.s1.1
  have hbod := Lib.hid (show bodyB l1 l2 o zs h m b = cntB (pfAll l1) ++ cntB (attU l2 o zs h m b) ++ pfAll l2 from rfl)
  have hlen := Lib.hid (show (bodyB l1 l2 o zs h m b).length = 2 + (pfAll l1).length + (2 + (attU l2 o zs h m b).length) + (pfAll l2).length by unfold bodyB; rw [List.length_append, List.length_append, cntB_len, cntB_len])
  have hal := attU_le l2 o zs h m b
  have hp1 := pfAll_len l1
  have hp2 := pfAll_len l2
  rw [hl1.out] at hp1
  rw [hl2.out] at hp2
  go_enter Try.func31, Try.ntmps31
  go_upto_region 1 with (fail)
  generalize w.alloc (.cells #[.slice A1 n1 c1, .int .i64 o, .slice A n c, .int .u32 h, .int .i64 m, .bool b, .slice A2 n2 c2] 28) = w1 at *
  have hz := hB.size
  have u1 := u.nx hB
  have q0 : w1.cell? ⟨w.heap.size, 0, none⟩ = some (.slice A1 n1 c1) := hp.cellv 0 rfl
  have q1 : w1.cell? ⟨w.heap.size, 1, none⟩ = some (.int .i64 o) := hp.cellv 1 rfl
  have q2 : w1.cell? ⟨w.heap.size, 2, none⟩ = some (.slice A n c) := hp.cellv 2 rfl
  have q3 : w1.cell? ⟨w.heap.size, 3, none⟩ = some (.int .u32 h) := hp.cellv 3 rfl
  have q4 : w1.cell? ⟨w.heap.size, 4, none⟩ = some (.int .i64 m) := hp.cellv 4 rfl
  have q5 : w1.cell? ⟨w.heap.size, 5, none⟩ = some (.bool b) := hp.cellv 5 rfl
  have q6 : w1.cell? ⟨w.heap.size, 6, none⟩ = some (.slice A2 n2 c2) := hp.cellv 6 rfl
  have ql := hp.lt
  by_cases h0 : n2 = 0
  · have hatt := Lib.hid (show attU l2 o zs h m b = [] by unfold attU; rw [if_pos (by rw [hl2.out]; exact h0)])
    have d0 : ¬ (0 < n2) := by omega
    have d1 : ¬ ((0 : Int) < n2) := by omega
    replace h0 := Lib.hid h0
    go_upto_region 4 with (fail)
    have by7 : Byt w1 w1.heap.size none 0 [] := Byt.none_
    have hb0 : Below w1.heap.size w1 w1.drew := (Below.refl _ _).drew
    have ud : UpR w1.drew A1 n1 l1 A n zs h A2 n2 l2 := u1.nx hb0
    -- region 4: 0 1 2C 3C 4 5C 6 7 8C 9M 10C 11
    try refine wp_region_noPanic ?_
    have hs1r : (fun w' => Below w1.heap.size w1 w') w1.drew := (Below.refl _ _).drew
    refine wp_region_held_drew (S := fun w' => Below w1.heap.size w1 w') (by kernel_rfl) hs1r (fun _ => ?_)
    (refine held_takeA 0 (by rfl) ?_ (by kernel_rfl) (fun _ _ _ h => h) hs1r ?_ ?_; rotate_left; (focus (intro wq hSw; have hrd := hSw; (have hrd : ∀ b' o, b' < w1.heap.size → wq.cell? ⟨b', o, none⟩ = w1.cell? ⟨b', o, none⟩ := fun b' o h => Below.cell hSw (p := ⟨b', o, none⟩) h); go_simp; try with_reducible rfl; done)); try simp only [Act.put, List.setIfInBounds_toArray, List.set_cons_zero, List.set_cons_succ])
    (refine held_takeA 1 (by rfl) ?_ (by kernel_rfl) (fun _ _ _ h => h) hs1r ?_ ?_; rotate_left; (focus (intro wq hSw; have hrd := hSw; (have hrd : ∀ b' o, b' < w1.heap.size → wq.cell? ⟨b', o, none⟩ = w1.cell? ⟨b', o, none⟩ := fun b' o h => Below.cell hSw (p := ⟨b', o, none⟩) h); go_simp; try with_reducible rfl; done)); try simp only [Act.put, List.setIfInBounds_toArray, List.set_cons_zero, List.set_cons_succ])
    (refine held_takeA 4 (by rfl) ?_ (by kernel_rfl) (fun _ _ _ h => h) hs1r ?_ ?_; rotate_left; (focus (intro wq hSw; have hrd := hSw; (have hrd : ∀ b' o, b' < w1.heap.size → wq.cell? ⟨b', o, none⟩ = w1.cell? ⟨b', o, none⟩ := fun b' o h => Below.cell hSw (p := ⟨b', o, none⟩) h); go_simp; try with_reducible rfl; done)); try simp only [Act.put, List.setIfInBounds_toArray, List.set_cons_zero, List.set_cons_succ])
    (refine held_takeA 6 (by rfl) ?_ (by kernel_rfl) (fun _ _ _ h => h) hs1r ?_ ?_; rotate_left; (focus (intro wq hSw; have hrd := hSw; (have hrd : ∀ b' o, b' < w1.heap.size → wq.cell? ⟨b', o, none⟩ = w1.cell? ⟨b', o, none⟩ := fun b' o h => Below.cell hSw (p := ⟨b', o, none⟩) h); go_simp; try with_reducible rfl; done)); try simp only [Act.put, List.setIfInBounds_toArray, List.set_cons_zero, List.set_cons_succ])
    (refine held_takeA 7 (by rfl) ?_ (by kernel_rfl) (fun _ _ _ h => h) hs1r ?_ ?_; rotate_left; (focus (intro wq hSw; have hrd := hSw; (have hrd : ∀ b' o, b' < w1.heap.size → wq.cell? ⟨b', o, none⟩ = w1.cell? ⟨b', o, none⟩ := fun b' o h => Below.cell hSw (p := ⟨b', o, none⟩) h); go_simp; try with_reducible rfl; done)); try simp only [Act.put, List.setIfInBounds_toArray, List.set_cons_zero, List.set_cons_succ])
    refine held_callA 2 (by rfl) (by kernel_rfl) (by rfl) (fun KQ hKQ => ?_)
    go_simp
    refine (prefixAll_any w1.drew A1 n1 c1 l1 ud.s1 (by omega)).mono ?_
    rintro e w3 ⟨v3, rfl, own3, hb3⟩
    obtain ⟨A3, c3, rfl, hc3, hcm3, by3, hA3⟩ := own3.any2
    have hx3 := hb0.trans hb3
    have u3 := u1.nx hx3
    have by7 := (show Byt w1.drew w1.drew.heap.size none 0 [] from by7).nx hb3
    have hs2r := hx3
    refine hKQ.out _ _ hs2r ?_
    clear hKQ KQ
    try simp only [Act.put, List.setIfInBounds_toArray, List.set_cons_zero, List.set_cons_succ]
    refine held_callA 3 (by rfl) (by kernel_rfl) (by rfl) (fun KQ hKQ => ?_)
    go_simp
    refine (counted_any w3 A3 _ c3 _ by3 (by omega)).mono ?_
    rintro e w4 ⟨v4, rfl, own4, hb4⟩
    obtain ⟨A4, c4, rfl, hc4, hcm4, by4, hA4⟩ := own4.any2
    have hx4 := hx3.trans (hb4.mono hx3.size)
    have u4 := u3.nx hb4
    have by7 := by7.nx hb4
    have hs3r := hx4
    refine hKQ.out _ _ hs3r ?_
    clear hKQ KQ
    try simp only [Act.put, List.setIfInBounds_toArray, List.set_cons_zero, List.set_cons_succ]
    refine held_callA 5 (by rfl) (by kernel_rfl) (by rfl) (fun KQ hKQ => ?_)
    go_simp
    refine (counted_any w4 none 0 0 _ by7 (by omega)).mono ?_
    rintro e w5 ⟨v5, rfl, own5, hb5⟩
    obtain ⟨A5, c5, rfl, hc5, hcm5, by5, hA5⟩ := own5.any2
    have hx5 := hx4.trans (hb5.mono hx4.size)
    have u5 := u4.nx hb5
    have by4 := by4.nx hb5
    have hs4r := hx5
    refine hKQ.out _ _ hs4r ?_
    clear hKQ KQ
    try simp only [Act.put, List.setIfInBounds_toArray, List.set_cons_zero, List.set_cons_succ]
    refine held_callA 8 (by rfl) (by kernel_rfl) (by rfl) (fun KQ hKQ => ?_)
    go_simp
    refine (prefixAll_any w5 A2 n2 c2 l2 u5.s2 (by omega)).mono ?_
    rintro e w6 ⟨v6, rfl, own6, hb6⟩
    obtain ⟨A6, c6, rfl, hc6, hcm6, by6, hA6⟩ := own6.any2
    have hx6 := hx5.trans (hb6.mono hx5.size)
    have by4 := by4.nx hb6
    have by5 := by5.nx hb6
    have hs5r := hx6
    refine hKQ.out _ _ hs5r ?_
    clear hKQ KQ
    try simp only [Act.put, List.setIfInBounds_toArray, List.set_cons_zero, List.set_cons_succ]
    refine held_callA 9 (by rfl) (by kernel_rfl) (by rfl) (fun KQ hKQ => ?_)
    go_simp
    have hbn := (Below.refl w6.heap.size w6).alloc (Nat.le_refl _) (.cells #[.slice A4 (2 + (pfAll l1).length) c4, .slice A5 (2 + 0) c5, .slice A6 (pfAll l2).length c6] 36)
    have hr := Blk.new w6 36 #[.slice A4 (2 + (pfAll l1).length) c4, .slice A5 (2 + 0) c5, .slice A6 (pfAll l2).length c6]
    have by4 := by4.nx hbn
    have by5 := by5.nx hbn
    have by6 := by6.nx hbn
    generalize w6.alloc (.cells #[.slice A4 (2 + (pfAll l1).length) c4, .slice A5 (2 + 0) c5, .slice A6 (pfAll l2).length c6] 36) = w7 at *
    have hx7 := hx6.trans (hbn.mono hx6.size)
    have hs6r := hx7
    refine hKQ.out _ _ hs6r ?_
    clear hKQ KQ
    try simp only [Act.put, List.setIfInBounds_toArray, List.set_cons_zero, List.set_cons_succ]
    refine held_callA 10 (by rfl) (by kernel_rfl) (by rfl) (fun KQ hKQ => ?_)
    go_simp
    refine (concatB_any w7 w6.heap.size hr.lt A4 _ c4 _ A5 _ c5 _ A6 _ c6 _ (hr.cellv 0 rfl) (hr.cellv 1 rfl) (hr.cellv 2 rfl) by4 by5 by6 (by omega) (by omega) (by omega)).mono ?_
    rintro e w8 ⟨v8, rfl, own8, hb8⟩
    have hx8 := hx7.trans (hb8.mono hx7.size)
    have hs7r := hx8
    refine hKQ.out _ _ hs7r ?_
    clear hKQ KQ
    try simp only [Act.put, List.setIfInBounds_toArray, List.set_cons_zero, List.set_cons_succ]
    (refine held_takeA 11 (by rfl) ?_ (by kernel_rfl) (fun _ _ _ h => h) hs7r ?_ ?_; rotate_left; (focus (intro wq hSw; have hrd := hSw; (have hrd : ∀ b' o, b' < w1.heap.size → wq.cell? ⟨b', o, none⟩ = w1.cell? ⟨b', o, none⟩ := fun b' o h => Below.cell hSw (p := ⟨b', o, none⟩) h); go_simp; try with_reducible rfl; done)); try simp only [Act.put, List.setIfInBounds_toArray, List.set_cons_zero, List.set_cons_succ])
    refine wpAnyH_done (by kernel_rfl) ?_ _
    try refine NoPanic.normal ?_
    go_wp2_with fail
    go_ret
    refine ⟨_, rfl, ?_, hB.trans (hx8.mono hB.size)⟩
    rw [hlen.out, hbod.out, hatt.out]
    exact own8.less (Nat.le_trans hB.size hx7.size)
  · have hatt := Lib.hid (show attU l2 o zs h m b = attrsB o zs h m b by unfold attU; rw [if_neg (by rw [hl2.out]; exact h0)])
    have d0 : 0 < n2 := by omega
    have d1 : (0 : Int) < n2 := by omega
    have hab := attrsB_le o zs h m b
    go_upto_region 4 with (go_at_call 23; refine (attrBytes_any w1 o A n c zs h m b u1.pa u1.h0 u1.h1).mono ?_; rintro e w2 ⟨v2, rfl, own2, hb2⟩; obtain ⟨A7, c7, rfl, hc7, hcm7, by7, hA7⟩ := own2.any2)
    have hp2 := hp.below hb2 hp.lt
    have hB2 := hB.trans (hb2.mono hz)
    have u2 := u1.nx hb2
    clear q0 q1 q2 q3 q4 q5 q6 ql
    have q0 : w2.cell? ⟨w.heap.size, 0, none⟩ = some (.slice A1 n1 c1) := hp2.cellv 0 rfl
    have q1 : w2.cell? ⟨w.heap.size, 1, none⟩ = some (.int .i64 o) := hp2.cellv 1 rfl
    have q2 : w2.cell? ⟨w.heap.size, 2, none⟩ = some (.slice A n c) := hp2.cellv 2 rfl
    have q3 : w2.cell? ⟨w.heap.size, 3, none⟩ = some (.int .u32 h) := hp2.cellv 3 rfl
    have q4 : w2.cell? ⟨w.heap.size, 4, none⟩ = some (.int .i64 m) := hp2.cellv 4 rfl
    have q5 : w2.cell? ⟨w.heap.size, 5, none⟩ = some (.bool b) := hp2.cellv 5 rfl
    have q6 : w2.cell? ⟨w.heap.size, 6, none⟩ = some (.slice A2 n2 c2) := hp2.cellv 6 rfl
    have ql := hp2.lt
    have hb0 : Below w2.heap.size w2 w2.drew := (Below.refl _ _).drew
    have ud : UpR w2.drew A1 n1 l1 A n zs h A2 n2 l2 := u2.nx hb0
    -- region 4: 0 1 2C 3C 4 5C 6 7 8C 9M 10C 11
    try refine wp_region_noPanic ?_
    have hs8r : (fun w' => Below w2.heap.size w2 w') w2.drew := (Below.refl _ _).drew
    refine wp_region_held_drew (S := fun w' => Below w2.heap.size w2 w') (by kernel_rfl) hs8r (fun _ => ?_)
    (refine held_takeA 0 (by rfl) ?_ (by kernel_rfl) (fun _ _ _ h => h) hs8r ?_ ?_; rotate_left; (focus (intro wq hSw; have hrd := hSw; (have hrd : ∀ b' o, b' < w2.heap.size → wq.cell? ⟨b', o, none⟩ = w2.cell? ⟨b', o, none⟩ := fun b' o h => Below.cell hSw (p := ⟨b', o, none⟩) h); go_simp; try with_reducible rfl; done)); try simp only [Act.put, List.setIfInBounds_toArray, List.set_cons_zero, List.set_cons_succ])
    (refine held_takeA 1 (by rfl) ?_ (by kernel_rfl) (fun _ _ _ h => h) hs8r ?_ ?_; rotate_left; (focus (intro wq hSw; have hrd := hSw; (have hrd : ∀ b' o, b' < w2.heap.size → wq.cell? ⟨b', o, none⟩ = w2.cell? ⟨b', o, none⟩ := fun b' o h => Below.cell hSw (p := ⟨b', o, none⟩) h); go_simp; try with_reducible rfl; done)); try simp only [Act.put, List.setIfInBounds_toArray, List.set_cons_zero, List.set_cons_succ])
    (refine held_takeA 4 (by rfl) ?_ (by kernel_rfl) (fun _ _ _ h => h) hs8r ?_ ?_; rotate_left; (focus (intro wq hSw; have hrd := hSw; (have hrd : ∀ b' o, b' < w2.heap.size → wq.cell? ⟨b', o, none⟩ = w2.cell? ⟨b', o, none⟩ := fun b' o h => Below.cell hSw (p := ⟨b', o, none⟩) h); go_simp; try with_reducible rfl; done)); try simp only [Act.put, List.setIfInBounds_toArray, List.set_cons_zero, List.set_cons_succ])
    (refine held_takeA 6 (by rfl) ?_ (by kernel_rfl) (fun _ _ _ h => h) hs8r ?_ ?_; rotate_left; (focus (intro wq hSw; have hrd := hSw; (have hrd : ∀ b' o, b' < w2.heap.size → wq.cell? ⟨b', o, none⟩ = w2.cell? ⟨b', o, none⟩ := fun b' o h => Below.cell hSw (p := ⟨b', o, none⟩) h); go_simp; try with_reducible rfl; done)); try simp only [Act.put, List.setIfInBounds_toArray, List.set_cons_zero, List.set_cons_succ])
    (refine held_takeA 7 (by rfl) ?_ (by kernel_rfl) (fun _ _ _ h => h) hs8r ?_ ?_; rotate_left; (focus (intro wq hSw; have hrd := hSw; (have hrd : ∀ b' o, b' < w2.heap.size → wq.cell? ⟨b', o, none⟩ = w2.cell? ⟨b', o, none⟩ := fun b' o h => Below.cell hSw (p := ⟨b', o, none⟩) h); go_simp; try with_reducible rfl; done)); try simp only [Act.put, List.setIfInBounds_toArray, List.set_cons_zero, List.set_cons_succ])
    refine held_callA 2 (by rfl) (by kernel_rfl) (by rfl) (fun KQ hKQ => ?_)
    go_simp
    refine (prefixAll_any w2.drew A1 n1 c1 l1 ud.s1 (by omega)).mono ?_
    rintro e w3 ⟨v3, rfl, own3, hb3⟩
    obtain ⟨A3, c3, rfl, hc3, hcm3, by3, hA3⟩ := own3.any2
    have hx3 := hb0.trans hb3
    have u3 := u2.nx hx3
    have by7 := (show Byt w2.drew w2.drew.heap.size A7 (attrsB o zs h m b).length (attrsB o zs h m b) from by7).nx hb3
    have hs9r := hx3
    refine hKQ.out _ _ hs9r ?_
    clear hKQ KQ
    try simp only [Act.put, List.setIfInBounds_toArray, List.set_cons_zero, List.set_cons_succ]
    refine held_callA 3 (by rfl) (by kernel_rfl) (by rfl) (fun KQ hKQ => ?_)
    go_simp
    refine (counted_any w3 A3 _ c3 _ by3 (by omega)).mono ?_
    rintro e w4 ⟨v4, rfl, own4, hb4⟩
    obtain ⟨A4, c4, rfl, hc4, hcm4, by4, hA4⟩ := own4.any2
    have hx4 := hx3.trans (hb4.mono hx3.size)
    have u4 := u3.nx hb4
    have by7 := by7.nx hb4
    have hs10r := hx4
    refine hKQ.out _ _ hs10r ?_
    clear hKQ KQ
    try simp only [Act.put, List.setIfInBounds_toArray, List.set_cons_zero, List.set_cons_succ]
    refine held_callA 5 (by rfl) (by kernel_rfl) (by rfl) (fun KQ hKQ => ?_)
    go_simp
    refine (counted_any w4 A7 (attrsB o zs h m b).length c7 _ by7 (by omega)).mono ?_
    rintro e w5 ⟨v5, rfl, own5, hb5⟩
    obtain ⟨A5, c5, rfl, hc5, hcm5, by5, hA5⟩ := own5.any2
    have hx5 := hx4.trans (hb5.mono hx4.size)
    have u5 := u4.nx hb5
    have by4 := by4.nx hb5
    have hs11r := hx5
    refine hKQ.out _ _ hs11r ?_
    clear hKQ KQ
    try simp only [Act.put, List.setIfInBounds_toArray, List.set_cons_zero, List.set_cons_succ]
    refine held_callA 8 (by rfl) (by kernel_rfl) (by rfl) (fun KQ hKQ => ?_)
    go_simp
    refine (prefixAll_any w5 A2 n2 c2 l2 u5.s2 (by omega)).mono ?_
    rintro e w6 ⟨v6, rfl, own6, hb6⟩
    obtain ⟨A6, c6, rfl, hc6, hcm6, by6, hA6⟩ := own6.any2
    have hx6 := hx5.trans (hb6.mono hx5.size)
    have by4 := by4.nx hb6
    have by5 := by5.nx hb6
    have hs12r := hx6
    refine hKQ.out _ _ hs12r ?_
    clear hKQ KQ
    try simp only [Act.put, List.setIfInBounds_toArray, List.set_cons_zero, List.set_cons_succ]
    refine held_callA 9 (by rfl) (by kernel_rfl) (by rfl) (fun KQ hKQ => ?_)
    go_simp
    have hbn := (Below.refl w6.heap.size w6).alloc (Nat.le_refl _) (.cells #[.slice A4 (2 + (pfAll l1).length) c4, .slice A5 (2 + (attrsB o zs h m b).length) c5, .slice A6 (pfAll l2).length c6] 36)
    have hr := Blk.new w6 36 #[.slice A4 (2 + (pfAll l1).length) c4, .slice A5 (2 + (attrsB o zs h m b).length) c5, .slice A6 (pfAll l2).length c6]
    have by4 := by4.nx hbn
    have by5 := by5.nx hbn
    have by6 := by6.nx hbn
    generalize w6.alloc (.cells #[.slice A4 (2 + (pfAll l1).length) c4, .slice A5 (2 + (attrsB o zs h m b).length) c5, .slice A6 (pfAll l2).length c6] 36) = w7 at *
    have hx7 := hx6.trans (hbn.mono hx6.size)
    have hs13r := hx7
    refine hKQ.out _ _ hs13r ?_
    clear hKQ KQ
    try simp only [Act.put, List.setIfInBounds_toArray, List.set_cons_zero, List.set_cons_succ]
    refine held_callA 10 (by rfl) (by kernel_rfl) (by rfl) (fun KQ hKQ => ?_)
    go_simp
    refine (concatB_any w7 w6.heap.size hr.lt A4 _ c4 _ A5 _ c5 _ A6 _ c6 _ (hr.cellv 0 rfl) (hr.cellv 1 rfl) (hr.cellv 2 rfl) by4 by5 by6 (by omega) (by omega) (by omega)).mono ?_
    rintro e w8 ⟨v8, rfl, own8, hb8⟩
    have hx8 := hx7.trans (hb8.mono hx7.size)
    have hs14r := hx8
    refine hKQ.out _ _ hs14r ?_
    clear hKQ KQ
    try simp only [Act.put, List.setIfInBounds_toArray, List.set_cons_zero, List.set_cons_succ]
    (refine held_takeA 11 (by rfl) ?_ (by kernel_rfl) (fun _ _ _ h => h) hs14r ?_ ?_; rotate_left; (focus (intro wq hSw; have hrd := hSw; (have hrd : ∀ b' o, b' < w2.heap.size → wq.cell? ⟨b', o, none⟩ = w2.cell? ⟨b', o, none⟩ := fun b' o h => Below.cell hSw (p := ⟨b', o, none⟩) h); go_simp; try with_reducible rfl; done)); try simp only [Act.put, List.setIfInBounds_toArray, List.set_cons_zero, List.set_cons_succ])
    refine wpAnyH_done (by kernel_rfl) ?_ _
    try refine NoPanic.normal ?_
    go_wp2_with fail
    go_ret
    refine ⟨_, rfl, ?_, hB2.trans (hx8.mono hB2.size)⟩
    rw [hlen.out, hbod.out, hatt.out]
    exact own8.less (Nat.le_trans hB2.size hx7.size)
end Go.Proofs.Ytfnclmacodchfaa
