/- ports: packet. -/
import Derived.Test.YthbfnppgaaeilaaDoorPrtA
namespace Go.Proofs.YthbfnppgaaeilaaDoor
set_option linter.unusedVariables false
open Go.RowKit

/-- the sum that is sent. -/
def sentV (p s d : Int) (b : List UInt8) : Int :=
  if 65535 - foldV (csum b % 65536 + pseudo s d p b.length % 65536) % 65536 = 0 ∧ p = 17 then 65535 else 65535 - foldV (csum b % 65536 + pseudo s d p b.length % 65536) % 65536
def pktL (p s d sp dp : Int) (at_ : Nat) (b : List UInt8) : List UInt8 :=
  if goodF p sp dp = true ∧ b.length ≤ 9000 then buildL 0 0 0 0 64 p s d [] (setAt b at_ (be (sentV p s d b) 2)) else []
theorem sentV_bd (p s d : Int) (b : List UInt8) : 0 ≤ sentV p s d b ∧ sentV p s d b ≤ 65535 := by unfold sentV; split <;> omega
set_option maxRecDepth 100000 in
set_option maxHeartbeats 8000000 in
theorem packet_any (w : World) (p s d sp dp : Int) (at_ : Nat) (X : Option Addr) (n c : Nat) (ps : List (List UInt8)) (h : Parts w w.heap.size X ps) (hn : ps.length = n) (hn2 : n ≤ 1000) (b : List UInt8) (hfl : ps.flatten = b) (hl : b.length ≤ 100000)
    (hat : at_ + 2 ≤ b.length) (s0 : 0 ≤ s) (s1 : s ≤ 4294967295) (d0 : 0 ≤ d) (d1 : d ≤ 4294967295) :
    Calls Tryd.prog 36 #[.agg #[.int .i64 p, .int .u32 s, .int .u32 d, .int .i64 sp, .int .i64 dp], .int .i64 (at_ : Int), .slice X n c] w fun e w' => ∃ v, e = .returned v ∧ OwnB w' w.heap.size v (pktL p s d sp dp at_ b).length (pktL p s d sp dp at_ b) ∧ Below w.heap.size w w' := by
  have hB := (Below.refl w.heap.size w).alloc (Nat.le_refl _) (.cells (flowV p s d sp dp) 42)
  have hq := Blk.new w 42 (flowV p s d sp dp)
  unfold flowV at hB hq
  have hi : (Tryd.prog.info? 42).map (·.size) = some 5 := by kernel_rfl
  have hP := (h.below hB).more hB.size
  replace hfl := Lib.hid hfl
  go_enter Tryd.func36, Tryd.ntmps36
  go_wp2_with fail
  generalize w.alloc (.cells _ 42) = w1 at *
  have hlt1 := hq.lt
  refine (concat_any w1 X n c ps hP hn hn2 (by rw [hfl.out]; omega)).mono ?_
  rintro e w2 ⟨v2, rfl, own2, hb2⟩
  replace hB := hB.trans (hb2.mono hB.size)
  replace hq := hq.below hb2 hq.lt
  clear hP h hb2 hn hn2
  rw [hfl.out] at own2
  obtain ⟨G, c2, rfl, hG, hGs, hnc2, hcm2⟩ := own2.form (by omega)
  have hby2 := own2.byt
  have hsl : ∀ w, (Instr.slice 43 (.slice (some ⟨G, 0, none⟩) b.length c2) (some (.int .i64 (at_ : Int))) none none).run Tryd.prog w = .ok (.slice (some ⟨G, 0 + at_, none⟩) (b.length - at_) (c2 - at_)) w := slice_lo G 0 b.length c2 at_ (by omega) (by omega)
  rw [Nat.zero_add] at hsl
  go_wp2_with (refine wpList_load_blk rfl hq 42 (.tmp 3) rfl rfl Tryd.underlying42 rfl hi ?_)
  refine (portsGood_any p s d sp dp w2).mono ?_
  rintro e w3 ⟨rfl, hb3⟩
  replace hB := hB.trans (hb3.mono hB.size)
  replace hq := hq.below hb3 hq.lt
  replace own2 := own2.below hb3
  cases hg : goodF p sp dp with
  | false =>
    have e1 : pktL p s d sp dp at_ b = [] := if_neg (by rw [hg]; simp)
    replace hg := Lib.hid hg
    replace e1 := Lib.hid e1
    go_wp2_with fail
    go_ret
    refine ⟨_, rfl, ?_, hB⟩
    rw [e1.out]; exact OwnB.nil _ _
  | true =>
  by_cases h9 : 9000 < b.length
  · have e1 : pktL p s d sp dp at_ b = [] := if_neg (by omega)
    have i9 : (9000 : Int) < b.length := by omega
    replace hg := Lib.hid hg
    replace e1 := Lib.hid e1
    go_wp2_with fail
    go_ret
    refine ⟨_, rfl, ?_, hB⟩
    rw [e1.out]; exact OwnB.nil _ _
  have e1 : pktL p s d sp dp at_ b = buildL 0 0 0 0 64 p s d [] (setAt b at_ (be (sentV p s d b) 2)) := if_pos ⟨hg, by omega⟩
  have i9 : (b.length : Int) ≤ 9000 := by omega
  replace h9 : b.length ≤ 9000 := by omega
  replace hg := Lib.hid hg
  replace e1 := Lib.hid e1
  have hsv := sentV_bd p s d b
  go_wp2_with fail
  have f0 := hq.cellv 0 (v := .int .i64 p) rfl
  have f1 := hq.cellv 1 (v := .int .u32 s) rfl
  have f2 := hq.cellv 2 (v := .int .u32 d) rfl
  have lt3 := hq.lt
  have hz3 := hB.size
  -- region 4: 0 1C 2 3 4 5 6 7 8 9 10C 11C 12 13
  try refine wp_region_noPanic ?_
  have hs1r : Below w3.heap.size w3 w3.drew := (Below.refl _ _).drew
  refine wp_region_held_drew (S := fun w' => Below w3.heap.size w3 w') (by kernel_rfl) hs1r (fun _ => ?_)
  (refine held_takeA 0 (by rfl) ?_ (by kernel_rfl) (fun _ _ _ h => h) hs1r ?_ ?_; rotate_left; (focus (intro wq hSw; have hrd : ∀ b o, b < w3.heap.size → wq.cell? ⟨b, o, none⟩ = w3.cell? ⟨b, o, none⟩ := (fun b o h => hSw.cell (p := ⟨b, o, none⟩) h); go_simp; try with_reducible rfl; done)); try simp only [Act.put, List.setIfInBounds_toArray, List.set_cons_zero, List.set_cons_succ])
  (refine held_takeA 2 (by rfl) ?_ (by kernel_rfl) (fun _ _ _ h => h) hs1r ?_ ?_; rotate_left; (focus (intro wq hSw; have hrd : ∀ b o, b < w3.heap.size → wq.cell? ⟨b, o, none⟩ = w3.cell? ⟨b, o, none⟩ := (fun b o h => hSw.cell (p := ⟨b, o, none⟩) h); go_simp; try with_reducible rfl; done)); try simp only [Act.put, List.setIfInBounds_toArray, List.set_cons_zero, List.set_cons_succ])
  (refine held_takeA 3 (by rfl) ?_ (by kernel_rfl) (fun _ _ _ h => h) hs1r ?_ ?_; rotate_left; (focus (intro wq hSw; have hrd : ∀ b o, b < w3.heap.size → wq.cell? ⟨b, o, none⟩ = w3.cell? ⟨b, o, none⟩ := (fun b o h => hSw.cell (p := ⟨b, o, none⟩) h); go_simp; try with_reducible rfl; done)); try simp only [Act.put, List.setIfInBounds_toArray, List.set_cons_zero, List.set_cons_succ])
  (refine held_takeA 4 (by rfl) ?_ (by kernel_rfl) (fun _ _ _ h => h) hs1r ?_ ?_; rotate_left; (focus (intro wq hSw; have hrd : ∀ b o, b < w3.heap.size → wq.cell? ⟨b, o, none⟩ = w3.cell? ⟨b, o, none⟩ := (fun b o h => hSw.cell (p := ⟨b, o, none⟩) h); go_simp; try with_reducible rfl; done)); try simp only [Act.put, List.setIfInBounds_toArray, List.set_cons_zero, List.set_cons_succ])
  (refine held_takeA 5 (by rfl) ?_ (by kernel_rfl) (fun _ _ _ h => h) hs1r ?_ ?_; rotate_left; (focus (intro wq hSw; have hrd : ∀ b o, b < w3.heap.size → wq.cell? ⟨b, o, none⟩ = w3.cell? ⟨b, o, none⟩ := (fun b o h => hSw.cell (p := ⟨b, o, none⟩) h); go_simp; try with_reducible rfl; done)); try simp only [Act.put, List.setIfInBounds_toArray, List.set_cons_zero, List.set_cons_succ])
  (refine held_takeA 6 (by rfl) ?_ (by kernel_rfl) (fun _ _ _ h => h) hs1r ?_ ?_; rotate_left; (focus (intro wq hSw; have hrd : ∀ b o, b < w3.heap.size → wq.cell? ⟨b, o, none⟩ = w3.cell? ⟨b, o, none⟩ := (fun b o h => hSw.cell (p := ⟨b, o, none⟩) h); go_simp; try with_reducible rfl; done)); try simp only [Act.put, List.setIfInBounds_toArray, List.set_cons_zero, List.set_cons_succ])
  (refine held_takeA 7 (by rfl) ?_ (by kernel_rfl) (fun _ _ _ h => h) hs1r ?_ ?_; rotate_left; (focus (intro wq hSw; have hrd : ∀ b o, b < w3.heap.size → wq.cell? ⟨b, o, none⟩ = w3.cell? ⟨b, o, none⟩ := (fun b o h => hSw.cell (p := ⟨b, o, none⟩) h); go_simp; try with_reducible rfl; done)); try simp only [Act.put, List.setIfInBounds_toArray, List.set_cons_zero, List.set_cons_succ])
  (refine held_takeA 8 (by rfl) ?_ (by kernel_rfl) (fun _ _ _ h => h) hs1r ?_ ?_; rotate_left; (focus (intro wq hSw; have hrd : ∀ b o, b < w3.heap.size → wq.cell? ⟨b, o, none⟩ = w3.cell? ⟨b, o, none⟩ := (fun b o h => hSw.cell (p := ⟨b, o, none⟩) h); go_simp; try with_reducible rfl; done)); try simp only [Act.put, List.setIfInBounds_toArray, List.set_cons_zero, List.set_cons_succ])
  (refine held_takeA 9 (by rfl) ?_ (by kernel_rfl) (fun _ _ _ h => h) hs1r ?_ ?_; rotate_left; (focus (intro wq hSw; have hrd : ∀ b o, b < w3.heap.size → wq.cell? ⟨b, o, none⟩ = w3.cell? ⟨b, o, none⟩ := (fun b o h => hSw.cell (p := ⟨b, o, none⟩) h); go_simp; try with_reducible rfl; done)); try simp only [Act.put, List.setIfInBounds_toArray, List.set_cons_zero, List.set_cons_succ])
  refine held_callA 1 (by rfl) (by kernel_rfl) (by rfl) (fun KQ hKQ => ?_)
  go_simp
  refine (sum_any (some ⟨G, 0, none⟩) b.length c2 b (by omega) w3.drew (((hby2.nx hb3)).drew)).mono ?_
  rintro e w4 ⟨rfl, hb4⟩
  have hb34 : Below w3.heap.size w3 w4 := (Below.refl w3.heap.size w3).drew.trans hb4
  refine hKQ.out _ _ (hs1r.trans hb4) (held_mono (S' := fun w' => Below w4.heap.size w4 w') (fun w' h => (hs1r.trans hb4).trans (h.mono (hs1r.trans hb4).size)) _ _ _ _ ?_)
  clear hKQ KQ
  have hs2r : Below w4.heap.size w4 w4 := Below.refl _ _
  try simp only [Act.put, List.setIfInBounds_toArray, List.set_cons_zero, List.set_cons_succ]
  refine held_callA 10 (by rfl) (by kernel_rfl) (by rfl) (fun KQ hKQ => ?_)
  go_simp
  refine (pseudo_any s d p b.length w4 s0 s1 d0 d1).mono ?_
  rintro e w' ⟨rfl, rfl⟩
  have hs3r := hs2r
  refine hKQ.out _ _ hs3r ?_
  clear hKQ KQ
  try simp only [Act.put, List.setIfInBounds_toArray, List.set_cons_zero, List.set_cons_succ]
  refine held_callA 11 (by rfl) (by kernel_rfl) (by rfl) (fun KQ hKQ => ?_)
  go_simp
  refine (add_any _ _ w4).mono ?_
  rintro e w' ⟨rfl, rfl⟩
  have hs4r := hs3r
  refine hKQ.out _ _ hs4r ?_
  clear hKQ KQ
  try simp only [Act.put, List.setIfInBounds_toArray, List.set_cons_zero, List.set_cons_succ]
  (refine held_takeA 12 (by rfl) ?_ (by kernel_rfl) (fun _ _ _ h => h) hs4r ?_ ?_; rotate_left; (focus (intro wq hSw; have hrd : ∀ b o, b < w4.heap.size → wq.cell? ⟨b, o, none⟩ = w4.cell? ⟨b, o, none⟩ := (fun b o h => hSw.cell (p := ⟨b, o, none⟩) h); go_simp; try with_reducible rfl; done)); try simp only [Act.put, List.setIfInBounds_toArray, List.set_cons_zero, List.set_cons_succ])
  (refine held_takeA 13 (by rfl) ?_ (by kernel_rfl) (fun _ _ _ h => h) hs4r ?_ ?_; rotate_left; (focus (intro wq hSw; have hrd : ∀ b o, b < w4.heap.size → wq.cell? ⟨b, o, none⟩ = w4.cell? ⟨b, o, none⟩ := (fun b o h => hSw.cell (p := ⟨b, o, none⟩) h); go_simp; try with_reducible rfl; done)); try simp only [Act.put, List.setIfInBounds_toArray, List.set_cons_zero, List.set_cons_succ])
  refine wpAnyH_done (by kernel_rfl) ?_ _
  try refine NoPanic.normal ?_
  replace own2 := own2.below hb34
  replace hq := hq.below hb34 hq.lt
  replace hB := hB.trans (hb34.mono hz3)
  have hz4 := hB.size
  have lt4 := hq.lt
  have hbl4 : G < w4.heap.size := (World.ownsRow.lt own2 G rfl).2
  have hSe : sentV p s d b = if 65535 - foldV (csum b % 65536 + pseudo s d p b.length % 65536) % 65536 = 0 ∧ p = 17 then 65535 else 65535 - foldV (csum b % 65536 + pseudo s d p b.length % 65536) % 65536 := rfl
  have hS0 : 0 ≤ 65535 - foldV (csum b % 65536 + pseudo s d p b.length % 65536) % 65536 ∧ 65535 - foldV (csum b % 65536 + pseudo s d p b.length % 65536) % 65536 ≤ 65535 := by omega
  generalize 65535 - foldV (csum b % 65536 + pseudo s d p b.length % 65536) % 65536 = S0 at *
  generalize sentV p s d b = SV at *
  clear hs1r hs2r hs3r hs4r hb34 hb4 hb3 hby2 f0 f1 f2
  have f0 := hq.cellv 0 (v := .int .i64 p) rfl
  have hcs : (∃ (z1 : S0 = 0) (z2 : p = 17), True) ∨ (∃ (z1 : S0 = 0) (z2 : (p == 17) = false), True) ∨ (∃ (z1 : (S0 == 0) = false), True) := by
    by_cases z1 : S0 = 0
    · by_cases z2 : p = 17
      · exact .inl ⟨z1, z2, trivial⟩
      · exact .inr (.inl ⟨z1, by simpa using z2, trivial⟩)
    · exact .inr (.inr ⟨by simpa using z1, trivial⟩)
  have hend : ∀ x : Int, x = SV → be (x % 18446744073709551616) 2 = be SV 2 := fun x hx => by rw [hx, Int.emod_eq_of_lt (by omega) (by omega)]
  rcases hcs with ⟨z1, z2, -⟩ | ⟨z1, z2, -⟩ | ⟨z1, -⟩
  · subst z1; subst z2
    have hbe := Lib.hid (hend 65535 (by rw [hSe, if_pos ⟨rfl, rfl⟩]))
    clear hend hSe
    go_wp2_with fail
    -- region 7: 0 1 2 3 4C 5M
    try refine wp_region_noPanic ?_
    have hs5r : w4.grownBy w4.drew (some G) := grown_drew (grown_refl _ _)
    refine wp_region_held_drew (S := fun w' => w4.grownBy w' (some G)) (by kernel_rfl) hs5r (fun _ => ?_)
    (refine held_takeA 0 (by rfl) ?_ (by kernel_rfl) (fun _ _ _ h => h) hs5r ?_ ?_; rotate_left; (focus (intro wq hSw; have hrd : ∀ b' o, b' < w4.heap.size → b' ≠ G → wq.cell? ⟨b', o, none⟩ = w4.cell? ⟨b', o, none⟩ := (fun b' o h hne => grown_cell hSw h hne); go_simp; try with_reducible rfl; done)); try simp only [Act.put, List.setIfInBounds_toArray, List.set_cons_zero, List.set_cons_succ])
    (refine held_takeA 1 (by rfl) ?_ (by kernel_rfl) (fun _ _ _ h => h) hs5r ?_ ?_; rotate_left; (focus (intro wq hSw; have hrd : ∀ b' o, b' < w4.heap.size → b' ≠ G → wq.cell? ⟨b', o, none⟩ = w4.cell? ⟨b', o, none⟩ := (fun b' o h hne => grown_cell hSw h hne); go_simp; try with_reducible rfl; done)); try simp only [Act.put, List.setIfInBounds_toArray, List.set_cons_zero, List.set_cons_succ])
    (refine held_takeA 2 (by rfl) ?_ (by kernel_rfl) (fun _ _ _ h => h) hs5r ?_ ?_; rotate_left; (focus (intro wq hSw; have hrd : ∀ b' o, b' < w4.heap.size → b' ≠ G → wq.cell? ⟨b', o, none⟩ = w4.cell? ⟨b', o, none⟩ := (fun b' o h hne => grown_cell hSw h hne); go_simp; try with_reducible rfl; done)); try simp only [Act.put, List.setIfInBounds_toArray, List.set_cons_zero, List.set_cons_succ])
    (refine held_takeA 3 (by rfl) ?_ (by kernel_rfl) (fun _ _ _ h => h) hs5r ?_ ?_; rotate_left; (focus (intro wq hSw; have hrd : ∀ b' o, b' < w4.heap.size → b' ≠ G → wq.cell? ⟨b', o, none⟩ = w4.cell? ⟨b', o, none⟩ := (fun b' o h hne => grown_cell hSw h hne); go_simp; try with_reducible rfl; done)); try simp only [Act.put, List.setIfInBounds_toArray, List.set_cons_zero, List.set_cons_succ])
    refine held_callA 4 (by rfl) (by kernel_rfl) (by rfl) (fun KQ hKQ => ?_)
    go_simp
    refine (put16_any w4.drew none 0 0 [] 0 Byt.none_ (by omega) (by omega) _).mono ?_
    rintro e w5 ⟨u5, rfl, hown5, hb5⟩
    rw [List.nil_append, hbe.out] at hown5
    obtain ⟨g5, c5, rfl, hg5, hgs5, _, _⟩ := hown5.form (by omega)
    have hw5 := own2.drew.below hb5
    have hbw : Below w4.heap.size w4 w5 := ((Below.refl w4.heap.size w4).drew).trans hb5
    refine hKQ.out _ _ (grown_trans hs5r (grown_of hb5 (Nat.le_refl _) _)) (held_mono (S' := fun w' => w5.grownBy w' (some G)) (fun w' h => grown_trans (grown_trans hs5r (grown_of hb5 (Nat.le_refl _) _)) h) _ _ _ _ ?_)
    clear hKQ KQ
    have hs6r : w5.grownBy w5 (some G) := grown_refl _ _
    try simp only [Act.put, List.setIfInBounds_toArray, List.set_cons_zero, List.set_cons_succ]
    obtain ⟨hxl, hrow⟩ := hw5
    rcases hrow with ⟨q, _⟩ | ⟨gg, cc, cur, q, hbb, hcur, hnc, hcm, hcs, htk⟩
    · cases q
    injection q with q1 _ q2
    injection q1 with q1
    injection q1 with q1
    subst q1 q2
    rw [Nat.mul_one] at hcs htk
    have hsrc : ∀ j v, (bvs (be SV 2))[j]? = some v → w5.cell? ((⟨g5, 0, none⟩ : Addr).add j) = some v := fun j v hj => by
      have hjl : j < (be SV 2).length := by have := (List.getElem?_eq_some_iff.1 hj).1; rwa [bvs_len] at this
      rw [Go.WideShapes.add_plain, ← hj, bvs_get _ j hjl, Nat.zero_add]
      exact hown5.cell j (by rw [be_len] at hjl; omega)
    have hmin : (bvs (be SV 2)).length = Nat.min (0 + 2) (b.length - at_) := by
      rw [bvs_len, be_len]
      exact (Nat.min_eq_left (by omega)).symm
    refine held_callA 5 (by rfl) (by kernel_rfl) (by rfl) (fun KQ hKQ => ?_)
    refine wp_copy_own (.tmp 41) (.tmp 43) 43 43 (by rfl) 5 Tryd.underlying43 (by kernel_rfl) G at_ (b.length - at_) (c2 - at_) ⟨g5, 0, none⟩ (0 + 2) c5 (by rfl) (by rfl) cur 5 hcur (bvs (be SV 2)) hmin hsrc (by rw [bvs_len, be_len]; omega) (bvs_one _) ?_
    have hgS := grown_setRow (grown_refl w5 (some G)) (splice cur.toList at_ (bvs (be SV 2))).toArray
    have hfin := row_setAt at_ (be SV 2) (by rw [be_len]; omega) cur ⟨hxl, .inr ⟨G, c2, cur, rfl, hbb, hcur, hnc, hcm, by simpa using hcs, by simpa using htk⟩⟩ hcs htk hcm hbb hnc (setRow_heap w5 G cur _ _ _ hcur)
    generalize w5.setRow G (splice cur.toList at_ (bvs (be SV 2))).toArray = w6 at *
    refine hKQ.out _ _ (grown_trans hs6r hgS) (held_mono (S' := fun w' => w6.grownBy w' (some G)) (fun w' h => grown_trans (grown_trans hs6r hgS) h) _ _ _ _ ?_)
    clear hKQ KQ
    have hs7r : w6.grownBy w6 (some G) := grown_refl _ _
    try simp only [Act.put, List.setIfInBounds_toArray, List.set_cons_zero, List.set_cons_succ]
    refine wpAnyH_done (by kernel_rfl) ?_ _
    try refine NoPanic.normal ?_
    have hgr : w4.grownBy w6 (some G) := grown_trans (grown_of hbw (Nat.le_refl _) _) hgS
    have hB6 := below_own hB hgr hB.size (by omega)
    have hq6 := hq.grown hgr (by simp; omega)
    have k0 := hq6.cellv 0 (v := .int .i64 (17)) rfl
    have k1 := hq6.cellv 1 (v := .int .u32 s) rfl
    have k2 := hq6.cellv 2 (v := .int .u32 d) rfl
    go_wp2_with fail
    refine (ipBuild_any 0 0 0 0 64 (17) s d none 0 0 [] (some ⟨G, 0, none⟩) b.length c2 (setAt b at_ (be SV 2)) w6 (by omega) (by omega) (byt_empty _ _ _) hfin.byt s0 s1 d0 d1).mono ?_
    rintro e w7 ⟨v7, rfl, own7, hb7⟩
    go_wp2_with fail
    go_ret
    refine ⟨v7, rfl, ?_, hB6.trans (hb7.mono hB6.size)⟩
    rw [e1.out]
    exact own7.less hB6.size
  · subst z1
    have hbe := Lib.hid (hend 0 (by rw [hSe, if_neg (by simpa using z2)]))
    clear hend hSe
    go_wp2_with fail
    -- region 7: 0 1 2 3 4C 5M
    try refine wp_region_noPanic ?_
    have hs8r : w4.grownBy w4.drew (some G) := grown_drew (grown_refl _ _)
    refine wp_region_held_drew (S := fun w' => w4.grownBy w' (some G)) (by kernel_rfl) hs8r (fun _ => ?_)
    (refine held_takeA 0 (by rfl) ?_ (by kernel_rfl) (fun _ _ _ h => h) hs8r ?_ ?_; rotate_left; (focus (intro wq hSw; have hrd : ∀ b' o, b' < w4.heap.size → b' ≠ G → wq.cell? ⟨b', o, none⟩ = w4.cell? ⟨b', o, none⟩ := (fun b' o h hne => grown_cell hSw h hne); go_simp; try with_reducible rfl; done)); try simp only [Act.put, List.setIfInBounds_toArray, List.set_cons_zero, List.set_cons_succ])
    (refine held_takeA 1 (by rfl) ?_ (by kernel_rfl) (fun _ _ _ h => h) hs8r ?_ ?_; rotate_left; (focus (intro wq hSw; have hrd : ∀ b' o, b' < w4.heap.size → b' ≠ G → wq.cell? ⟨b', o, none⟩ = w4.cell? ⟨b', o, none⟩ := (fun b' o h hne => grown_cell hSw h hne); go_simp; try with_reducible rfl; done)); try simp only [Act.put, List.setIfInBounds_toArray, List.set_cons_zero, List.set_cons_succ])
    (refine held_takeA 2 (by rfl) ?_ (by kernel_rfl) (fun _ _ _ h => h) hs8r ?_ ?_; rotate_left; (focus (intro wq hSw; have hrd : ∀ b' o, b' < w4.heap.size → b' ≠ G → wq.cell? ⟨b', o, none⟩ = w4.cell? ⟨b', o, none⟩ := (fun b' o h hne => grown_cell hSw h hne); go_simp; try with_reducible rfl; done)); try simp only [Act.put, List.setIfInBounds_toArray, List.set_cons_zero, List.set_cons_succ])
    (refine held_takeA 3 (by rfl) ?_ (by kernel_rfl) (fun _ _ _ h => h) hs8r ?_ ?_; rotate_left; (focus (intro wq hSw; have hrd : ∀ b' o, b' < w4.heap.size → b' ≠ G → wq.cell? ⟨b', o, none⟩ = w4.cell? ⟨b', o, none⟩ := (fun b' o h hne => grown_cell hSw h hne); go_simp; try with_reducible rfl; done)); try simp only [Act.put, List.setIfInBounds_toArray, List.set_cons_zero, List.set_cons_succ])
    refine held_callA 4 (by rfl) (by kernel_rfl) (by rfl) (fun KQ hKQ => ?_)
    go_simp
    refine (put16_any w4.drew none 0 0 [] 0 Byt.none_ (by omega) (by omega) _).mono ?_
    rintro e w5 ⟨u5, rfl, hown5, hb5⟩
    rw [List.nil_append, hbe.out] at hown5
    obtain ⟨g5, c5, rfl, hg5, hgs5, _, _⟩ := hown5.form (by omega)
    have hw5 := own2.drew.below hb5
    have hbw : Below w4.heap.size w4 w5 := ((Below.refl w4.heap.size w4).drew).trans hb5
    refine hKQ.out _ _ (grown_trans hs8r (grown_of hb5 (Nat.le_refl _) _)) (held_mono (S' := fun w' => w5.grownBy w' (some G)) (fun w' h => grown_trans (grown_trans hs8r (grown_of hb5 (Nat.le_refl _) _)) h) _ _ _ _ ?_)
    clear hKQ KQ
    have hs9r : w5.grownBy w5 (some G) := grown_refl _ _
    try simp only [Act.put, List.setIfInBounds_toArray, List.set_cons_zero, List.set_cons_succ]
    obtain ⟨hxl, hrow⟩ := hw5
    rcases hrow with ⟨q, _⟩ | ⟨gg, cc, cur, q, hbb, hcur, hnc, hcm, hcs, htk⟩
    · cases q
    injection q with q1 _ q2
    injection q1 with q1
    injection q1 with q1
    subst q1 q2
    rw [Nat.mul_one] at hcs htk
    have hsrc : ∀ j v, (bvs (be SV 2))[j]? = some v → w5.cell? ((⟨g5, 0, none⟩ : Addr).add j) = some v := fun j v hj => by
      have hjl : j < (be SV 2).length := by have := (List.getElem?_eq_some_iff.1 hj).1; rwa [bvs_len] at this
      rw [Go.WideShapes.add_plain, ← hj, bvs_get _ j hjl, Nat.zero_add]
      exact hown5.cell j (by rw [be_len] at hjl; omega)
    have hmin : (bvs (be SV 2)).length = Nat.min (0 + 2) (b.length - at_) := by
      rw [bvs_len, be_len]
      exact (Nat.min_eq_left (by omega)).symm
    refine held_callA 5 (by rfl) (by kernel_rfl) (by rfl) (fun KQ hKQ => ?_)
    refine wp_copy_own (.tmp 41) (.tmp 43) 43 43 (by rfl) 5 Tryd.underlying43 (by kernel_rfl) G at_ (b.length - at_) (c2 - at_) ⟨g5, 0, none⟩ (0 + 2) c5 (by rfl) (by rfl) cur 5 hcur (bvs (be SV 2)) hmin hsrc (by rw [bvs_len, be_len]; omega) (bvs_one _) ?_
    have hgS := grown_setRow (grown_refl w5 (some G)) (splice cur.toList at_ (bvs (be SV 2))).toArray
    have hfin := row_setAt at_ (be SV 2) (by rw [be_len]; omega) cur ⟨hxl, .inr ⟨G, c2, cur, rfl, hbb, hcur, hnc, hcm, by simpa using hcs, by simpa using htk⟩⟩ hcs htk hcm hbb hnc (setRow_heap w5 G cur _ _ _ hcur)
    generalize w5.setRow G (splice cur.toList at_ (bvs (be SV 2))).toArray = w6 at *
    refine hKQ.out _ _ (grown_trans hs9r hgS) (held_mono (S' := fun w' => w6.grownBy w' (some G)) (fun w' h => grown_trans (grown_trans hs9r hgS) h) _ _ _ _ ?_)
    clear hKQ KQ
    have hs10r : w6.grownBy w6 (some G) := grown_refl _ _
    try simp only [Act.put, List.setIfInBounds_toArray, List.set_cons_zero, List.set_cons_succ]
    refine wpAnyH_done (by kernel_rfl) ?_ _
    try refine NoPanic.normal ?_
    have hgr : w4.grownBy w6 (some G) := grown_trans (grown_of hbw (Nat.le_refl _) _) hgS
    have hB6 := below_own hB hgr hB.size (by omega)
    have hq6 := hq.grown hgr (by simp; omega)
    have k0 := hq6.cellv 0 (v := .int .i64 (p)) rfl
    have k1 := hq6.cellv 1 (v := .int .u32 s) rfl
    have k2 := hq6.cellv 2 (v := .int .u32 d) rfl
    go_wp2_with fail
    refine (ipBuild_any 0 0 0 0 64 (p) s d none 0 0 [] (some ⟨G, 0, none⟩) b.length c2 (setAt b at_ (be SV 2)) w6 (by omega) (by omega) (byt_empty _ _ _) hfin.byt s0 s1 d0 d1).mono ?_
    rintro e w7 ⟨v7, rfl, own7, hb7⟩
    go_wp2_with fail
    go_ret
    refine ⟨v7, rfl, ?_, hB6.trans (hb7.mono hB6.size)⟩
    rw [e1.out]
    exact own7.less hB6.size
  · have hbe := Lib.hid (hend S0 (by rw [hSe, if_neg (by intro q; simp [q.1] at z1)]))
    clear hend hSe
    go_wp2_with fail
    -- region 7: 0 1 2 3 4C 5M
    try refine wp_region_noPanic ?_
    have hs11r : w4.grownBy w4.drew (some G) := grown_drew (grown_refl _ _)
    refine wp_region_held_drew (S := fun w' => w4.grownBy w' (some G)) (by kernel_rfl) hs11r (fun _ => ?_)
    (refine held_takeA 0 (by rfl) ?_ (by kernel_rfl) (fun _ _ _ h => h) hs11r ?_ ?_; rotate_left; (focus (intro wq hSw; have hrd : ∀ b' o, b' < w4.heap.size → b' ≠ G → wq.cell? ⟨b', o, none⟩ = w4.cell? ⟨b', o, none⟩ := (fun b' o h hne => grown_cell hSw h hne); go_simp; try with_reducible rfl; done)); try simp only [Act.put, List.setIfInBounds_toArray, List.set_cons_zero, List.set_cons_succ])
    (refine held_takeA 1 (by rfl) ?_ (by kernel_rfl) (fun _ _ _ h => h) hs11r ?_ ?_; rotate_left; (focus (intro wq hSw; have hrd : ∀ b' o, b' < w4.heap.size → b' ≠ G → wq.cell? ⟨b', o, none⟩ = w4.cell? ⟨b', o, none⟩ := (fun b' o h hne => grown_cell hSw h hne); go_simp; try with_reducible rfl; done)); try simp only [Act.put, List.setIfInBounds_toArray, List.set_cons_zero, List.set_cons_succ])
    (refine held_takeA 2 (by rfl) ?_ (by kernel_rfl) (fun _ _ _ h => h) hs11r ?_ ?_; rotate_left; (focus (intro wq hSw; have hrd : ∀ b' o, b' < w4.heap.size → b' ≠ G → wq.cell? ⟨b', o, none⟩ = w4.cell? ⟨b', o, none⟩ := (fun b' o h hne => grown_cell hSw h hne); go_simp; try with_reducible rfl; done)); try simp only [Act.put, List.setIfInBounds_toArray, List.set_cons_zero, List.set_cons_succ])
    (refine held_takeA 3 (by rfl) ?_ (by kernel_rfl) (fun _ _ _ h => h) hs11r ?_ ?_; rotate_left; (focus (intro wq hSw; have hrd : ∀ b' o, b' < w4.heap.size → b' ≠ G → wq.cell? ⟨b', o, none⟩ = w4.cell? ⟨b', o, none⟩ := (fun b' o h hne => grown_cell hSw h hne); go_simp; try with_reducible rfl; done)); try simp only [Act.put, List.setIfInBounds_toArray, List.set_cons_zero, List.set_cons_succ])
    refine held_callA 4 (by rfl) (by kernel_rfl) (by rfl) (fun KQ hKQ => ?_)
    go_simp
    refine (put16_any w4.drew none 0 0 [] 0 Byt.none_ (by omega) (by omega) _).mono ?_
    rintro e w5 ⟨u5, rfl, hown5, hb5⟩
    rw [List.nil_append, hbe.out] at hown5
    obtain ⟨g5, c5, rfl, hg5, hgs5, _, _⟩ := hown5.form (by omega)
    have hw5 := own2.drew.below hb5
    have hbw : Below w4.heap.size w4 w5 := ((Below.refl w4.heap.size w4).drew).trans hb5
    refine hKQ.out _ _ (grown_trans hs11r (grown_of hb5 (Nat.le_refl _) _)) (held_mono (S' := fun w' => w5.grownBy w' (some G)) (fun w' h => grown_trans (grown_trans hs11r (grown_of hb5 (Nat.le_refl _) _)) h) _ _ _ _ ?_)
    clear hKQ KQ
    have hs12r : w5.grownBy w5 (some G) := grown_refl _ _
    try simp only [Act.put, List.setIfInBounds_toArray, List.set_cons_zero, List.set_cons_succ]
    obtain ⟨hxl, hrow⟩ := hw5
    rcases hrow with ⟨q, _⟩ | ⟨gg, cc, cur, q, hbb, hcur, hnc, hcm, hcs, htk⟩
    · cases q
    injection q with q1 _ q2
    injection q1 with q1
    injection q1 with q1
    subst q1 q2
    rw [Nat.mul_one] at hcs htk
    have hsrc : ∀ j v, (bvs (be SV 2))[j]? = some v → w5.cell? ((⟨g5, 0, none⟩ : Addr).add j) = some v := fun j v hj => by
      have hjl : j < (be SV 2).length := by have := (List.getElem?_eq_some_iff.1 hj).1; rwa [bvs_len] at this
      rw [Go.WideShapes.add_plain, ← hj, bvs_get _ j hjl, Nat.zero_add]
      exact hown5.cell j (by rw [be_len] at hjl; omega)
    have hmin : (bvs (be SV 2)).length = Nat.min (0 + 2) (b.length - at_) := by
      rw [bvs_len, be_len]
      exact (Nat.min_eq_left (by omega)).symm
    refine held_callA 5 (by rfl) (by kernel_rfl) (by rfl) (fun KQ hKQ => ?_)
    refine wp_copy_own (.tmp 41) (.tmp 43) 43 43 (by rfl) 5 Tryd.underlying43 (by kernel_rfl) G at_ (b.length - at_) (c2 - at_) ⟨g5, 0, none⟩ (0 + 2) c5 (by rfl) (by rfl) cur 5 hcur (bvs (be SV 2)) hmin hsrc (by rw [bvs_len, be_len]; omega) (bvs_one _) ?_
    have hgS := grown_setRow (grown_refl w5 (some G)) (splice cur.toList at_ (bvs (be SV 2))).toArray
    have hfin := row_setAt at_ (be SV 2) (by rw [be_len]; omega) cur ⟨hxl, .inr ⟨G, c2, cur, rfl, hbb, hcur, hnc, hcm, by simpa using hcs, by simpa using htk⟩⟩ hcs htk hcm hbb hnc (setRow_heap w5 G cur _ _ _ hcur)
    generalize w5.setRow G (splice cur.toList at_ (bvs (be SV 2))).toArray = w6 at *
    refine hKQ.out _ _ (grown_trans hs12r hgS) (held_mono (S' := fun w' => w6.grownBy w' (some G)) (fun w' h => grown_trans (grown_trans hs12r hgS) h) _ _ _ _ ?_)
    clear hKQ KQ
    have hs13r : w6.grownBy w6 (some G) := grown_refl _ _
    try simp only [Act.put, List.setIfInBounds_toArray, List.set_cons_zero, List.set_cons_succ]
    refine wpAnyH_done (by kernel_rfl) ?_ _
    try refine NoPanic.normal ?_
    have hgr : w4.grownBy w6 (some G) := grown_trans (grown_of hbw (Nat.le_refl _) _) hgS
    have hB6 := below_own hB hgr hB.size (by omega)
    have hq6 := hq.grown hgr (by simp; omega)
    have k0 := hq6.cellv 0 (v := .int .i64 (p)) rfl
    have k1 := hq6.cellv 1 (v := .int .u32 s) rfl
    have k2 := hq6.cellv 2 (v := .int .u32 d) rfl
    go_wp2_with fail
    refine (ipBuild_any 0 0 0 0 64 (p) s d none 0 0 [] (some ⟨G, 0, none⟩) b.length c2 (setAt b at_ (be SV 2)) w6 (by omega) (by omega) (byt_empty _ _ _) hfin.byt s0 s1 d0 d1).mono ?_
    rintro e w7 ⟨v7, rfl, own7, hb7⟩
    go_wp2_with fail
    go_ret
    refine ⟨v7, rfl, ?_, hB6.trans (hb7.mono hB6.size)⟩
    rw [e1.out]
    exact own7.less hB6.size
end Go.Proofs.YthbfnppgaaeilaaDoor
