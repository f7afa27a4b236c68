/- ports: the document's MakeUdp. -/
import Derived.Test.YthbfnppgaaeilaaDoorPmD
namespace Go.Proofs.YthbfnppgaaeilaaDoor
set_option linter.unusedVariables false
open Go Go.RowKit

set_option maxRecDepth 100000 in
set_option maxHeartbeats 8000000 in
theorem makeUdp_any (w : World) (p s d sp dp : Int) (X : Option Addr) (m k : Nat) (pl : List UInt8) (hP : Byt w w.heap.size X m pl) (hmk : m ≤ k) (hm : m ≤ 12000) (s0 : 0 ≤ s) (s1 : s ≤ 4294967295) (d0 : 0 ≤ d) (d1 : d ≤ 4294967295) :
    Calls Tryd.prog 17 #[.agg #[.int .i64 p, .int .u32 s, .int .u32 d, .int .i64 sp, .int .i64 dp], .slice X m k] w fun e w' => ∃ v, e = .returned v ∧ OwnB w' w.heap.size v (udpL s d sp dp pl).length (udpL s d sp dp pl) ∧ Below w.heap.size w w' := by
  have hB := (Below.refl w.heap.size w).alloc (Nat.le_refl _) (.cells #[.int .i64 17, .int .u32 s, .int .u32 d, .int .i64 sp, .int .i64 dp] 42)
  have hq := Blk.new w 42 #[.int .i64 17, .int .u32 s, .int .u32 d, .int .i64 sp, .int .i64 dp]
  have hpl := Lib.hid hP.1
  have hyes := pkt_good 17 s d sp dp 6 (udpB sp dp pl) (by rw [udpB_len]; omega)
  have hno := pkt_bad 17 s d sp dp 6 (udpB sp dp pl)
  rw [udpB_len] at hno
  replace hP := hP.nx hB
  go_enter Tryd.func17, Tryd.ntmps17
  go_upto_region 2 with (fail)
  generalize w.alloc (.cells #[.int .i64 17, .int .u32 s, .int .u32 d, .int .i64 sp, .int .i64 dp] 42) = w1 at *
  have lt0 := hq.lt
  have q0 : w1.cell? ⟨w.heap.size, 0, none⟩ = some (.int .i64 17) := hq.cellv 0 rfl
  have q1 : w1.cell? ⟨w.heap.size, 1, none⟩ = some (.int .u32 s) := hq.cellv 1 rfl
  have q2 : w1.cell? ⟨w.heap.size, 2, none⟩ = some (.int .u32 d) := hq.cellv 2 rfl
  have q3 : w1.cell? ⟨w.heap.size, 3, none⟩ = some (.int .i64 sp) := hq.cellv 3 rfl
  have q4 : w1.cell? ⟨w.heap.size, 4, none⟩ = some (.int .i64 dp) := hq.cellv 4 rfl
  by_cases hbad : goodF 17 sp dp = false ∨ 9000 < m
  · have hr := Lib.hid (hno (by rcases hbad with h | h; exact .inl h; exact .inr (by rw [hpl.out]; omega)))
    clear hyes hno
    cases hg : goodF 17 sp dp
    · have hgd := fun w => refFGood_any 17 s d sp dp w
      simp only [hg] at hgd
      clear hg hbad
      go_wp2_with fail
      refine (hgd w1).mono ?_
      rintro e w2 ⟨rfl, hb⟩
      go_wp2_with fail
      go_ret
      refine ⟨_, rfl, ?_, hB.trans (hb.mono hB.size)⟩
      show OwnB _ _ _ (udpL s d sp dp pl).length (udpL s d sp dp pl)
      unfold udpL
      rw [hr.out]
      exact OwnB.nil _ _
    · have hgd := fun w => refFGood_any 17 s d sp dp w
      simp only [hg] at hgd
      have hm9 : (9000 : Int) < m := by
        rcases hbad with h | h
        · rw [hg] at h; cases h
        · omega
      clear hg hbad
      go_wp2_with fail
      refine (hgd w1).mono ?_
      rintro e w2 ⟨rfl, hb⟩
      go_wp2_with fail
      go_ret
      refine ⟨_, rfl, ?_, hB.trans (hb.mono hB.size)⟩
      show OwnB _ _ _ (udpL s d sp dp pl).length (udpL s d sp dp pl)
      unfold udpL
      rw [hr.out]
      exact OwnB.nil _ _
  have hg : goodF 17 sp dp = true := by
    cases h : goodF 17 sp dp
    · exact absurd (.inl h) hbad
    · rfl
  have hm9 : m ≤ 9000 := by
    by_cases h : m ≤ 9000
    · exact h
    · exact absurd (.inr (by omega)) hbad
  have hm9i : (m : Int) ≤ 9000 := by omega
  replace hyes := Lib.hid (hyes hg)
  have hgd := fun w => refFGood_any 17 s d sp dp w
  simp only [hg] at hgd
  clear hno hbad hg
  go_wp2_with fail
  refine (hgd w1).mono ?_
  rintro e w2 ⟨rfl, hb⟩
  clear hgd q0 q1 q2 q3 q4
  replace hP := hP.nx hb
  replace hq := hq.below hb hq.lt
  replace hB := hB.trans (hb.mono hB.size)
  clear hb lt0
  have lt0 := hq.lt
  go_upto_region 4 with (fail)
  have q0 : w2.cell? ⟨w.heap.size, 0, none⟩ = some (.int .i64 17) := hq.cellv 0 rfl
  have q1 : w2.cell? ⟨w.heap.size, 1, none⟩ = some (.int .u32 s) := hq.cellv 1 rfl
  have q2 : w2.cell? ⟨w.heap.size, 2, none⟩ = some (.int .u32 d) := hq.cellv 2 rfl
  have q3 : w2.cell? ⟨w.heap.size, 3, none⟩ = some (.int .i64 sp) := hq.cellv 3 rfl
  have q4 : w2.cell? ⟨w.heap.size, 4, none⟩ = some (.int .i64 dp) := hq.cellv 4 rfl
  go_wp2_with fail
  refine (refBoth_any 17 s d sp dp w2).mono ?_
  rintro e w3 ⟨v3, rfl, own3, hb⟩
  clear q0 q1 q2 q3 q4
  obtain ⟨A3, c3, rfl, hc3, hcm3, by3, _⟩ := own3.any2
  have hP3 := hP.nx hb
  have hz3 := hb.size
  have hm8 : (8 + (m : Int)) % 18446744073709551616 = 8 + (m : Int) := Int.emod_eq_of_lt (by omega) (by omega)
  have q := refPut2w_any w3 A3 4 c3 (bothL sp dp) w3.heap.size by3 (Nat.le_refl _) (by omega) (8 + (m : Int))
  rw [IntKind.wrap_u64, hm8] at q
  go_wp2_with fail
  refine q.mono ?_
  clear q
  rintro e w4 ⟨v4, rfl, own4, hb4⟩
  have hb24 := hb.trans (hb4.mono hz3)
  replace own4 := own4.less hz3
  clear by3 own3 hP3
  go_upto_region 5 with (fail)
  obtain ⟨A4, c4, rfl, hc4, hcm4, _, _⟩ := own4.any2
  have hzz := hb24.size
  -- region 5: 0 1 2M 3M 4 5M 6 7C 8C 9
  try refine wp_region_noPanic ?_
  have hs1r : (fun w' => Below w2.heap.size w2 w') w4.drew := hb24.drew
  refine wp_region_held_drew (S := fun w' => Below w2.heap.size w2 w') (by kernel_rfl) hs1r (fun _ => ?_)
  (refine held_takeA 0 (by rfl) ?_ (by kernel_rfl) (fun _ _ _ h => h) hs1r ?_ ?_; rotate_left; (focus (intro wq hSw; refine exec_load_blk (x := .tmp 2) ?_ ?_ (hq.below hSw hq.lt) _ Tryd.underlying42 rfl (by kernel_rfl) <;> rfl)); simp only [Act.put, List.setIfInBounds_toArray, List.set_cons_zero, List.set_cons_succ])
  (refine held_takeA 1 (by rfl) ?_ (by kernel_rfl) (fun _ _ _ h => h) hs1r ?_ ?_; rotate_left; (focus (intro wq hSw; have hrd := hSw; go_simp; try with_reducible rfl; done)); try simp only [Act.put, List.setIfInBounds_toArray, List.set_cons_zero, List.set_cons_succ])
  (refine held_takeA 4 (by rfl) ?_ (by kernel_rfl) (fun _ _ _ h => h) hs1r ?_ ?_; rotate_left; (focus (intro wq hSw; have hrd := hSw; go_simp; try with_reducible rfl; done)); try simp only [Act.put, List.setIfInBounds_toArray, List.set_cons_zero, List.set_cons_succ])
  (refine held_takeA 6 (by rfl) ?_ (by kernel_rfl) (fun _ _ _ h => h) hs1r ?_ ?_; rotate_left; (focus (intro wq hSw; refine exec_load_blk (x := .tmp 2) ?_ ?_ (hq.below hSw hq.lt) _ Tryd.underlying42 rfl (by kernel_rfl) <;> rfl)); simp only [Act.put, List.setIfInBounds_toArray, List.set_cons_zero, List.set_cons_succ])
  refine held_callA 2 (by rfl) (by kernel_rfl) (by rfl) (fun KQ hKQ => ?_)
  go_simp
  have hb5 : Below w4.heap.size w4 (w4.alloc (.cells #[.int .u8 0, .int .u8 0] 5)).drew := ((Below.refl w4.heap.size w4).alloc (Nat.le_refl _) (.cells #[.int .u8 0, .int .u8 0] 5)).drew
  have by9 := Byt.new w4 [0, 0] 5 (0, 0)
  replace by9 : Byt (w4.alloc (.cells #[.int .u8 0, .int .u8 0] 5)).drew (w4.heap.size + 1) (some ⟨w4.heap.size, 0, none⟩) 2 [0, 0] := by9
  have hb25 := hb24.trans (hb5.mono hzz)
  have own5 := own4.below hb5
  generalize (w4.alloc (.cells #[.int .u8 0, .int .u8 0] 5)).drew = w5 at *
  generalize w4.heap.size = g4 at by9 ⊢
  have hs2r := hb25
  refine hKQ.out _ _ hs2r ?_
  clear hKQ KQ
  try simp only [Act.put, List.setIfInBounds_toArray, List.set_cons_zero, List.set_cons_succ]
  refine held_callA 3 (by rfl) (by kernel_rfl) (by rfl) (fun KQ hKQ => ?_)
  refine wp_app _ (.tmp 23) (.tmp 24) (by rfl) w2.heap.size _ (4 + 2) _ (by rfl) own5 (g4 + 1) (some ⟨g4, 0, none⟩) 2 2 [0, 0] (by rfl) by9 (by omega) hb25.size ?_
  intro v6 w6 own6 hg6 hd6
  clear hd6
  have hb26 := hb25.trans (own5.below_app hg6 hb25.size)
  obtain ⟨A6, c6, rfl, hc6, hcm6, _, _⟩ := own6.any2
  clear own5 own4 by9 hg6
  have hs3r := hb26
  refine hKQ.out _ _ hs3r ?_
  clear hKQ KQ
  try simp only [Act.put, List.setIfInBounds_toArray, List.set_cons_zero, List.set_cons_succ]
  refine held_callA 5 (by rfl) (by kernel_rfl) (by rfl) (fun KQ hKQ => ?_)
  refine wp_app _ (.tmp 25) (.tmp 26) (by rfl) w2.heap.size _ (4 + 2 + 2) _ (by rfl) own6 w2.heap.size X m k pl (by rfl) (hP.below hb26) (by omega) hb26.size ?_
  intro v7 w7 own7 hg7 hd7
  clear hd7
  have hb27 := hb26.trans (own6.below_app hg7 hb26.size)
  clear hg7 own6
  rw [show bothL sp dp ++ be (8 + (m : Int)) 2 ++ [0, 0] ++ pl = udpB sp dp pl by simp [udpB, hpl.out]] at own7
  rw [show 4 + 2 + 2 + m = 8 + m from rfl] at own7
  obtain ⟨A7, c7, rfl, hc7, hcm7, by7, _⟩ := own7.any2
  clear own7
  have hs4r := hb27
  refine hKQ.out _ _ hs4r ?_
  clear hKQ KQ
  try simp only [Act.put, List.setIfInBounds_toArray, List.set_cons_zero, List.set_cons_succ]
  refine held_callA 7 (by rfl) (by kernel_rfl) (by rfl) (fun KQ hKQ => ?_)
  go_simp
  refine (summed_any 17 s d sp dp 17 6 A7 (8 + m) c7 (udpB sp dp pl) w7 (by omega) (by omega) by7 s0 s1 d0 d1).mono ?_
  rintro e w8 ⟨v8, rfl, own8, hb8⟩
  obtain ⟨A8, c8, rfl, hc8, hcm8, by8, _⟩ := own8.any2
  clear own8 by7
  have hb28 := hb27.trans (hb8.mono hb27.size)
  have hs5r := hb28
  refine hKQ.out _ _ hs5r ?_
  clear hKQ KQ
  try simp only [Act.put, List.setIfInBounds_toArray, List.set_cons_zero, List.set_cons_succ]
  refine held_callA 8 (by rfl) (by kernel_rfl) (by rfl) (fun KQ hKQ => ?_)
  go_simp
  refine (refPkt_any 17 s d sp dp 17 A8 (8 + m) c8 _ w8 (by omega) by8 s0 s1 d0 d1).mono ?_
  rintro e w9 ⟨v9, rfl, own9, hb9⟩
  rw [← hyes.out] at own9
  have hb29 := hb28.trans (hb9.mono hb28.size)
  have hs6r := hb29
  refine hKQ.out _ _ hs6r ?_
  clear hKQ KQ
  try simp only [Act.put, List.setIfInBounds_toArray, List.set_cons_zero, List.set_cons_succ]
  (refine held_takeA 9 (by rfl) ?_ (by kernel_rfl) (fun _ _ _ h => h) hs6r ?_ ?_; rotate_left; (focus (intro wq hSw; have hrd := hSw; go_simp; try with_reducible rfl; done)); try simp only [Act.put, List.setIfInBounds_toArray, List.set_cons_zero, List.set_cons_succ])
  refine wpAnyH_done (by kernel_rfl) ?_ _
  try refine NoPanic.normal ?_
  go_wp2_with fail
  go_ret
  have hzw := hB.size
  have hz6 := hb28.size
  exact ⟨_, rfl, own9.less (by omega), hB.trans (hb29.mono hB.size)⟩
end Go.Proofs.YthbfnppgaaeilaaDoor
