/- ports: the document's MakeTcp, MakeUdp. -/
import Derived.Test.YthbfnppgaaeilaaDoorPmB
namespace Go.Proofs.YthbfnppgaaeilaaDoor
set_option linter.unusedVariables false
open Go Go.RowKit

theorem pkt_good (p s d sp dp : Int) (at_ : Nat) (b : List UInt8) (h : at_ + 2 ≤ b.length) (hg : goodF p sp dp = true) : pktL p s d sp dp at_ b = buildL 0 0 0 0 64 p s d [] (setAt b at_ (be (sentV p s d b) 2)) := by
  unfold pktL
  by_cases h9 : b.length ≤ 9000
  · exact if_pos ⟨hg, h9⟩
  · rw [if_neg (fun h => h9 h.2), buildL_no]
    rintro ⟨_, h8⟩
    rw [setAt_len _ _ _ (by rw [be_len]; exact h)] at h8
    simp at h8
    omega
theorem pkt_bad (p s d sp dp : Int) (at_ : Nat) (b : List UInt8) (hg : goodF p sp dp = false ∨ 9000 < b.length) : pktL p s d sp dp at_ b = [] := by
  unfold pktL
  rw [if_neg]
  rintro ⟨h1, h2⟩
  rcases hg with hg | hg
  · rw [hg] at h1; cases h1
  · omega
set_option maxRecDepth 100000 in
set_option maxHeartbeats 8000000 in
theorem makeTcp_any (w : World) (p s d sp dp fl : Int) (X : Option Addr) (m k : Nat) (pl : List UInt8) (hP : Byt w w.heap.size X m pl) (hmk : m ≤ k) (hm : m ≤ 12000) (s0 : 0 ≤ s) (s1 : s ≤ 4294967295) (d0 : 0 ≤ d) (d1 : d ≤ 4294967295) :
    Calls Tryd.prog 15 #[.agg #[.int .i64 p, .int .u32 s, .int .u32 d, .int .i64 sp, .int .i64 dp], .int .i64 fl, .slice X m k] w fun e w' => ∃ v, e = .returned v ∧ OwnB w' w.heap.size v (tcpL s d sp dp fl pl).length (tcpL s d sp dp fl pl) ∧ Below w.heap.size w w' := by
  have hB := (Below.refl w.heap.size w).alloc (Nat.le_refl _) (.cells #[.int .i64 6, .int .u32 s, .int .u32 d, .int .i64 sp, .int .i64 dp] 42)
  have hq := Blk.new w 42 #[.int .i64 6, .int .u32 s, .int .u32 d, .int .i64 sp, .int .i64 dp]
  have hpl := Lib.hid hP.1
  have hyes := pkt_good 6 s d sp dp 16 (tcpB sp dp fl pl) (by rw [tcpB_len]; omega)
  have hno := pkt_bad 6 s d sp dp 16 (tcpB sp dp fl pl)
  rw [tcpB_len] at hno
  replace hP := hP.nx hB
  go_enter Tryd.func15, Tryd.ntmps15
  go_upto_region 2 with (fail)
  generalize w.alloc (.cells #[.int .i64 6, .int .u32 s, .int .u32 d, .int .i64 sp, .int .i64 dp] 42) = w1 at *
  have lt0 := hq.lt
  have q0 : w1.cell? ⟨w.heap.size, 0, none⟩ = some (.int .i64 6) := hq.cellv 0 rfl
  have q1 : w1.cell? ⟨w.heap.size, 1, none⟩ = some (.int .u32 s) := hq.cellv 1 rfl
  have q2 : w1.cell? ⟨w.heap.size, 2, none⟩ = some (.int .u32 d) := hq.cellv 2 rfl
  have q3 : w1.cell? ⟨w.heap.size, 3, none⟩ = some (.int .i64 sp) := hq.cellv 3 rfl
  have q4 : w1.cell? ⟨w.heap.size, 4, none⟩ = some (.int .i64 dp) := hq.cellv 4 rfl
  by_cases hbad : goodF 6 sp dp = false ∨ 9000 < m
  · have hr := Lib.hid (hno (by rcases hbad with h | h; exact .inl h; exact .inr (by rw [hpl.out]; omega)))
    clear hyes hno
    cases hg : goodF 6 sp dp
    · have hgd := fun w => refFGood_any 6 s d sp dp w
      simp only [hg] at hgd
      clear hg hbad
      go_wp2_with fail
      refine (hgd w1).mono ?_
      rintro e w2 ⟨rfl, hb⟩
      go_wp2_with fail
      go_ret
      refine ⟨_, rfl, ?_, hB.trans (hb.mono hB.size)⟩
      show OwnB _ _ _ (tcpL s d sp dp fl pl).length (tcpL s d sp dp fl pl)
      unfold tcpL
      rw [hr.out]
      exact OwnB.nil _ _
    · have hgd := fun w => refFGood_any 6 s d sp dp w
      simp only [hg] at hgd
      have hm9 : (9000 : Int) < m := by
        rcases hbad with h | h
        · rw [hg] at h; cases h
        · omega
      clear hg hbad
      go_wp2_with fail
      refine (hgd w1).mono ?_
      rintro e w2 ⟨rfl, hb⟩
      go_wp2_with fail
      go_ret
      refine ⟨_, rfl, ?_, hB.trans (hb.mono hB.size)⟩
      show OwnB _ _ _ (tcpL s d sp dp fl pl).length (tcpL s d sp dp fl pl)
      unfold tcpL
      rw [hr.out]
      exact OwnB.nil _ _
  have hg : goodF 6 sp dp = true := by
    cases h : goodF 6 sp dp
    · exact absurd (.inl h) hbad
    · rfl
  have hm9 : m ≤ 9000 := by
    by_cases h : m ≤ 9000
    · exact h
    · exact absurd (.inr (by omega)) hbad
  have hm9i : (m : Int) ≤ 9000 := by omega
  replace hyes := Lib.hid (hyes hg)
  have hgd := fun w => refFGood_any 6 s d sp dp w
  simp only [hg] at hgd
  clear hno hbad hg
  go_wp2_with fail
  refine (hgd w1).mono ?_
  rintro e w2 ⟨rfl, hb⟩
  clear hgd q0 q1 q2 q3 q4
  replace hP := hP.nx hb
  replace hq := hq.below hb hq.lt
  replace hB := hB.trans (hb.mono hB.size)
  clear hb lt0
  have lt0 := hq.lt
  go_upto_region 4 with (fail)
  have q0 : w2.cell? ⟨w.heap.size, 0, none⟩ = some (.int .i64 6) := hq.cellv 0 rfl
  have q1 : w2.cell? ⟨w.heap.size, 1, none⟩ = some (.int .u32 s) := hq.cellv 1 rfl
  have q2 : w2.cell? ⟨w.heap.size, 2, none⟩ = some (.int .u32 d) := hq.cellv 2 rfl
  have q3 : w2.cell? ⟨w.heap.size, 3, none⟩ = some (.int .i64 sp) := hq.cellv 3 rfl
  have q4 : w2.cell? ⟨w.heap.size, 4, none⟩ = some (.int .i64 dp) := hq.cellv 4 rfl
  go_wp2_with fail
  refine (refBoth_any 6 s d sp dp w2).mono ?_
  rintro e w3 ⟨v3, rfl, own3, hb⟩
  clear q0 q1 q2 q3 q4
  obtain ⟨A3, c3, rfl, hc3, hcm3, by3, _⟩ := own3.any2
  have hP3 := hP.nx hb
  have hb3 := (Below.refl w3.heap.size w3).alloc (Nat.le_refl _) (.cells #[.int .u8 0, .int .u8 0, .int .u8 0, .int .u8 0, .int .u8 0, .int .u8 0, .int .u8 0, .int .u8 0, .int .u8 80, .int .u8 (fl % 256), .int .u8 255, .int .u8 255, .int .u8 0, .int .u8 0, .int .u8 0, .int .u8 0] 5)
  have own3b := own3.below hb3
  have hlit := Byt.new w3 (restL fl) 5 (0, 0)
  have elit : byCells (restL fl) = #[.int .u8 0, .int .u8 0, .int .u8 0, .int .u8 0, .int .u8 0, .int .u8 0, .int .u8 0, .int .u8 0, .int .u8 80, .int .u8 (fl % 256), .int .u8 255, .int .u8 255, .int .u8 0, .int .u8 0, .int .u8 0, .int .u8 0] := by simp [byCells, restL, byOf_val]
  rw [elit, show (restL fl).length = 16 from rfl] at hlit
  clear elit
  have hz3 := hb.size
  go_upto_region 5 with (at_builtin; refine wpList_app _ rfl (.tmp 18) (.tmp 21) rfl w2.heap.size _ 4 _ rfl own3b _ _ 16 16 (restL fl) rfl hlit (by omega) (by simp; omega) ?_; intro v4 w4 own4 hg4 _; have hb24 : Below w2.heap.size w2 w4 := (hb.trans (hb3.mono hz3)).trans (own3b.below_app hg4 (by simp; omega)))
  clear hlit own3b by3 own3 hb3 hP3
  obtain ⟨A4, c4, rfl, hc4, hcm4, _, _⟩ := own4.any2
  have hzz := hb24.size
  generalize hN4 : 4 + 16 = N4 at own4 ⊢
  have hN4b : N4 ≤ 100 := by omega
  replace hN4 := Lib.hid hN4
  -- region 5: 0 1 2 3M 4 5C 6C 7
  try refine wp_region_noPanic ?_
  have hs1r : (fun w' => Below w2.heap.size w2 w') w4.drew := hb24.drew
  refine wp_region_held_drew (S := fun w' => Below w2.heap.size w2 w') (by kernel_rfl) hs1r (fun _ => ?_)
  (refine held_takeA 0 (by rfl) ?_ (by kernel_rfl) (fun _ _ _ h => h) hs1r ?_ ?_; rotate_left; (focus (intro wq hSw; refine exec_load_blk (x := .tmp 3) ?_ ?_ (hq.below hSw hq.lt) _ Tryd.underlying42 rfl (by kernel_rfl) <;> rfl)); simp only [Act.put, List.setIfInBounds_toArray, List.set_cons_zero, List.set_cons_succ])
  (refine held_takeA 1 (by rfl) ?_ (by kernel_rfl) (fun _ _ _ h => h) hs1r ?_ ?_; rotate_left; (focus (intro wq hSw; have hrd := hSw; go_simp; try with_reducible rfl; done)); try simp only [Act.put, List.setIfInBounds_toArray, List.set_cons_zero, List.set_cons_succ])
  (refine held_takeA 2 (by rfl) ?_ (by kernel_rfl) (fun _ _ _ h => h) hs1r ?_ ?_; rotate_left; (focus (intro wq hSw; have hrd := hSw; go_simp; try with_reducible rfl; done)); try simp only [Act.put, List.setIfInBounds_toArray, List.set_cons_zero, List.set_cons_succ])
  (refine held_takeA 4 (by rfl) ?_ (by kernel_rfl) (fun _ _ _ h => h) hs1r ?_ ?_; rotate_left; (focus (intro wq hSw; refine exec_load_blk (x := .tmp 3) ?_ ?_ (hq.below hSw hq.lt) _ Tryd.underlying42 rfl (by kernel_rfl) <;> rfl)); simp only [Act.put, List.setIfInBounds_toArray, List.set_cons_zero, List.set_cons_succ])
  refine held_callA 3 (by rfl) (by kernel_rfl) (by rfl) (fun KQ hKQ => ?_)
  refine wp_app _ (.tmp 24) (.tmp 25) (by rfl) w2.heap.size _ _ _ (by rfl) own4.drew w2.heap.size X m k pl (by rfl) (hP.below hb24.drew) (by omega) (by simpa using hzz) ?_
  intro v5 w5 own5 hg5 hd5
  clear hd5
  have hb25 := hb24.drew.trans (own4.drew.below_app hg5 (by simpa using hzz))
  clear hg5 own4
  rw [show bothL sp dp ++ restL fl ++ pl = tcpB sp dp fl pl by simp [tcpB]] at own5
  obtain ⟨A5, c5, rfl, hc5, hcm5, by5, _⟩ := own5.any2
  clear own5
  rw [show N4 + m = 20 + m by rw [← hN4.out]] at by5 hc5 ⊢
  have hs2r := hb25
  refine hKQ.out _ _ hs2r ?_
  clear hKQ KQ
  try simp only [Act.put, List.setIfInBounds_toArray, List.set_cons_zero, List.set_cons_succ]
  refine held_callA 5 (by rfl) (by kernel_rfl) (by rfl) (fun KQ hKQ => ?_)
  go_simp
  refine (summed_any 6 s d sp dp 6 16 A5 (20 + m) c5 (tcpB sp dp fl pl) w5 (by omega) (by omega) by5 s0 s1 d0 d1).mono ?_
  rintro e w6 ⟨v6, rfl, own6, hb6⟩
  obtain ⟨A6, c6, rfl, hc6, hcm6, by6, _⟩ := own6.any2
  clear own6 by5
  have hb26 := hb25.trans (hb6.mono hb25.size)
  have hs3r := hb26
  refine hKQ.out _ _ hs3r ?_
  clear hKQ KQ
  try simp only [Act.put, List.setIfInBounds_toArray, List.set_cons_zero, List.set_cons_succ]
  refine held_callA 6 (by rfl) (by kernel_rfl) (by rfl) (fun KQ hKQ => ?_)
  go_simp
  refine (refPkt_any 6 s d sp dp 6 A6 (20 + m) c6 _ w6 (by omega) by6 s0 s1 d0 d1).mono ?_
  rintro e w7 ⟨v7, rfl, own7, hb7⟩
  rw [← hyes.out] at own7
  have hb27 := hb26.trans (hb7.mono hb26.size)
  have hs4r := hb27
  refine hKQ.out _ _ hs4r ?_
  clear hKQ KQ
  try simp only [Act.put, List.setIfInBounds_toArray, List.set_cons_zero, List.set_cons_succ]
  (refine held_takeA 7 (by rfl) ?_ (by kernel_rfl) (fun _ _ _ h => h) hs4r ?_ ?_; rotate_left; (focus (intro wq hSw; have hrd := hSw; go_simp; try with_reducible rfl; done)); try simp only [Act.put, List.setIfInBounds_toArray, List.set_cons_zero, List.set_cons_succ])
  refine wpAnyH_done (by kernel_rfl) ?_ _
  try refine NoPanic.normal ?_
  go_wp2_with fail
  go_ret
  have hzw := hB.size
  have hz6 := hb26.size
  exact ⟨_, rfl, own7.less (by omega), hB.trans (hb27.mono hB.size)⟩
end Go.Proofs.YthbfnppgaaeilaaDoor
