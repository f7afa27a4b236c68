/- ip: the document's Build; both build the same bytes. -/
import Derived.Test.YtlkammmadchjnaaIpG
namespace Go.Proofs.Ytlkammmadchjnaa
set_option linter.unusedVariables false
open Go.RowKit

theorem refBuild_no (t i f g l p s d : Int) (A : Option Addr) (n c : Nat) (X : Option Addr) (m k : Nat) (w : World) (hn : n ≤ 300) (hm : m ≤ 12000) (hno : goodH t i f g l p n = false ∨ 8980 < m + n) :
    Calls Try.prog 12 #[.agg #[.int .i64 t, .int .i64 i, .int .i64 f, .int .i64 g, .int .i64 l, .int .i64 p, .int .u32 s, .int .u32 d, .slice A n c], .slice X m k] w fun e w' => e = .returned (.slice none 0 0) ∧ Below w.heap.size w w' := by
  have hk := Blk.new w 29 (hdrCs t i f g l p s d A n c)
  have hB := (Below.refl w.heap.size w).alloc (Nat.le_refl _) (.cells (hdrCs t i f g l p s d A n c) 29)
  go_enter Try.func12, Try.ntmps12
  go_wp2_with fail
  refine (refGood_any t i f g l p s d A n c _ hn).mono ?_
  rintro e w1 ⟨rfl, hb⟩
  have hq := hk.below hb hk.lt
  have c8 := hq.cellv 8 (v := .slice A n c) rfl
  cases hg : goodH t i f g l p n with
  | false =>
    go_wp2_with fail
    go_ret
    exact ⟨rfl, hB.trans (hb.mono hB.size)⟩
  | true =>
    have hlt : 8980 < m + n := by
      rcases hno with h | h
      · rw [hg] at h; cases h
      · exact h
    have hlt' : (8980 : Int) - n < (m : Int) := by omega
    go_wp2_with fail
    go_ret
    exact ⟨rfl, hB.trans (hb.mono hB.size)⟩

set_option maxRecDepth 100000 in
set_option maxHeartbeats 4000000 in
theorem refBuild_yes (t i f g l p s d : Int) (A : Option Addr) (n c : Nat) (o : List UInt8) (X : Option Addr) (m k : Nat) (pl : List UInt8) (w : World) (hgd : goodH t i f g l p n = true) (hmn : m + n ≤ 8980)
    (hO : Byt w w.heap.size A n o) (hP : Byt w w.heap.size X m pl) (s0 : 0 ≤ s) (s1 : s ≤ 4294967295) (d0 : 0 ≤ d) (d1 : d ≤ 4294967295) :
    Calls Try.prog 12 #[.agg #[.int .i64 t, .int .i64 i, .int .i64 f, .int .i64 g, .int .i64 l, .int .i64 p, .int .u32 s, .int .u32 d, .slice A n c], .slice X m k] w fun e w' => ∃ v, e = .returned v ∧ OwnB w' w.heap.size v (20 + n + m) (refL t i f g l p s d n (20 + n + m) (65535 - csum (refL t i f g l p s d n (20 + n + m) 0 ++ o)) ++ o ++ pl) ∧ Below w.heap.size w w' := by
  have hn : n ≤ 40 := by simp [goodH] at hgd; omega
  have hq := Blk.new w 29 (hdrCs t i f g l p s d A n c)
  have hB := (Below.refl w.heap.size w).alloc (Nat.le_refl _) (.cells (hdrCs t i f g l p s d A n c) 29)
  have hfg : 0 ≤ f ∧ f ≤ 7 ∧ 0 ≤ g ∧ g ≤ 8191 := by simp [goodH, inH] at hgd; omega
  obtain ⟨f0, f1, g0, g1⟩ := hfg
  go_enter Try.func12, Try.ntmps12
  go_wp2_with fail
  refine (refGood_any t i f g l p s d A n c _ (by omega)).mono ?_
  rintro e w1 ⟨rfl, hb⟩
  replace hB := hB.trans (hb.mono hB.size)
  replace hq := hq.below hb hq.lt
  have hO1 := hO.below hB
  have hP1 := hP.below hB
  have hz1 := hB.size
  have c8 := hq.cellv 8 (v := .slice A n c) rfl
  rw [hgd]
  have hnl : ¬ (8980 : Int) - n < (m : Int) := by omega
  unfold hdrCs at hq
  go_wp2_with fail
  --@a
  -- region 4: 0 1 2 3 4C 5C 6C 7 8M 9
  try refine wp_region_noPanic ?_
  have hs1r : Below w1.heap.size w1 w1.drew := (Below.refl _ _).drew
  refine wp_region_held_drew (S := fun w' => Below w1.heap.size w1 w') (by kernel_rfl) hs1r (fun _ => ?_)
  (refine held_takeA 0 (by rfl) ?_ (by kernel_rfl) (fun _ _ _ h => h) hs1r ?_ ?_; rotate_left; (focus (intro wq hSw; refine exec_load_blk (x := .tmp 2) ?_ ?_ (hq.below hSw hq.lt) _ Try.underlying29 rfl (by kernel_rfl) <;> rfl)); simp only [Act.put, List.setIfInBounds_toArray, List.set_cons_zero, List.set_cons_succ])
  (refine held_takeA 1 (by rfl) ?_ (by kernel_rfl) (fun _ _ _ h => h) hs1r ?_ ?_; rotate_left; (focus (intro wq hSw; have hrd : ∀ b o, b < w1.heap.size → wq.cell? ⟨b, o, none⟩ = w1.cell? ⟨b, o, none⟩ := (fun b o h => hSw.cell (p := ⟨b, o, none⟩) h); go_simp; try with_reducible rfl)); simp only [Act.put, List.setIfInBounds_toArray, List.set_cons_zero, List.set_cons_succ])
  (refine held_takeA 2 (by rfl) ?_ (by kernel_rfl) (fun _ _ _ h => h) hs1r ?_ ?_; rotate_left; (focus (intro wq hSw; refine exec_load_blk (x := .tmp 2) ?_ ?_ (hq.below hSw hq.lt) _ Try.underlying29 rfl (by kernel_rfl) <;> rfl)); simp only [Act.put, List.setIfInBounds_toArray, List.set_cons_zero, List.set_cons_succ])
  (refine held_takeA 3 (by rfl) ?_ (by kernel_rfl) (fun _ _ _ h => h) hs1r ?_ ?_; rotate_left; (focus (intro wq hSw; have hrd : ∀ b o, b < w1.heap.size → wq.cell? ⟨b, o, none⟩ = w1.cell? ⟨b, o, none⟩ := (fun b o h => hSw.cell (p := ⟨b, o, none⟩) h); go_simp; try with_reducible rfl)); simp only [Act.put, List.setIfInBounds_toArray, List.set_cons_zero, List.set_cons_succ])
  (refine held_takeA 7 (by rfl) ?_ (by kernel_rfl) (fun _ _ _ h => h) hs1r ?_ ?_; rotate_left; (focus (intro wq hSw; have hrd : ∀ b o, b < w1.heap.size → wq.cell? ⟨b, o, none⟩ = w1.cell? ⟨b, o, none⟩ := (fun b o h => hSw.cell (p := ⟨b, o, none⟩) h); go_simp; try with_reducible rfl)); simp only [Act.put, List.setIfInBounds_toArray, List.set_cons_zero, List.set_cons_succ])
  refine held_callA 4 (by rfl) (by kernel_rfl) (by rfl) (fun K hK => ?_)
  go_simp
  refine (refHead_any t i f g l p s d A n c o (20 + n + m) 0 _ hn ((hO1.more hz1).drew) s0 s1 d0 d1 f0 f1 g0 g1).mono ?_
  rintro e w2 ⟨v2, rfl, own2, hb2⟩
  obtain ⟨A2, c2, rfl, _, by2, _⟩ := own2.any
  --@b
  have hs2r := hs1r.trans hb2
  refine hK.out _ _ hs2r ?_
  clear hK K
  try simp only [Act.put, List.setIfInBounds_toArray, List.set_cons_zero, List.set_cons_succ]
  refine held_callA 5 (by rfl) (by kernel_rfl) (by rfl) (fun K hK => ?_)
  go_simp
  refine (refOf_any A2 _ c2 _ (by omega) w2 by2).mono ?_
  rintro e w' ⟨rfl, rfl⟩
  --@c
  have hs3r := hs2r
  refine hK.out _ _ hs3r ?_
  clear hK K
  try simp only [Act.put, List.setIfInBounds_toArray, List.set_cons_zero, List.set_cons_succ]
  refine held_callA 6 (by rfl) (by kernel_rfl) (by rfl) (fun K hK => ?_)
  go_simp
  have hO2 := hO1.below (hs2r.mono hz1)
  have hz2 := hs2r.size
  refine (refHead_any t i f g l p s d A n c o (20 + n + m) _ w2 hn (hO2.more (Nat.le_trans hz1 hz2)) s0 s1 d0 d1 f0 f1 g0 g1).mono ?_
  rintro e w3 ⟨v3, rfl, own3, hb3⟩
  --@d
  have hs4r := hs3r.trans (hb3.mono hz2)
  refine hK.out _ _ hs4r ?_
  clear hK K
  try simp only [Act.put, List.setIfInBounds_toArray, List.set_cons_zero, List.set_cons_succ]
  have hz3 := hs4r.size
  have hP3 := hP1.below (hs4r.mono hz1)
  refine held_callA 8 (by rfl) (by kernel_rfl) (by rfl) (fun K hK => ?_)
  refine wp_app _ (.tmp 31) (.tmp 32) (by rfl) w2.heap.size _ _ _ (by rfl) own3 _ X m k _ (by rfl) hP3 (by omega) hb3.size ?_
  intro v4 w4 own4 hg4 hd4
  have hb4 := own3.below_app hg4 hb3.size
  --@e
  have hs5r := hs4r.trans (hb4.mono hz2)
  refine hK.out _ _ hs5r ?_
  clear hK K
  try simp only [Act.put, List.setIfInBounds_toArray, List.set_cons_zero, List.set_cons_succ]
  (refine held_takeA 9 (by rfl) ?_ (by kernel_rfl) (fun _ _ _ h => h) hs5r ?_ ?_; rotate_left; (focus (intro wq hSw; have hrd : ∀ b o, b < w1.heap.size → wq.cell? ⟨b, o, none⟩ = w1.cell? ⟨b, o, none⟩ := (fun b o h => hSw.cell (p := ⟨b, o, none⟩) h); go_simp; try with_reducible rfl)); simp only [Act.put, List.setIfInBounds_toArray, List.set_cons_zero, List.set_cons_succ])
  refine wpAnyH_done (by kernel_rfl) ?_ _
  try refine NoPanic.normal ?_
  go_wp2_with fail
  go_ret
  exact ⟨_, rfl, own4.less (by omega), hB.trans (hs5r.mono hz1)⟩
end Go.Proofs.Ytlkammmadchjnaa
