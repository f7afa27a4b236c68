/- ip: IpBuilds, the walk. -/
import Derived.Test.YtlkammmadchjnaaIpI
import Derived.Test.YtlkammmadchjnaaOpen2
namespace Go.Proofs.Ytlkammmadchjnaa
set_option linter.unusedVariables false
open Go.RowKit

/-- the packet's bytes; none: it may not be. -/
def buildL (t i f g l p s d : Int) (o pl : List UInt8) : List UInt8 :=
  if goodH t i f g l p o.length = true ∧ pl.length + o.length ≤ 8980 then refL t i f g l p s d o.length (20 + o.length + pl.length) (65535 - csum (refL t i f g l p s d o.length (20 + o.length + pl.length) 0 ++ o)) ++ o ++ pl else []
theorem buildL_yes {t i f g l p s d : Int} {o pl : List UInt8} (h1 : goodH t i f g l p o.length = true) (h2 : pl.length + o.length ≤ 8980) :
    buildL t i f g l p s d o pl = refL t i f g l p s d o.length (20 + o.length + pl.length) (65535 - csum (refL t i f g l p s d o.length (20 + o.length + pl.length) 0 ++ o)) ++ o ++ pl := if_pos ⟨h1, h2⟩
theorem buildL_no {t i f g l p s d : Int} {o pl : List UInt8} (h : ¬ (goodH t i f g l p o.length = true ∧ pl.length + o.length ≤ 8980)) : buildL t i f g l p s d o pl = [] := if_neg h
theorem buildL_len {t i f g l p s d : Int} {o pl : List UInt8} (h1 : goodH t i f g l p o.length = true) (h2 : pl.length + o.length ≤ 8980) : (buildL t i f g l p s d o pl).length = 20 + o.length + pl.length := by
  rw [buildL_yes h1 h2]; simp [refL_len]; omega
theorem ipBuild_any (t i f g l p s d : Int) (A : Option Addr) (n c : Nat) (o : List UInt8) (X : Option Addr) (m k : Nat) (pl : List UInt8) (w : World) (hn : n ≤ 300) (hm : m ≤ 12000)
    (hO : Byt w w.heap.size A n o) (hP : Byt w w.heap.size X m pl) (s0 : 0 ≤ s) (s1 : s ≤ 4294967295) (d0 : 0 ≤ d) (d1 : d ≤ 4294967295) :
    Calls Try.prog 11 #[.agg #[.int .i64 t, .int .i64 i, .int .i64 f, .int .i64 g, .int .i64 l, .int .i64 p, .int .u32 s, .int .u32 d, .slice A n c], .slice X m k] w fun e w' => ∃ v, e = .returned v ∧ OwnB w' w.heap.size v (buildL t i f g l p s d o pl).length (buildL t i f g l p s d o pl) ∧ Below w.heap.size w w' := by
  have ho := hO.1
  have hp := hP.1
  by_cases h : goodH t i f g l p n = true ∧ m + n ≤ 8980
  · obtain ⟨h1, h2⟩ := h
    refine (build_yes t i f g l p s d A n c o X m k pl w h1 h2 hO hP s0 s1 d0 d1).mono ?_
    rintro e w' ⟨v, he, hown, hb⟩
    refine ⟨v, he, ?_, hb⟩
    rw [builds_same _ _ _ _ _ _ _ _ _ _ _ _ h1 h2 ho] at hown
    subst ho hp
    rw [buildL_len h1 h2, buildL_yes h1 h2]
    exact hown
  · refine (build_no t i f g l p s d A n c X m k w hn hm (by
      rcases Nat.lt_or_ge 8980 (m + n) with hq | hq
      · exact .inr hq
      · exact .inl (by cases hg : goodH t i f g l p n; rfl; exact absurd ⟨hg, hq⟩ h))).mono ?_
    rintro e w' ⟨he, hb⟩
    subst ho hp
    rw [buildL_no h]
    exact ⟨_, he, OwnB.nil _ _, hb⟩
theorem refBuild_any (t i f g l p s d : Int) (A : Option Addr) (n c : Nat) (o : List UInt8) (X : Option Addr) (m k : Nat) (pl : List UInt8) (w : World) (hn : n ≤ 300) (hm : m ≤ 12000)
    (hO : Byt w w.heap.size A n o) (hP : Byt w w.heap.size X m pl) (s0 : 0 ≤ s) (s1 : s ≤ 4294967295) (d0 : 0 ≤ d) (d1 : d ≤ 4294967295) :
    Calls Try.prog 12 #[.agg #[.int .i64 t, .int .i64 i, .int .i64 f, .int .i64 g, .int .i64 l, .int .i64 p, .int .u32 s, .int .u32 d, .slice A n c], .slice X m k] w fun e w' => ∃ v, e = .returned v ∧ OwnB w' w.heap.size v (buildL t i f g l p s d o pl).length (buildL t i f g l p s d o pl) ∧ Below w.heap.size w w' := by
  have ho := hO.1
  have hp := hP.1
  by_cases h : goodH t i f g l p n = true ∧ m + n ≤ 8980
  · obtain ⟨h1, h2⟩ := h
    refine (refBuild_yes t i f g l p s d A n c o X m k pl w h1 h2 hO hP s0 s1 d0 d1).mono ?_
    rintro e w' ⟨v, he, hown, hb⟩
    refine ⟨v, he, ?_, hb⟩
    subst ho hp
    rw [buildL_len h1 h2, buildL_yes h1 h2]
    exact hown
  · refine (refBuild_no t i f g l p s d A n c X m k w hn hm (by
      rcases Nat.lt_or_ge 8980 (m + n) with hq | hq
      · exact .inr hq
      · exact .inl (by cases hg : goodH t i f g l p n; rfl; exact absurd ⟨hg, hq⟩ h))).mono ?_
    rintro e w' ⟨he, hb⟩
    subst ho hp
    rw [buildL_no h]
    exact ⟨_, he, OwnB.nil _ _, hb⟩
theorem lives_good : goodH 0 0 0 0 9 17 ([] : List UInt8).length = true := by decide
theorem lives_len : (buildL 0 0 0 0 9 17 0 0 [] []).length = 20 := buildL_len lives_good (by decide)
theorem lives_first : byAt (buildL 0 0 0 0 9 17 0 0 [] []) 0 = 69 := by
  rw [buildL_yes lives_good (by decide)]
  rfl
set_option maxHeartbeats 400000 in
theorem lives4_any (w : World) : Calls Try.prog 7 #[] w fun e w' => e = .returned (.bool true) ∧ Below w.heap.size w w' := by
  go_enter Try.func7, Try.ntmps7
  go_wp2_with fail
  refine (ipBuild_any 0 0 0 0 9 17 0 0 none 0 0 [] none 0 0 [] w (by omega) (by omega) Byt.none_ Byt.none_ (by omega) (by omega) (by omega) (by omega)).mono ?_
  rintro e w1 ⟨v, rfl, hown, hb⟩
  rw [lives_len] at hown
  obtain ⟨G, cap, rfl, hg, hgs, _, _⟩ := hown.form (by omega)
  have hc := hown.cell 0 (by omega)
  rw [lives_first] at hc
  clear hown
  go_wp2_with fail
  go_ret
  exact ⟨rfl, hb⟩
set_option maxRecDepth 100000 in
set_option maxHeartbeats 8000000 in
theorem builds_walk (t i f g l p s d : Int) (A : Option Addr) (n c : Nat) (o : List UInt8) (t' i' f' g' l' p' s' d' : Int) (A' : Option Addr) (n' c' : Nat) (o' : List UInt8) (X : Option Addr) (m k : Nat) (pl : List UInt8) (w : World)
    (w1 : (Lit.int .i64 t).wf = true) (w2 : (Lit.int .i64 i).wf = true) (w3 : (Lit.int .i64 f).wf = true) (w4 : (Lit.int .i64 g).wf = true) (w5 : (Lit.int .i64 l).wf = true) (w6 : (Lit.int .i64 p).wf = true) (w7 : (Lit.int .u32 s).wf = true) (w8 : (Lit.int .u32 d).wf = true)
    (hl0 : n ≤ c) (hm0 : c ≤ maxLen) (hO : Byt w w.heap.size A n o)
    (w1' : (Lit.int .i64 t').wf = true) (w2' : (Lit.int .i64 i').wf = true) (w3' : (Lit.int .i64 f').wf = true) (w4' : (Lit.int .i64 g').wf = true) (w5' : (Lit.int .i64 l').wf = true) (w6' : (Lit.int .i64 p').wf = true) (w7' : (Lit.int .u32 s').wf = true) (w8' : (Lit.int .u32 d').wf = true)
    (hl1 : n' ≤ c') (hm1 : c' ≤ maxLen) (hO' : Byt w w.heap.size A' n' o') (hl2 : m ≤ k) (hm2 : k ≤ maxLen) (hP : Byt w w.heap.size X m pl) :
    Calls Try.prog 3 #[.agg #[.int .i64 t, .int .i64 i, .int .i64 f, .int .i64 g, .int .i64 l, .int .i64 p, .int .u32 s, .int .u32 d, .slice A n c], .agg #[.int .i64 t', .int .i64 i', .int .i64 f', .int .i64 g', .int .i64 l', .int .i64 p', .int .u32 s', .int .u32 d', .slice A' n' c'], .slice X m k] w fun e w' => e = .returned (.bool true) ∧ Below w.heap.size w w' := by
  obtain ⟨s0, s1⟩ := bounds_u32 w7
  obtain ⟨d0, d1⟩ := bounds_u32 w8
  clear w1 w2 w3 w4 w5 w6 w7 w8 w1' w2' w3' w4' w5' w6' w7' w8'
  unfold maxLen at hm0 hm1 hm2
  have hB := ((Below.refl w.heap.size w).alloc (Nat.le_refl _) (.cells (hdrCs t i f g l p s d A n c) 25)).alloc (by simp) (.cells (hdrCs t' i' f' g' l' p' s' d' A' n' c') 25)
  have hq := (Blk.new w 25 (hdrCs t i f g l p s d A n c)).alloc (.cells (hdrCs t' i' f' g' l' p' s' d' A' n' c') 25)
  have hr := Blk.new (w.alloc (.cells (hdrCs t i f g l p s d A n c) 25)) 25 (hdrCs t' i' f' g' l' p' s' d' A' n' c')
  rw [World.size_alloc] at hr
  have hlives : ∀ W, Below w.heap.size w W → Calls Try.prog 7 #[] W fun e w' => e = .returned (.bool true) ∧ Below w.heap.size w w' := fun W hW => (lives4_any W).mono fun e w' ⟨h1, h2⟩ => ⟨h1, hW.trans (h2.mono hW.size)⟩
  by_cases h1 : 12000 < m
  · try (have i1 : (12000 : Int) < m := by omega)
    try (have i1 : (m : Int) ≤ 12000 := by omega)
    try (have i2 : (300 : Int) < n := by omega)
    try (have i2 : (n : Int) ≤ 300 := by omega)
    try (have i3 : (300 : Int) < n' := by omega)
    clear hq hr hO hO' hP s0 s1 d0 d1 hl0 hl1 hl2 hm0 hm1 hm2
    unfold hdrCs at hB
    go_enter Try.func3, Try.ntmps3
    go_wp2_with fail
    refine (hlives _ hB).mono ?_
    rintro e w9 ⟨rfl, hb⟩
    go_wp2_with fail
    go_ret
    exact ⟨rfl, hb⟩
  replace h1 : m ≤ 12000 := by omega
  by_cases h2 : 300 < n
  · try (have i1 : (12000 : Int) < m := by omega)
    try (have i1 : (m : Int) ≤ 12000 := by omega)
    try (have i2 : (300 : Int) < n := by omega)
    try (have i2 : (n : Int) ≤ 300 := by omega)
    try (have i3 : (300 : Int) < n' := by omega)
    clear hq hr hO hO' hP s0 s1 d0 d1 hl0 hl1 hl2 hm0 hm1 hm2
    unfold hdrCs at hB
    go_enter Try.func3, Try.ntmps3
    go_wp2_with fail
    refine (hlives _ hB).mono ?_
    rintro e w9 ⟨rfl, hb⟩
    go_wp2_with fail
    go_ret
    exact ⟨rfl, hb⟩
  replace h2 : n ≤ 300 := by omega
  by_cases h3 : 300 < n'
  · try (have i1 : (12000 : Int) < m := by omega)
    try (have i1 : (m : Int) ≤ 12000 := by omega)
    try (have i2 : (300 : Int) < n := by omega)
    try (have i2 : (n : Int) ≤ 300 := by omega)
    try (have i3 : (300 : Int) < n' := by omega)
    clear hq hr hO hO' hP s0 s1 d0 d1 hl0 hl1 hl2 hm0 hm1 hm2
    unfold hdrCs at hB
    go_enter Try.func3, Try.ntmps3
    go_wp2_with fail
    refine (hlives _ hB).mono ?_
    rintro e w9 ⟨rfl, hb⟩
    go_wp2_with fail
    go_ret
    exact ⟨rfl, hb⟩
  · replace h3 : n' ≤ 300 := by omega
    unfold hdrCs at hB hq hr
    go_enter Try.func3, Try.ntmps3
    go_wp2_with fail
    revert hB hq hr
    generalize hW1 : (w.alloc (.cells _ 25)).alloc (.cells _ 25) = W1
    intro hB hq hr
    clear hW1
    -- region 3: 0 1C 2 3C 4C 5 6 7 8 9C 10 11 12C 13 14C 15 16 17 18 19 20 21C 22 23C 24 25C 26C 27 28 29 30C 31 32
    try refine wp_region_noPanic ?_
    have hs1r : Below W1.heap.size W1 W1.drew := (Below.refl _ _).drew
    refine wp_region_held_drew (S := fun w' => Below W1.heap.size W1 w') (by kernel_rfl) hs1r (fun _ => ?_)
    (refine held_takeA 0 (by rfl) ?_ (by kernel_rfl) (fun _ _ _ h => h) hs1r ?_ ?_; rotate_left; (focus (intro wq hSw; refine exec_load_blk (x := .tmp 3) ?_ ?_ (hq.below hSw hq.lt) _ Try.underlying25 rfl (by kernel_rfl) <;> rfl)); simp only [Act.put, List.setIfInBounds_toArray, List.set_cons_zero, List.set_cons_succ])
    (refine held_takeA 2 (by rfl) ?_ (by kernel_rfl) (fun _ _ _ h => h) hs1r ?_ ?_; rotate_left; (focus (intro wq hSw; refine exec_load_blk (x := .tmp 3) ?_ ?_ (hq.below hSw hq.lt) _ Try.underlying25 rfl (by kernel_rfl) <;> rfl)); simp only [Act.put, List.setIfInBounds_toArray, List.set_cons_zero, List.set_cons_succ])
    refine held_callA 1 (by rfl) (by kernel_rfl) (by rfl) (fun K hK => ?_)
    go_simp
    refine (ipGood_any t i f g l p s d A n c _ h2).mono ?_
    rintro e w2 ⟨rfl, hb2⟩
    refine hK.out _ _ (hs1r.trans hb2) (held_mono (S' := fun w' => Below w2.heap.size w2 w') (fun w' h => (hs1r.trans hb2).trans (h.mono (hs1r.trans hb2).size)) _ _ _ _ ?_)
    clear hK K
    replace hq := hq.below (hs1r.trans hb2) hq.lt
    replace hr := hr.below (hs1r.trans hb2) hr.lt
    replace hB := hB.trans ((hs1r.trans hb2).mono hB.size)
    have hs2r : Below w2.heap.size w2 w2 := Below.refl _ _
    try simp only [Act.put, List.setIfInBounds_toArray, List.set_cons_zero, List.set_cons_succ]
    refine held_callA 3 (by rfl) (by kernel_rfl) (by rfl) (fun K hK => ?_)
    go_simp
    refine (plain_any t i f g l p s d A n c _).mono ?_
    rintro e w3 ⟨rfl, hb3⟩
    refine hK.out _ _ (hs2r.trans hb3) (held_mono (S' := fun w' => Below w3.heap.size w3 w') (fun w' h => (hs2r.trans hb3).trans (h.mono (hs2r.trans hb3).size)) _ _ _ _ ?_)
    clear hK K
    replace hq := hq.below (hs2r.trans hb3) hq.lt
    replace hr := hr.below (hs2r.trans hb3) hr.lt
    replace hB := hB.trans ((hs2r.trans hb3).mono hB.size)
    have hs3r : Below w3.heap.size w3 w3 := Below.refl _ _
    try simp only [Act.put, List.setIfInBounds_toArray, List.set_cons_zero, List.set_cons_succ]
    refine held_callA 4 (by rfl) (by kernel_rfl) (by rfl) (fun K hK => ?_)
    go_simp
    refine (refGood_any t i f g l p s d A n c _ h2).mono ?_
    rintro e w4 ⟨rfl, hb4⟩
    refine hK.out _ _ (hs3r.trans hb4) (held_mono (S' := fun w' => Below w4.heap.size w4 w') (fun w' h => (hs3r.trans hb4).trans (h.mono (hs3r.trans hb4).size)) _ _ _ _ ?_)
    clear hK K
    replace hq := hq.below (hs3r.trans hb4) hq.lt
    replace hr := hr.below (hs3r.trans hb4) hr.lt
    replace hB := hB.trans ((hs3r.trans hb4).mono hB.size)
    have hs4r : Below w4.heap.size w4 w4 := Below.refl _ _
    try simp only [Act.put, List.setIfInBounds_toArray, List.set_cons_zero, List.set_cons_succ]
    (refine held_takeA 5 (by rfl) ?_ (by kernel_rfl) (fun _ _ _ h => h) hs4r ?_ ?_; rotate_left; (focus (intro wq hSw; have hrd : ∀ b o, b < w4.heap.size → wq.cell? ⟨b, o, none⟩ = w4.cell? ⟨b, o, none⟩ := (fun b o h => hSw.cell (p := ⟨b, o, none⟩) h); go_simp; try with_reducible rfl)); simp only [Act.put, List.setIfInBounds_toArray, List.set_cons_zero, List.set_cons_succ])
    (refine held_takeA 6 (by rfl) ?_ (by kernel_rfl) (fun _ _ _ h => h) hs4r ?_ ?_; rotate_left; (focus (intro wq hSw; have hrd : ∀ b o, b < w4.heap.size → wq.cell? ⟨b, o, none⟩ = w4.cell? ⟨b, o, none⟩ := (fun b o h => hSw.cell (p := ⟨b, o, none⟩) h); go_simp; try with_reducible rfl)); simp only [Act.put, List.setIfInBounds_toArray, List.set_cons_zero, List.set_cons_succ])
    (refine held_takeA 7 (by rfl) ?_ (by kernel_rfl) (fun _ _ _ h => h) hs4r ?_ ?_; rotate_left; (focus (intro wq hSw; refine exec_load_blk (x := .tmp 3) ?_ ?_ (hq.below hSw hq.lt) _ Try.underlying25 rfl (by kernel_rfl) <;> rfl)); simp only [Act.put, List.setIfInBounds_toArray, List.set_cons_zero, List.set_cons_succ])
    (refine held_takeA 8 (by rfl) ?_ (by kernel_rfl) (fun _ _ _ h => h) hs4r ?_ ?_; rotate_left; (focus (intro wq hSw; have hrd : ∀ b o, b < w4.heap.size → wq.cell? ⟨b, o, none⟩ = w4.cell? ⟨b, o, none⟩ := (fun b o h => hSw.cell (p := ⟨b, o, none⟩) h); go_simp; try with_reducible rfl)); simp only [Act.put, List.setIfInBounds_toArray, List.set_cons_zero, List.set_cons_succ])
    (refine held_takeA 11 (by rfl) ?_ (by kernel_rfl) (fun _ _ _ h => h) hs4r ?_ ?_; rotate_left; (focus (intro wq hSw; refine exec_load_blk (x := .tmp 3) ?_ ?_ (hq.below hSw hq.lt) _ Try.underlying25 rfl (by kernel_rfl) <;> rfl)); simp only [Act.put, List.setIfInBounds_toArray, List.set_cons_zero, List.set_cons_succ])
    (refine held_takeA 13 (by rfl) ?_ (by kernel_rfl) (fun _ _ _ h => h) hs4r ?_ ?_; rotate_left; (focus (intro wq hSw; have hrd : ∀ b o, b < w4.heap.size → wq.cell? ⟨b, o, none⟩ = w4.cell? ⟨b, o, none⟩ := (fun b o h => hSw.cell (p := ⟨b, o, none⟩) h); go_simp; try with_reducible rfl)); simp only [Act.put, List.setIfInBounds_toArray, List.set_cons_zero, List.set_cons_succ])
    refine held_callA 9 (by rfl) (by kernel_rfl) (by rfl) (fun K hK => ?_)
    go_simp
    refine (ipBuild_any t i f g l p s d A n c o X m k pl w4 h2 h1 ((hO.below hB).more hB.size) ((hP.below hB).more hB.size) s0 s1 d0 d1).mono ?_
    rintro e w5 ⟨v5, rfl, own5, hb5⟩
    generalize hL : buildL t i f g l p s d o pl = L at own5
    replace hL := Lib.hid hL
    refine hK.out _ _ (hs4r.trans hb5) (held_mono (S' := fun w' => Below w5.heap.size w5 w') (fun w' h => (hs4r.trans hb5).trans (h.mono (hs4r.trans hb5).size)) _ _ _ _ ?_)
    clear hK K
    replace hq := hq.below (hs4r.trans hb5) hq.lt
    replace hr := hr.below (hs4r.trans hb5) hr.lt
    replace hB := hB.trans ((hs4r.trans hb5).mono hB.size)
    have hs5r : Below w5.heap.size w5 w5 := Below.refl _ _
    try simp only [Act.put, List.setIfInBounds_toArray, List.set_cons_zero, List.set_cons_succ]
    (refine held_takeA 10 (by rfl) ?_ (by kernel_rfl) (fun _ _ _ h => h) hs5r ?_ ?_; rotate_left; (focus (intro wq hSw; have q := (own5.below hSw).str; go_simp; try with_reducible rfl)); simp only [Act.put, List.setIfInBounds_toArray, List.set_cons_zero, List.set_cons_succ])
    refine held_callA 12 (by rfl) (by kernel_rfl) (by rfl) (fun K hK => ?_)
    go_simp
    refine (plain_any t i f g l p s d A n c _).mono ?_
    rintro e w6 ⟨rfl, hb6⟩
    refine hK.out _ _ (hs5r.trans hb6) (held_mono (S' := fun w' => Below w6.heap.size w6 w') (fun w' h => (hs5r.trans hb6).trans (h.mono (hs5r.trans hb6).size)) _ _ _ _ ?_)
    clear hK K
    replace hq := hq.below (hs5r.trans hb6) hq.lt
    replace hr := hr.below (hs5r.trans hb6) hr.lt
    replace hB := hB.trans ((hs5r.trans hb6).mono hB.size)
    have hs6r : Below w6.heap.size w6 w6 := Below.refl _ _
    try simp only [Act.put, List.setIfInBounds_toArray, List.set_cons_zero, List.set_cons_succ]
    refine held_callA 14 (by rfl) (by kernel_rfl) (by rfl) (fun K hK => ?_)
    go_simp
    refine (refBuild_any t i f g l p s d A n c o X m k pl w6 h2 h1 ((hO.below hB).more hB.size) ((hP.below hB).more hB.size) s0 s1 d0 d1).mono ?_
    rintro e w7 ⟨v7, rfl, own6, hb7⟩
    rw [hL.out] at own6
    refine hK.out _ _ (hs6r.trans hb7) (held_mono (S' := fun w' => Below w7.heap.size w7 w') (fun w' h => (hs6r.trans hb7).trans (h.mono (hs6r.trans hb7).size)) _ _ _ _ ?_)
    clear hK K
    replace hq := hq.below (hs6r.trans hb7) hq.lt
    replace hr := hr.below (hs6r.trans hb7) hr.lt
    replace hB := hB.trans ((hs6r.trans hb7).mono hB.size)
    have hs7r : Below w7.heap.size w7 w7 := Below.refl _ _
    try simp only [Act.put, List.setIfInBounds_toArray, List.set_cons_zero, List.set_cons_succ]
    (refine held_takeA 15 (by rfl) ?_ (by kernel_rfl) (fun _ _ _ h => h) hs7r ?_ ?_; rotate_left; (focus (intro wq hSw; have q := (own6.below hSw).str; go_simp; try with_reducible rfl)); simp only [Act.put, List.setIfInBounds_toArray, List.set_cons_zero, List.set_cons_succ])
    (refine held_takeA 16 (by rfl) ?_ (by kernel_rfl) (fun _ _ _ h => h) hs7r ?_ ?_; rotate_left; (focus (intro wq hSw; have hrd : ∀ b o, b < w7.heap.size → wq.cell? ⟨b, o, none⟩ = w7.cell? ⟨b, o, none⟩ := (fun b o h => hSw.cell (p := ⟨b, o, none⟩) h); go_simp; try with_reducible rfl)); simp only [Act.put, List.setIfInBounds_toArray, List.set_cons_zero, List.set_cons_succ])
    (refine held_takeA 17 (by rfl) ?_ (by kernel_rfl) (fun _ _ _ h => h) hs7r ?_ ?_; rotate_left; (focus (intro wq hSw; have hrd : ∀ b o, b < w7.heap.size → wq.cell? ⟨b, o, none⟩ = w7.cell? ⟨b, o, none⟩ := (fun b o h => hSw.cell (p := ⟨b, o, none⟩) h); go_simp; try with_reducible rfl)); simp only [Act.put, List.setIfInBounds_toArray, List.set_cons_zero, List.set_cons_succ])
    (refine held_takeA 18 (by rfl) ?_ (by kernel_rfl) (fun _ _ _ h => h) hs7r ?_ ?_; rotate_left; (focus (intro wq hSw; have hrd : ∀ b o, b < w7.heap.size → wq.cell? ⟨b, o, none⟩ = w7.cell? ⟨b, o, none⟩ := (fun b o h => hSw.cell (p := ⟨b, o, none⟩) h); go_simp; try with_reducible rfl)); simp only [Act.put, List.setIfInBounds_toArray, List.set_cons_zero, List.set_cons_succ])
    (refine held_takeA 19 (by rfl) ?_ (by kernel_rfl) (fun _ _ _ h => h) hs7r ?_ ?_; rotate_left; (focus (intro wq hSw; refine exec_load_blk (x := .tmp 3) ?_ ?_ (hq.below hSw hq.lt) _ Try.underlying25 rfl (by kernel_rfl) <;> rfl)); simp only [Act.put, List.setIfInBounds_toArray, List.set_cons_zero, List.set_cons_succ])
    (refine held_takeA 20 (by rfl) ?_ (by kernel_rfl) (fun _ _ _ h => h) hs7r ?_ ?_; rotate_left; (focus (intro wq hSw; refine exec_load_blk (x := .tmp 4) ?_ ?_ (hr.below hSw hr.lt) _ Try.underlying25 rfl (by kernel_rfl) <;> rfl)); simp only [Act.put, List.setIfInBounds_toArray, List.set_cons_zero, List.set_cons_succ])
    (refine held_takeA 22 (by rfl) ?_ (by kernel_rfl) (fun _ _ _ h => h) hs7r ?_ ?_; rotate_left; (focus (intro wq hSw; refine exec_load_blk (x := .tmp 3) ?_ ?_ (hq.below hSw hq.lt) _ Try.underlying25 rfl (by kernel_rfl) <;> rfl)); simp only [Act.put, List.setIfInBounds_toArray, List.set_cons_zero, List.set_cons_succ])
    (refine held_takeA 24 (by rfl) ?_ (by kernel_rfl) (fun _ _ _ h => h) hs7r ?_ ?_; rotate_left; (focus (intro wq hSw; refine exec_load_blk (x := .tmp 4) ?_ ?_ (hr.below hSw hr.lt) _ Try.underlying25 rfl (by kernel_rfl) <;> rfl)); simp only [Act.put, List.setIfInBounds_toArray, List.set_cons_zero, List.set_cons_succ])
    refine held_callA 21 (by rfl) (by kernel_rfl) (by rfl) (fun K hK => ?_)
    go_simp
    refine (ipSame_any t i f g l p s d A n c o t' i' f' g' l' p' s' d' A' n' c' o' _ _ w7 ((hO.below hB).more hB.size) ((hO'.below hB).more hB.size) (Nat.le_refl _) (Nat.le_refl _)).mono ?_
    rintro e w8 ⟨rfl, hb8⟩
    generalize hS : sameH t i f g l p s d o t' i' f' g' l' p' s' d' o' = sm
    replace hS := Lib.hid hS
    refine hK.out _ _ (hs7r.trans hb8) (held_mono (S' := fun w' => Below w8.heap.size w8 w') (fun w' h => (hs7r.trans hb8).trans (h.mono (hs7r.trans hb8).size)) _ _ _ _ ?_)
    clear hK K
    replace hq := hq.below (hs7r.trans hb8) hq.lt
    replace hr := hr.below (hs7r.trans hb8) hr.lt
    replace hB := hB.trans ((hs7r.trans hb8).mono hB.size)
    have hs8r : Below w8.heap.size w8 w8 := Below.refl _ _
    try simp only [Act.put, List.setIfInBounds_toArray, List.set_cons_zero, List.set_cons_succ]
    refine held_callA 23 (by rfl) (by kernel_rfl) (by rfl) (fun K hK => ?_)
    go_simp
    refine (plain_any t i f g l p s d A n c _).mono ?_
    rintro e w9 ⟨rfl, hb9⟩
    refine hK.out _ _ (hs8r.trans hb9) (held_mono (S' := fun w' => Below w9.heap.size w9 w') (fun w' h => (hs8r.trans hb9).trans (h.mono (hs8r.trans hb9).size)) _ _ _ _ ?_)
    clear hK K
    replace hq := hq.below (hs8r.trans hb9) hq.lt
    replace hr := hr.below (hs8r.trans hb9) hr.lt
    replace hB := hB.trans ((hs8r.trans hb9).mono hB.size)
    have hs9r : Below w9.heap.size w9 w9 := Below.refl _ _
    try simp only [Act.put, List.setIfInBounds_toArray, List.set_cons_zero, List.set_cons_succ]
    refine held_callA 25 (by rfl) (by kernel_rfl) (by rfl) (fun K hK => ?_)
    go_simp
    refine (plain_any t' i' f' g' l' p' s' d' A' n' c' _).mono ?_
    rintro e w10 ⟨rfl, hb10⟩
    refine hK.out _ _ (hs9r.trans hb10) (held_mono (S' := fun w' => Below w10.heap.size w10 w') (fun w' h => (hs9r.trans hb10).trans (h.mono (hs9r.trans hb10).size)) _ _ _ _ ?_)
    clear hK K
    replace hq := hq.below (hs9r.trans hb10) hq.lt
    replace hr := hr.below (hs9r.trans hb10) hr.lt
    replace hB := hB.trans ((hs9r.trans hb10).mono hB.size)
    have hs10r : Below w10.heap.size w10 w10 := Below.refl _ _
    try simp only [Act.put, List.setIfInBounds_toArray, List.set_cons_zero, List.set_cons_succ]
    refine held_callA 26 (by rfl) (by kernel_rfl) (by rfl) (fun K hK => ?_)
    go_simp
    refine (refSame_any t i f g l p s d A n c o t' i' f' g' l' p' s' d' A' n' c' o' _ _ w10 ((hO.below hB).more hB.size) ((hO'.below hB).more hB.size) (Nat.le_refl _) (Nat.le_refl _)).mono ?_
    rintro e w11 ⟨rfl, hb11⟩
    rw [hS.out]
    refine hK.out _ _ (hs10r.trans hb11) (held_mono (S' := fun w' => Below w11.heap.size w11 w') (fun w' h => (hs10r.trans hb11).trans (h.mono (hs10r.trans hb11).size)) _ _ _ _ ?_)
    clear hK K
    replace hq := hq.below (hs10r.trans hb11) hq.lt
    replace hr := hr.below (hs10r.trans hb11) hr.lt
    replace hB := hB.trans ((hs10r.trans hb11).mono hB.size)
    have hs11r : Below w11.heap.size w11 w11 := Below.refl _ _
    try simp only [Act.put, List.setIfInBounds_toArray, List.set_cons_zero, List.set_cons_succ]
    (refine held_takeA 27 (by rfl) ?_ (by kernel_rfl) (fun _ _ _ h => h) hs11r ?_ ?_; rotate_left; (focus (intro wq hSw; have hrd : ∀ b o, b < w11.heap.size → wq.cell? ⟨b, o, none⟩ = w11.cell? ⟨b, o, none⟩ := (fun b o h => hSw.cell (p := ⟨b, o, none⟩) h); go_simp; try with_reducible rfl)); simp only [Act.put, List.setIfInBounds_toArray, List.set_cons_zero, List.set_cons_succ])
    (refine held_takeA 28 (by rfl) ?_ (by kernel_rfl) (fun _ _ _ h => h) hs11r ?_ ?_; rotate_left; (focus (intro wq hSw; have hrd : ∀ b o, b < w11.heap.size → wq.cell? ⟨b, o, none⟩ = w11.cell? ⟨b, o, none⟩ := (fun b o h => hSw.cell (p := ⟨b, o, none⟩) h); go_simp; try with_reducible rfl)); simp only [Act.put, List.setIfInBounds_toArray, List.set_cons_zero, List.set_cons_succ])
    (refine held_takeA 29 (by rfl) ?_ (by kernel_rfl) (fun _ _ _ h => h) hs11r ?_ ?_; rotate_left; (focus (intro wq hSw; have hrd : ∀ b o, b < w11.heap.size → wq.cell? ⟨b, o, none⟩ = w11.cell? ⟨b, o, none⟩ := (fun b o h => hSw.cell (p := ⟨b, o, none⟩) h); go_simp; try with_reducible rfl)); simp only [Act.put, List.setIfInBounds_toArray, List.set_cons_zero, List.set_cons_succ])
    refine held_callA 30 (by rfl) (by kernel_rfl) (by rfl) (fun K hK => ?_)
    go_simp
    refine (lives4_any _).mono ?_
    rintro e w12 ⟨rfl, hb12⟩
    refine hK.out _ _ (hs11r.trans hb12) (held_mono (S' := fun w' => Below w12.heap.size w12 w') (fun w' h => (hs11r.trans hb12).trans (h.mono (hs11r.trans hb12).size)) _ _ _ _ ?_)
    clear hK K
    replace hq := hq.below (hs11r.trans hb12) hq.lt
    replace hr := hr.below (hs11r.trans hb12) hr.lt
    replace hB := hB.trans ((hs11r.trans hb12).mono hB.size)
    have hs12r : Below w12.heap.size w12 w12 := Below.refl _ _
    try simp only [Act.put, List.setIfInBounds_toArray, List.set_cons_zero, List.set_cons_succ]
    (refine held_takeA 31 (by rfl) ?_ (by kernel_rfl) (fun _ _ _ h => h) hs12r ?_ ?_; rotate_left; (focus (intro wq hSw; have hrd : ∀ b o, b < w12.heap.size → wq.cell? ⟨b, o, none⟩ = w12.cell? ⟨b, o, none⟩ := (fun b o h => hSw.cell (p := ⟨b, o, none⟩) h); go_simp; try with_reducible rfl)); simp only [Act.put, List.setIfInBounds_toArray, List.set_cons_zero, List.set_cons_succ])
    (refine held_takeA 32 (by rfl) ?_ (by kernel_rfl) (fun _ _ _ h => h) hs12r ?_ ?_; rotate_left; (focus (intro wq hSw; have hrd : ∀ b o, b < w12.heap.size → wq.cell? ⟨b, o, none⟩ = w12.cell? ⟨b, o, none⟩ := (fun b o h => hSw.cell (p := ⟨b, o, none⟩) h); go_simp; try with_reducible rfl)); simp only [Act.put, List.setIfInBounds_toArray, List.set_cons_zero, List.set_cons_succ])
    refine wpAnyH_done (by kernel_rfl) ?_ _
    try refine NoPanic.normal ?_
    go_wp2_with fail
    go_ret
    exact ⟨rfl, hB⟩
end Go.Proofs.Ytlkammmadchjnaa
