/- ip: Build of a header that may be. ip: plain, bytes.Equal. -/
import Derived.Test.YthbfnppgaaeilaaDoorIpB
import Derived.Deep.MidRow
namespace Go.Proofs.YthbfnppgaaeilaaDoor
set_option linter.unusedVariables false
open Go.RowKit

/-- the bytes of a head, its sum a nought. -/
def headL (t i f g l p s d : Int) (n m : Nat) : List UInt8 := be (64 + (20 + (n : Int)) / 4) 1 ++ be t 1 ++ be (20 + (n : Int) + m) 2 ++ be i 2 ++ be (f * 8192 + g) 2 ++ be l 1 ++ be p 1 ++ be 0 2 ++ be s 4 ++ be d 4
set_option maxRecDepth 100000 in
set_option maxHeartbeats 4000000 in
theorem build_yes (t i f g l p s d : Int) (A : Option Addr) (n c : Nat) (o : List UInt8) (X : Option Addr) (m k : Nat) (pl : List UInt8) (w : World) (hgd : goodH t i f g l p n = true) (hmn : m + n ≤ 8980)
    (hO : Byt w w.heap.size A n o) (hP : Byt w w.heap.size X m pl) (s0 : 0 ≤ s) (s1 : s ≤ 4294967295) (d0 : 0 ≤ d) (d1 : d ≤ 4294967295) :
    Calls Tryd.prog 55 #[.agg #[.int .i64 t, .int .i64 i, .int .i64 f, .int .i64 g, .int .i64 l, .int .i64 p, .int .u32 s, .int .u32 d, .slice A n c], .slice X m k] w fun e w' => ∃ v, e = .returned v ∧ OwnB w' w.heap.size v (20 + n + m) (set10 (headL t i f g l p s d n m ++ o) (sealV (headL t i f g l p s d n m ++ o) (20 + n)) ++ pl) ∧ Below w.heap.size w w' := by
  have hn : n ≤ 40 := by simp [goodH] at hgd; omega
  have hq := Blk.new w 83 (hdrCs t i f g l p s d A n c)
  have hB := (Below.refl w.heap.size w).alloc (Nat.le_refl _) (.cells (hdrCs t i f g l p s d A n c) 83)
  have hor := or64 ((20 + (n : Int)) / 4) (by omega) (by omega)
  have hfg : 0 ≤ f ∧ f ≤ 7 ∧ 0 ≤ g ∧ g ≤ 8191 := by simp [goodH, inH] at hgd; omega
  obtain ⟨f0, f1, g0, g1⟩ := hfg
  have htl : 0 ≤ t ∧ t ≤ 255 ∧ 0 ≤ l ∧ l ≤ 255 ∧ 0 ≤ p ∧ p ≤ 255 ∧ 0 ≤ i ∧ i ≤ 65535 := by simp [goodH, inH] at hgd; omega
  have hor13 := or13 f g f0 f1 g0 g1
  have j0 : ∀ (x0 x1 x2 : Value) (w : World), (Instr.index 56 (.agg #[x0, x1, x2]) (.int .i64 0)).run Tryd.prog w = .ok x0 w := fun _ _ _ _ => by kernel_rfl
  have j1 : ∀ (x0 x1 x2 : Value) (w : World), (Instr.index 56 (.agg #[x0, x1, x2]) (.int .i64 1)).run Tryd.prog w = .ok x1 w := fun _ _ _ _ => by kernel_rfl
  have j2 : ∀ (x0 x1 x2 : Value) (w : World), (Instr.index 56 (.agg #[x0, x1, x2]) (.int .i64 2)).run Tryd.prog w = .ok x2 w := fun _ _ _ _ => by kernel_rfl
  go_enter Tryd.func55, Tryd.ntmps55
  go_wp2_with fail
  refine (ipGood_any t i f g l p s d A n c _ (by omega)).mono ?_
  rintro e w1 ⟨rfl, hb⟩
  replace hB := hB.trans (hb.mono hB.size)
  replace hq := hq.below hb hq.lt
  rw [hgd]
  have hnl : ¬ (9000 : Int) - (20 + n) < (m : Int) := by omega
  go_wp2_with fail
  try refine wp_region_noPanic ?_
  have hs1 := Below.refl w1.drew.heap.size w1.drew
  have hB1 := hB.drew
  have hq1 := hq.drew
  refine wp_region_held_drew (S := fun w' => Below w1.drew.heap.size w1.drew w') (by kernel_rfl) hs1 (fun _ => ?_)
  refine held_take 0 (by decide) ?v0x1 (by kernel_rfl) (by kernel_rfl) (by kernel_rfl) (fun _ _ _ h => h) (by rfl) ?y0x1 hs1 ?r0x1
  case y0x1 =>
    intro wq hSw
    simp only [List.getElem_cons_zero]
    go_simp
    try with_reducible rfl
  case r0x1 =>
  simp only [List.getElem_cons_zero, Act.put, List.setIfInBounds_toArray, List.set_cons_zero, List.set_cons_succ]
  refine held_take 1 (by decide) ?v1x1 (by kernel_rfl) (by kernel_rfl) (by kernel_rfl) (fun _ _ _ h => h) (by rfl) ?y1x1 hs1 ?r1x1
  case y1x1 =>
    intro wq hSw
    simp only [List.getElem_cons_succ, List.getElem_cons_zero]
    go_simp
    try with_reducible rfl
  case r1x1 =>
  simp only [List.getElem_cons_succ, List.getElem_cons_zero, Act.put, List.setIfInBounds_toArray, List.set_cons_zero, List.set_cons_succ]
  refine held_take 2 (by decide) ?v2x1 (by kernel_rfl) (by kernel_rfl) (by kernel_rfl) (fun _ _ _ h => h) (by rfl) ?y2x1 hs1 ?r2x1
  case y2x1 =>
    intro wq hSw
    simp only [List.getElem_cons_succ, List.getElem_cons_zero]
    go_simp
    try with_reducible rfl
  case r2x1 =>
  simp only [List.getElem_cons_succ, List.getElem_cons_zero, Act.put, List.setIfInBounds_toArray, List.set_cons_zero, List.set_cons_succ]
  refine held_take 4 (by decide) ?v4x1 (by kernel_rfl) (by kernel_rfl) (by kernel_rfl) (fun _ _ _ h => h) (by rfl) ?y4x1 hs1 ?r4x1
  case y4x1 =>
    intro wq hSw
    simp only [List.getElem_cons_succ, List.getElem_cons_zero]
    go_simp
    try with_reducible rfl
  case r4x1 =>
  simp only [List.getElem_cons_succ, List.getElem_cons_zero, Act.put, List.setIfInBounds_toArray, List.set_cons_zero, List.set_cons_succ]
  refine held_take 5 (by decide) ?v5x1 (by kernel_rfl) (by kernel_rfl) (by kernel_rfl) (fun _ _ _ h => h) (by rfl) ?y5x1 hs1 ?r5x1
  case y5x1 =>
    intro wq hSw
    simp only [List.getElem_cons_succ, List.getElem_cons_zero]
    have hc := (hq1.below hSw hq1.lt).cellv 0 (v := .int .i64 t) rfl
    go_simp
    try with_reducible rfl
  case r5x1 =>
  simp only [List.getElem_cons_succ, List.getElem_cons_zero, Act.put, List.setIfInBounds_toArray, List.set_cons_zero, List.set_cons_succ]
  refine held_call 3 (by decide) (by kernel_rfl) (by rfl) (fun K hK => ?_)
  simp only [List.getElem_cons_succ, List.getElem_cons_zero]
  go_simp
  refine (put8_any w1.drew none 0 0 [] 0 Byt.none_ (by omega) (by omega) _).mono ?_
  rintro e w2 ⟨v2, rfl, own2, hb2⟩
  obtain ⟨A2, c2, rfl, _, by2, _⟩ := own2.any
  have hs2 := Below.refl w2.heap.size w2
  have hB2 := hB1.trans (hb2.mono hB1.size)
  have hq2 := hq1.below hb2 hq1.lt
  have hz2 := hB2.size
  refine hK.out _ _ hb2 (held_mono (S' := fun w' => Below w2.heap.size w2 w') (fun w' h => hb2.trans (h.mono hb2.size)) _ _ _ _ ?_)
  clear hK K
  refine held_call 6 (by decide) (by kernel_rfl) (by rfl) (fun K hK => ?_)
  simp only [List.getElem_cons_succ, List.getElem_cons_zero]
  go_simp
  refine (put8_any w2 A2 _ c2 _ _ by2 (Nat.le_refl _) (by omega) _).mono ?_
  rintro e w3 ⟨v3, rfl, own3, hb3⟩
  obtain ⟨A3, c3, rfl, _, by3, _⟩ := own3.any
  have hs3 := Below.refl w3.heap.size w3
  have hB3 := hB2.trans (hb3.mono hB2.size)
  have hq3 := hq2.below hb3 hq2.lt
  have hz3 := hB3.size
  refine hK.out _ _ hb3 (held_mono (S' := fun w' => Below w3.heap.size w3 w') (fun w' h => hb3.trans (h.mono hb3.size)) _ _ _ _ ?_)
  clear hK K
  refine held_take 7 (by decide) ?v7x1 (by kernel_rfl) (by kernel_rfl) (by kernel_rfl) (fun _ _ _ h => h) (by rfl) ?y7x1 hs3 ?r7x1
  case y7x1 =>
    intro wq hSw
    simp only [List.getElem_cons_succ, List.getElem_cons_zero]
    go_simp
    try with_reducible rfl
  case r7x1 =>
  simp only [List.getElem_cons_succ, List.getElem_cons_zero, Act.put, List.setIfInBounds_toArray, List.set_cons_zero, List.set_cons_succ]
  refine wpAnyH_done (by kernel_rfl) ?_ _
  try refine NoPanic.normal ?_
  have a1 := hq3.cellv 1 (v := .int .i64 i) rfl
  have a2 := hq3.cellv 2 (v := .int .i64 f) rfl
  have a3 := hq3.cellv 3 (v := .int .i64 g) rfl
  go_wp2_with fail
  refine wp_loop_rounds 4 ?_
  rw [rounds_succ]
  go_wp2_with fail
  refine (put16_any w3 A3 _ c3 _ _ by3 (Nat.le_refl _) (by omega) _).mono ?_
  rintro e w4 ⟨v4, rfl, own4, hb4⟩
  obtain ⟨A4, c4, rfl, _, by4, _⟩ := own4.any
  have hs4 := Below.refl w4.heap.size w4
  have hB4 := hB3.trans (hb4.mono hB3.size)
  have hq4 := hq3.below hb4 hq3.lt
  have hz4 := hB4.size
  go_wp2_with fail
  rw [rounds_succ]
  go_wp2_with fail
  refine (put16_any w4 A4 _ c4 _ _ by4 (Nat.le_refl _) (by omega) _).mono ?_
  rintro e w5 ⟨v5, rfl, own5, hb5⟩
  obtain ⟨A5, c5, rfl, _, by5, _⟩ := own5.any
  have hs5 := Below.refl w5.heap.size w5
  have hB5 := hB4.trans (hb5.mono hB4.size)
  have hq5 := hq4.below hb5 hq4.lt
  have hz5 := hB5.size
  go_wp2_with fail
  rw [rounds_succ]
  go_wp2_with fail
  refine (put16_any w5 A5 _ c5 _ _ by5 (Nat.le_refl _) (by omega) _).mono ?_
  rintro e w6 ⟨v6, rfl, own6, hb6⟩
  obtain ⟨A6, c6, rfl, _, by6, _⟩ := own6.any
  have hs6 := Below.refl w6.heap.size w6
  have hB6 := hB5.trans (hb6.mono hB5.size)
  have hq6 := hq5.below hb6 hq5.lt
  have hz6 := hB6.size
  go_wp2_with fail
  rw [rounds_succ]
  go_wp2_with fail
  try refine wp_region_noPanic ?_
  have hs60 := Below.refl w6.drew.heap.size w6.drew
  have hB60 := hB6.drew
  have hq60 := hq6.drew
  have by60 := by6.drew
  refine wp_region_held_drew (S := fun w' => Below w6.drew.heap.size w6.drew w') (by kernel_rfl) hs60 (fun _ => ?_)
  refine held_take 0 (by decide) ?v0x2 (by kernel_rfl) (by kernel_rfl) (by kernel_rfl) (fun _ _ _ h => h) (by rfl) ?y0x2 hs60 ?r0x2
  case y0x2 =>
    intro wq hSw
    simp only [List.getElem_cons_zero]
    go_simp
    try with_reducible rfl
  case r0x2 =>
  simp only [List.getElem_cons_zero, Act.put, List.setIfInBounds_toArray, List.set_cons_zero, List.set_cons_succ]
  refine held_take 1 (by decide) ?v1x2 (by kernel_rfl) (by kernel_rfl) (by kernel_rfl) (fun _ _ _ h => h) (by rfl) ?y1x2 hs60 ?r1x2
  case y1x2 =>
    intro wq hSw
    simp only [List.getElem_cons_succ, List.getElem_cons_zero]
    go_simp
    try with_reducible rfl
  case r1x2 =>
  simp only [List.getElem_cons_succ, List.getElem_cons_zero, Act.put, List.setIfInBounds_toArray, List.set_cons_zero, List.set_cons_succ]
  refine held_take 2 (by decide) ?v2x2 (by kernel_rfl) (by kernel_rfl) (by kernel_rfl) (fun _ _ _ h => h) (by rfl) ?y2x2 hs60 ?r2x2
  case y2x2 =>
    intro wq hSw
    simp only [List.getElem_cons_succ, List.getElem_cons_zero]
    have hc := (hq60.below hSw hq60.lt).cellv 4 (v := .int .i64 l) rfl
    go_simp
    try with_reducible rfl
  case r2x2 =>
  simp only [List.getElem_cons_succ, List.getElem_cons_zero, Act.put, List.setIfInBounds_toArray, List.set_cons_zero, List.set_cons_succ]
  refine held_take 4 (by decide) ?v4x2 (by kernel_rfl) (by kernel_rfl) (by kernel_rfl) (fun _ _ _ h => h) (by rfl) ?y4x2 hs60 ?r4x2
  case y4x2 =>
    intro wq hSw
    simp only [List.getElem_cons_succ, List.getElem_cons_zero]
    go_simp
    try with_reducible rfl
  case r4x2 =>
  simp only [List.getElem_cons_succ, List.getElem_cons_zero, Act.put, List.setIfInBounds_toArray, List.set_cons_zero, List.set_cons_succ]
  refine held_take 5 (by decide) ?v5x2 (by kernel_rfl) (by kernel_rfl) (by kernel_rfl) (fun _ _ _ h => h) (by rfl) ?y5x2 hs60 ?r5x2
  case y5x2 =>
    intro wq hSw
    simp only [List.getElem_cons_succ, List.getElem_cons_zero]
    have hc := (hq60.below hSw hq60.lt).cellv 5 (v := .int .i64 p) rfl
    go_simp
    try with_reducible rfl
  case r5x2 =>
  simp only [List.getElem_cons_succ, List.getElem_cons_zero, Act.put, List.setIfInBounds_toArray, List.set_cons_zero, List.set_cons_succ]
  refine held_call 3 (by decide) (by kernel_rfl) (by rfl) (fun K hK => ?_)
  simp only [List.getElem_cons_succ, List.getElem_cons_zero]
  go_simp
  refine (put8_any w6.drew A6 _ c6 _ _ by60 (Nat.le_refl _) (by omega) _).mono ?_
  rintro e w7 ⟨v7, rfl, own7, hb7⟩
  obtain ⟨A7, c7, rfl, _, by7, _⟩ := own7.any
  have hs7 := Below.refl w7.heap.size w7
  have hB7 := hB60.trans (hb7.mono hB60.size)
  have hq7 := hq60.below hb7 hq60.lt
  have hz7 := hB7.size
  refine hK.out _ _ hb7 (held_mono (S' := fun w' => Below w7.heap.size w7 w') (fun w' h => hb7.trans (h.mono hb7.size)) _ _ _ _ ?_)
  clear hK K
  refine held_call 6 (by decide) (by kernel_rfl) (by rfl) (fun K hK => ?_)
  simp only [List.getElem_cons_succ, List.getElem_cons_zero]
  go_simp
  refine (put8_any w7 A7 _ c7 _ _ by7 (Nat.le_refl _) (by omega) _).mono ?_
  rintro e w8 ⟨v8, rfl, own8, hb8⟩
  obtain ⟨A8, c8, rfl, _, by8, _⟩ := own8.any
  have hs8 := Below.refl w8.heap.size w8
  have hB8 := hB7.trans (hb8.mono hB7.size)
  have hq8 := hq7.below hb8 hq7.lt
  have hz8 := hB8.size
  refine hK.out _ _ hb8 (held_mono (S' := fun w' => Below w8.heap.size w8 w') (fun w' h => hb8.trans (h.mono hb8.size)) _ _ _ _ ?_)
  clear hK K
  refine held_call 7 (by decide) (by kernel_rfl) (by rfl) (fun K hK => ?_)
  simp only [List.getElem_cons_succ, List.getElem_cons_zero]
  go_simp
  refine (put16_any w8 A8 _ c8 _ _ by8 (Nat.le_refl _) (by omega) _).mono ?_
  rintro e w9 ⟨v9, rfl, own9, hb9⟩
  obtain ⟨A9, c9, rfl, _, by9, _⟩ := own9.any
  have hs9 := Below.refl w9.heap.size w9
  have hB9 := hB8.trans (hb9.mono hB8.size)
  have hq9 := hq8.below hb9 hq8.lt
  have hz9 := hB9.size
  refine hK.out _ _ hb9 (held_mono (S' := fun w' => Below w9.heap.size w9 w') (fun w' h => hb9.trans (h.mono hb9.size)) _ _ _ _ ?_)
  clear hK K
  refine held_take 8 (by decide) ?v8x2 (by kernel_rfl) (by kernel_rfl) (by kernel_rfl) (fun _ _ _ h => h) (by rfl) ?y8x2 hs9 ?r8x2
  case y8x2 =>
    intro wq hSw
    simp only [List.getElem_cons_succ, List.getElem_cons_zero]
    go_simp
    try with_reducible rfl
  case r8x2 =>
  simp only [List.getElem_cons_succ, List.getElem_cons_zero, Act.put, List.setIfInBounds_toArray, List.set_cons_zero, List.set_cons_succ]
  refine wpAnyH_done (by kernel_rfl) ?_ _
  try refine NoPanic.normal ?_
  go_wp2_with fail
  try refine wp_region_noPanic ?_
  have hs90 := Below.refl w9.drew.heap.size w9.drew
  have hB90 := hB9.drew
  have hq90 := hq9.drew
  have by90 := by9.drew
  refine wp_region_held_drew (S := fun w' => Below w9.drew.heap.size w9.drew w') (by kernel_rfl) hs90 (fun _ => ?_)
  refine held_take 0 (by decide) ?v0x3 (by kernel_rfl) (by kernel_rfl) (by kernel_rfl) (fun _ _ _ h => h) (by rfl) ?y0x3 hs90 ?r0x3
  case y0x3 =>
    intro wq hSw
    simp only [List.getElem_cons_zero]
    go_simp
    try with_reducible rfl
  case r0x3 =>
  simp only [List.getElem_cons_zero, Act.put, List.setIfInBounds_toArray, List.set_cons_zero, List.set_cons_succ]
  refine held_take 1 (by decide) ?v1x3 (by kernel_rfl) (by kernel_rfl) (by kernel_rfl) (fun _ _ _ h => h) (by rfl) ?y1x3 hs90 ?r1x3
  case y1x3 =>
    intro wq hSw
    simp only [List.getElem_cons_succ, List.getElem_cons_zero]
    go_simp
    try with_reducible rfl
  case r1x3 =>
  simp only [List.getElem_cons_succ, List.getElem_cons_zero, Act.put, List.setIfInBounds_toArray, List.set_cons_zero, List.set_cons_succ]
  refine held_take 2 (by decide) ?v2x3 (by kernel_rfl) (by kernel_rfl) (by kernel_rfl) (fun _ _ _ h => h) (by rfl) ?y2x3 hs90 ?r2x3
  case y2x3 =>
    intro wq hSw
    simp only [List.getElem_cons_succ, List.getElem_cons_zero]
    have hc := (hq90.below hSw hq90.lt).cellv 6 (v := .int .u32 s) rfl
    go_simp
    try with_reducible rfl
  case r2x3 =>
  simp only [List.getElem_cons_succ, List.getElem_cons_zero, Act.put, List.setIfInBounds_toArray, List.set_cons_zero, List.set_cons_succ]
  refine held_take 4 (by decide) ?v4x3 (by kernel_rfl) (by kernel_rfl) (by kernel_rfl) (fun _ _ _ h => h) (by rfl) ?y4x3 hs90 ?r4x3
  case y4x3 =>
    intro wq hSw
    simp only [List.getElem_cons_succ, List.getElem_cons_zero]
    go_simp
    try with_reducible rfl
  case r4x3 =>
  simp only [List.getElem_cons_succ, List.getElem_cons_zero, Act.put, List.setIfInBounds_toArray, List.set_cons_zero, List.set_cons_succ]
  refine held_take 5 (by decide) ?v5x3 (by kernel_rfl) (by kernel_rfl) (by kernel_rfl) (fun _ _ _ h => h) (by rfl) ?y5x3 hs90 ?r5x3
  case y5x3 =>
    intro wq hSw
    simp only [List.getElem_cons_succ, List.getElem_cons_zero]
    have hc := (hq90.below hSw hq90.lt).cellv 7 (v := .int .u32 d) rfl
    go_simp
    try with_reducible rfl
  case r5x3 =>
  simp only [List.getElem_cons_succ, List.getElem_cons_zero, Act.put, List.setIfInBounds_toArray, List.set_cons_zero, List.set_cons_succ]
  refine held_call 3 (by decide) (by kernel_rfl) (by rfl) (fun K hK => ?_)
  simp only [List.getElem_cons_succ, List.getElem_cons_zero]
  go_simp
  refine (put32_any w9.drew A9 _ c9 _ _ by90 (Nat.le_refl _) (by omega) _ s0 s1).mono ?_
  rintro e w10 ⟨v10, rfl, own10, hb10⟩
  obtain ⟨A10, c10, rfl, _, by10, _⟩ := own10.any
  have hs10 := Below.refl w10.heap.size w10
  have hB10 := hB90.trans (hb10.mono hB90.size)
  have hq10 := hq90.below hb10 hq90.lt
  have hz10 := hB10.size
  refine hK.out _ _ hb10 (held_mono (S' := fun w' => Below w10.heap.size w10 w') (fun w' h => hb10.trans (h.mono hb10.size)) _ _ _ _ ?_)
  clear hK K
  refine held_call 6 (by decide) (by kernel_rfl) (by rfl) (fun K hK => ?_)
  simp only [List.getElem_cons_succ, List.getElem_cons_zero]
  go_simp
  refine (put32_any w10 A10 _ c10 _ _ by10 (Nat.le_refl _) (by omega) _ d0 d1).mono ?_
  rintro e w11 ⟨v11, rfl, own11, hb11⟩
  obtain ⟨A11, c11, rfl, _, by11, _⟩ := own11.any
  have hs11 := Below.refl w11.heap.size w11
  have hB11 := hB10.trans (hb11.mono hB10.size)
  have hq11 := hq10.below hb11 hq10.lt
  have hz11 := hB11.size
  refine hK.out _ _ hb11 (held_mono (S' := fun w' => Below w11.heap.size w11 w') (fun w' h => hb11.trans (h.mono hb11.size)) _ _ _ _ ?_)
  clear hK K
  refine held_take 7 (by decide) ?v7x3 (by kernel_rfl) (by kernel_rfl) (by kernel_rfl) (fun _ _ _ h => h) (by rfl) ?y7x3 hs11 ?r7x3
  case y7x3 =>
    intro wq hSw
    simp only [List.getElem_cons_succ, List.getElem_cons_zero]
    go_simp
    try with_reducible rfl
  case r7x3 =>
  simp only [List.getElem_cons_succ, List.getElem_cons_zero, Act.put, List.setIfInBounds_toArray, List.set_cons_zero, List.set_cons_succ]
  refine wpAnyH_done (by kernel_rfl) ?_ _
  try refine NoPanic.normal ?_
  have a8 := hq11.cellv 8 (v := .slice A n c) rfl
  have hL : ([] ++ be (bits .or .i64 64 (IntKind.i64.wrap ((20 + (n : Int)).tdiv 4)) % 18446744073709551616) 1 ++ be (t % 18446744073709551616) 1 ++ be ((20 + (n : Int) + m) % 18446744073709551616) 2 ++ be (i % 18446744073709551616) 2 ++ be ((f * 8192 + g) % 18446744073709551616) 2 ++ be (l % 18446744073709551616) 1 ++ be (p % 18446744073709551616) 1 ++ be (0 % 18446744073709551616) 2 ++ be s 4 ++ be d 4) = headL t i f g l p s d n m := by
    have e1 : IntKind.i64.wrap ((20 + (n : Int)).tdiv 4) = (20 + (n : Int)) / 4 := by rw [Int.tdiv_eq_ediv_of_nonneg (by omega), IntKind.wrap_i64]; omega
    rw [e1, hor, Int.emod_eq_of_lt (a := 64 + (20 + (n : Int)) / 4) (by omega) (by omega), Int.emod_eq_of_lt (a := t) (by omega) (by omega), Int.emod_eq_of_lt (a := 20 + (n : Int) + m) (by omega) (by omega), Int.emod_eq_of_lt (a := i) (by omega) (by omega), Int.emod_eq_of_lt (a := f * 8192 + g) (by omega) (by omega), Int.emod_eq_of_lt (a := l) (by omega) (by omega), Int.emod_eq_of_lt (a := p) (by omega) (by omega), Int.emod_eq_of_lt (a := (0 : Int)) (by omega) (by omega), List.nil_append]
    rfl
  rw [hL] at own11
  generalize hLL : headL t i f g l p s d n m = L at *
  clear own2 own3 own4 own5 own6 own7 own8 own9 own10 by2 by3 by4 by5 by6 by7 by8 by9 by10 by11 by60 by90
  have hO11 := hO.below hB11
  have hz10' := hb11.size
  go_wp2_with (at_builtin; refine wpList_app _ rfl (.tmp 65) (.tmp 67) rfl w10.heap.size _ 20 L rfl own11 _ A n c o rfl hO11 (by omega) hz10' ?_; intro v12 w12 own12 hg12 hd12; have hb12 : Below w10.heap.size w11 w12 := own11.below_app hg12 hz10')
  obtain ⟨g12, c12, rfl, _, _, _, _⟩ := own12.form (by omega)
  have hB12 := hB11.trans (hb12.mono hz10)
  have hz12 := hb12.size
  have hse := seal_any w12 w10.heap.size g12 (20 + n) c12 (L ++ o) (20 + n) own12 (by omega) (by omega) (by omega)
  rw [show ((20 + n : Nat) : Int) = 20 + (n : Int) from by omega] at hse
  refine hse.mono ?_
  rintro e w13 ⟨rfl, own13, hg13⟩
  have hgl := (World.ownsRow.lt own12 g12 rfl).1
  have hB13 := below_own hB12 hg13 (by omega) (by omega)
  have hz13 := hg13.size
  have hP13 := hP.below hB13
  go_wp2_with (at_builtin; refine wpList_app _ rfl (.tmp 72) (.tmp 73) rfl w10.heap.size _ (20 + n) _ rfl own13 _ X m k pl rfl hP13 (by omega) (by omega) ?_; intro v14 w14 own14 hg14 hd14; have hb14 : Below w10.heap.size w13 w14 := own13.below_app hg14 (by omega))
  go_ret
  refine ⟨v14, ?_, by rw [hLL]; exact own14.less hz10, hB13.trans (hb14.mono hz10)⟩
  rfl
end Go.Proofs.YthbfnppgaaeilaaDoor

namespace Go.Proofs.YthbfnppgaaeilaaDoor
set_option linter.unusedVariables false
open Go.RowKit

theorem results_cell {P : Program} {fn : Func} {a : Tmp} {ty : TypeId} {w : World} {ad : Addr} {v : Value} (h : fn.results = #[.cell a ty]) (tmps : Array Value) (ha : tmps.getD a undef = .pointer (some ad)) (hl : (loadVar ty ad).run P w = .ok v w) :
    (results fn tmps).run P w = .ok v w := by
  have ha2 := ha
  simp only [Array.getD_eq_getD_getElem?] at ha2
  simp [results, h, ha2, asAddr, hl]
end Go.Proofs.YthbfnppgaaeilaaDoor
