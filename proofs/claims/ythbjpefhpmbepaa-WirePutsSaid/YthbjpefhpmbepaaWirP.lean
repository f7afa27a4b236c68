/- wire: WirePuts. -/
import Derived.Test.YthbjpefhpmbepaaWirL
import Derived.Lib.AppendStr
import Derived.Deep.DrawnRows
import Derived.Deep.Cut
import Derived.Test.YthbjpefhpmbepaaDraw
namespace Go.Proofs.Ythbjpefhpmbepaa
set_option linter.unusedVariables false
open Go.RowKit


def spareL : List UInt8 := [115, 112, 97, 114, 101]
theorem spare_cells : Lib.strCells ⟨#[115, 112, 97, 114, 101]⟩ = bvs spareL := rfl

theorem strB_app (l : List UInt8) : strB (l ++ spareL) = strB l ++ ⟨#[115, 112, 97, 114, 101]⟩ := by
  apply ByteArray.ext
  simp [strB, spareL]
theorem refPut1_any (w : World) (A : Option Addr) (n c : Nat) (l : List UInt8) (B : Nat) (h : Byt w B A n l) (hB : B ≤ w.heap.size) (hn : n ≤ 100000000) (x : Int) :
    Calls Try.prog 12 #[.slice A n c, .int .u64 (IntKind.u64.wrap x), .int .i64 1] w fun e w' => ∃ v, e = .returned v ∧ OwnB w' w.heap.size v (n + 1) (l ++ be (x % 18446744073709551616) 1) ∧ Below w.heap.size w w' := by
  rw [IntKind.wrap_u64]
  exact refPut_any w A n c l B h hB hn (x % 18446744073709551616) (by omega) 1 (by omega)
theorem refPut2_any (w : World) (A : Option Addr) (n c : Nat) (l : List UInt8) (B : Nat) (h : Byt w B A n l) (hB : B ≤ w.heap.size) (hn : n ≤ 100000000) (x : Int) :
    Calls Try.prog 12 #[.slice A n c, .int .u64 (IntKind.u64.wrap x), .int .i64 2] w fun e w' => ∃ v, e = .returned v ∧ OwnB w' w.heap.size v (n + 2) (l ++ be (x % 18446744073709551616) 2) ∧ Below w.heap.size w w' := by
  rw [IntKind.wrap_u64]
  exact refPut_any w A n c l B h hB hn (x % 18446744073709551616) (by omega) 2 (by omega)
theorem refPut4_any (w : World) (A : Option Addr) (n c : Nat) (l : List UInt8) (B : Nat) (h : Byt w B A n l) (hB : B ≤ w.heap.size) (hn : n ≤ 100000000) (x : Int) :
    Calls Try.prog 12 #[.slice A n c, .int .u64 (IntKind.u64.wrap x), .int .i64 4] w fun e w' => ∃ v, e = .returned v ∧ OwnB w' w.heap.size v (n + 4) (l ++ be (x % 18446744073709551616) 4) ∧ Below w.heap.size w w' := by
  rw [IntKind.wrap_u64]
  exact refPut_any w A n c l B h hB hn (x % 18446744073709551616) (by omega) 4 (by omega)
theorem be_32 (x : Int) : be (x % 4294967296) 4 = be (x % 18446744073709551616) 4 := by
  have h : ∀ a b : Int, a % 256 = b % 256 → byOf a = byOf b := fun a b h => by unfold byOf; rw [h]
  simp only [be]
  rw [h (x % 4294967296 / 2 ^ (8 * 3)) (x % 18446744073709551616 / 2 ^ (8 * 3)) (by omega), h (x % 4294967296 / 2 ^ (8 * 2)) (x % 18446744073709551616 / 2 ^ (8 * 2)) (by omega),
    h (x % 4294967296 / 2 ^ (8 * 1)) (x % 18446744073709551616 / 2 ^ (8 * 1)) (by omega), h (x % 4294967296 / 2 ^ (8 * 0)) (x % 18446744073709551616 / 2 ^ (8 * 0)) (by omega)]
theorem put32w_any (w : World) (A : Option Addr) (n c : Nat) (l : List UInt8) (B : Nat) (h : Byt w B A n l) (hB : B ≤ w.heap.size) (hn : n ≤ 100000000) (x : Int) :
    Calls Try.prog 14 #[.slice A n c, .int .u32 (IntKind.u32.wrap x)] w fun e w' => ∃ v, e = .returned v ∧ OwnB w' w.heap.size v (n + 4) (l ++ be (x % 18446744073709551616) 4) ∧ Below w.heap.size w w' := by
  rw [IntKind.wrap_u32, ← be_32]
  exact put32_any w A n c l B h hB hn _ (by omega) (by omega)

set_option maxRecDepth 100000 in
set_option maxHeartbeats 40000000 in
theorem puts_walk (A : Option Addr) (n c : Nat) (l : List UInt8) (x at_ : Int) (w : World) (hc : n ≤ c) (hc2 : c ≤ maxLen) (hI : Byt w w.heap.size A n l) (hx : (Lit.int .i64 x).wf = true) (ha : (Lit.int .i64 at_).wf = true) :
    Calls Try.prog 3 #[.slice A n c, .int .i64 x, .int .i64 at_] w fun e w' => e = .returned (.bool true) ∧ Below w.heap.size w w' := by
  obtain ⟨x1, x2⟩ := bounds_i64 hx
  obtain ⟨a1, a2⟩ := bounds_i64 ha
  clear hx ha
  by_cases hn : 300 < n
  · go_enter Try.func3, Try.ntmps3
    go_wp2_with fail
    refine (lives_any _).mono ?_
    rintro e w' ⟨rfl, hb⟩
    go_wp2_with fail
    go_ret
    exact ⟨rfl, hb⟩
  · have hmk : ∀ w, (Instr.makeSlice 22 (.int .i64 0) (.int .i64 ((n : Int) + 20))).run Try.prog w = .ok (.slice (some ⟨w.heap.size, 0, none⟩) 0 (n + 20)) (w.alloc (.cells (madeCells #[.int .u8 0] (n + 20)) 5)) := fun w => run_mk 0 (n + 20) (by omega) (by omega) w
    obtain ⟨i, hi, hz, hs, hb⟩ := info_parts info_u8
    have hI1 := hI.alloc (Nat.le_refl _) (.cells (madeCells #[.int .u8 0] (n + 20)) 5)
    have hown0 : OwnB (w.alloc (.cells (madeCells #[.int .u8 0] (n + 20)) 5)) w.heap.size (.slice (some ⟨w.heap.size, 0, none⟩) 0 (n + 20)) 0 [] :=
      World.ownsRow_made w _ (n + 20) (Nat.le_refl _) (by unfold maxLen; omega) (by simp [size_madeCells])
    have hbe0 := (Below.refl w.heap.size w).alloc (Nat.le_refl _) (.cells (madeCells #[.int .u8 0] (n + 20)) 5)
    go_enter Try.func3, Try.ntmps3
    go_wp2_with first
      | (at_builtin; refine wpList_app _ rfl (.tmp 24) (.tmp 25) rfl w.heap.size _ 0 [] rfl hown0 w.heap.size A n c l rfl hI1 (by omega) (by simp) ?_; intro v1 w1 hown1 hg1 hd1; clear hd1; have hb1 : Below w.heap.size w w1 := hbe0.trans (hown0.below_app hg1 (by simp)); rw [Nat.zero_add, List.nil_append] at hown1)
      | (at_builtin; refine Lib.wpList_append_own_string _ rfl (.tmp 26) (.const _) _ _ rfl w.heap.size _ i Try.underlying22 Try.underlying9 hi hz hs hb v1 n _ rfl hown1 _ rfl (by unfold maxLen; show n + 5 ≤ _; omega) (by show n + 5 ≤ _; omega) hb1.size ?_; intro v2 w2 hown2 hg2 hd2; clear hd2; have hb2 : Below w.heap.size w w2 := hb1.trans (hown1.below_app hg2 hb1.size); have hown2 : OwnB w2 w.heap.size v2 (n + 5) (l ++ spareL) := (by unfold OwnB; rw [bvs_app, ← spare_cells]; exact hown2); obtain ⟨g, c2, rfl, hg, hgs, hnc2, hcm2⟩ := hown2.form (by omega); have hsl := slice_hi g 0 (n + 5) c2 n (by omega))
    have hI2 := hI.below hb2
    clear hmk hown0 hI1 hbe0 hown1 hg1 hb1 hg2
    refine (get16_any w2 A n c l _ hI2 hc hc2 at_ (by omega)).mono ?_
    rintro e w' ⟨rfl, rfl⟩
    go_wp2_with fail
    refine (refGet_any w2 A n c l _ hI2 hc hc2 at_ (by omega) 2 (by omega) (by omega)).mono ?_
    rintro e w' ⟨rfl, rfl⟩
    go_wp2_with fail
    refine (get32_any w2 A n c l _ hI2 hc hc2 at_ (by omega)).mono ?_
    rintro e w' ⟨rfl, rfl⟩
    go_wp2_with fail
    refine (refGet_any w2 A n c l _ hI2 hc hc2 at_ (by omega) 4 (by omega) (by omega)).mono ?_
    rintro e w' ⟨rfl, rfl⟩
    go_wp2_with fail
    have p1 := getV_lo l at_ 2
    have p2 := getV_4 l at_ 2 (by omega)
    have p3 := getV_lo l at_ 4
    have p4 := getV_4 l at_ 4 (by omega)
    generalize getV l at_ 2 = v16 at *
    generalize getV l at_ 4 = v32 at *
    generalize fitsB n at_ 2 = f2 at *
    generalize fitsB n at_ 4 = f4 at *
    have hgv : Byt w2 w2.heap.size (some ⟨g, 0, none⟩) n l := by
      have := hown2.byt.take (m := n) (by omega)
      rwa [List.take_append_of_le_length (by rw [hI.1]; exact Nat.le_refl _), List.take_of_length_le (by rw [hI.1]; exact Nat.le_refl _)] at this
    have hgvd := hgv.drew
    have hI2d := hI2.drew
    have hgv2d := hgvd
    have hws := hb2.size
    have hsz2d : w2.heap.size ≤ w2.drew.heap.size := Nat.le_refl _
    have hB2d : Below w2.heap.size w2 w2.drew := (Below.refl w2.heap.size w2).drew
    have hbw := hb2
    go_cut [16] from 17 (fun s16 wx => s16 = .bool true ∧ Below w2.heap.size w2 wx)
    case rest =>
      obtain ⟨rfl, hcb⟩ := hcut
      have hgw := hown2.below hcb
      have hsl5 : ∀ w, (Instr.slice 22 (.slice (some ⟨g, 0, none⟩) n c2) none (some (.int .i64 ((n : Int) + 5))) none).run Try.prog w = .ok (.slice (some ⟨g, 0, none⟩) (n + 5) c2) w := slice_hi g 0 n c2 (n + 5) (by omega)
      have hadd : ∀ w, (Op.stringOp .add (strB l) ⟨#[115, 112, 97, 114, 101]⟩).run Try.prog w = .ok (.string (strB l ++ ⟨#[115, 112, 97, 114, 101]⟩)) w := fun w => run_string_add_sum w _ _ (by
        have e1 : (strB l).size = n := by rw [← hI.1]; simp [strB, ByteArray.size]
        have e2 : (⟨#[115, 112, 97, 114, 101]⟩ : ByteArray).size = 5 := rfl
        omega)
      have hIw := hI2.below (hcb.mono hws)
      have hq1 := hgw.str
      have hq2 := run_str wc hIw c
      have hsp : strB (l ++ spareL) = strB l ++ ⟨#[115, 112, 97, 114, 101]⟩ := strB_app l
      have hBw := hb2.trans (hcb.mono hws)
      have hwrap : IntKind.i64.wrap ((n : Int) + 5) = (n : Int) + 5 := by rw [IntKind.wrap_i64]; omega
      clear hgv hI2d hgvd hgv2d hsz2d hB2d hbw hi hz hs hb i hsl hcb hown2
      have hv16 : IntKind.i64.wrap v16 = v16 := by rw [IntKind.wrap_i64]; omega
      have hv32 : IntKind.u32.wrap v32 = v32 := by rw [IntKind.wrap_u32]; omega
      go_wp2_with fail
      rw [hsp] at hq1
      have hq1d : (convert 22 9 (.slice (some ⟨g, 0, none⟩) (n + 5) c2)).run Try.prog wc.drew = .ok (.string (strB l ++ ⟨#[115, 112, 97, 114, 101]⟩)) wc.drew := by
        have := hgw.drew.str
        rwa [hsp] at this
      have hq2d := run_str wc.drew hIw.drew c
      have hzw := hBw.size
      go_region_held3 (fun w' => (convert 22 9 (.slice (some ⟨g, 0, none⟩) (n + 5) c2)).run Try.prog w' = .ok (.string (strB l ++ ⟨#[115, 112, 97, 114, 101]⟩)) w' ∧ (convert 22 9 (.slice A n c)).run Try.prog w' = .ok (.string (strB l)) w') (first | exact ⟨hq1d, hq2d⟩ | exact ⟨hq1e, hq2e⟩) (first
        | (go_at_call 7; refine (lives_any _).mono ?_; rintro e w7 ⟨rfl, hb7⟩; have hq1e := (hgw.drew.below hb7).str; rw [hsp] at hq1e; have hq2e := run_str w7 (hIw.drew.keep (fun p hp => hb7.cell (Nat.lt_of_lt_of_le hp hzw))) c; have hb8 := hBw.drew.trans (hb7.mono hzw)))
      go_wp2_with fail
      go_ret
      exact ⟨rfl, hb8⟩
    case first =>
    clear hI hown2 hsl hi hz hs hb i a1 a2 hI2 hgvd p1 p2 p3 p4 hbw
    refine wp_region_noPanic ?_
    have hs2d := Below.refl w2.drew.heap.size w2.drew
    refine wp_region_held_drew (S := fun w' => Below w2.drew.heap.size w2.drew w') (by kernel_rfl) hs2d (fun _ => ?_)
    refine held_take 0 (by decide) ?v0 (by kernel_rfl) (by kernel_rfl) (by kernel_rfl) (fun _ _ _ h => h) (by rfl) ?y0 hs2d ?r0
    case y0 =>
      intro wq hSw
      simp only [List.getElem_cons_zero]
      go_simp
      try with_reducible rfl
    case r0 =>
    simp only [List.getElem_cons_zero, Act.put, List.setIfInBounds_toArray, List.set_cons_zero, List.set_cons_succ]
    refine held_take 1 (by decide) ?v1 (by kernel_rfl) (by kernel_rfl) (by kernel_rfl) (fun _ _ _ h => h) (by rfl) ?y1 hs2d ?r1
    case y1 =>
      intro wq hSw
      simp only [List.getElem_cons_succ, List.getElem_cons_zero]
      go_simp
      try with_reducible rfl
    case r1 =>
    simp only [List.getElem_cons_succ, List.getElem_cons_zero, Act.put, List.setIfInBounds_toArray, List.set_cons_zero, List.set_cons_succ]
    refine held_take 4 (by decide) ?v4 (by kernel_rfl) (by kernel_rfl) (by kernel_rfl) (fun _ _ _ h => h) (by rfl) ?y4 hs2d ?r4
    case y4 =>
      intro wq hSw
      simp only [List.getElem_cons_succ, List.getElem_cons_zero]
      go_simp
      try with_reducible rfl
    case r4 =>
    simp only [List.getElem_cons_succ, List.getElem_cons_zero, Act.put, List.setIfInBounds_toArray, List.set_cons_zero, List.set_cons_succ]
    refine held_take 5 (by decide) ?v5 (by kernel_rfl) (by kernel_rfl) (by kernel_rfl) (fun _ _ _ h => h) (by rfl) ?y5 hs2d ?r5
    case y5 =>
      intro wq hSw
      simp only [List.getElem_cons_succ, List.getElem_cons_zero]
      go_simp
      try with_reducible rfl
    case r5 =>
    simp only [List.getElem_cons_succ, List.getElem_cons_zero, Act.put, List.setIfInBounds_toArray, List.set_cons_zero, List.set_cons_succ]
    refine held_take 6 (by decide) ?v6 (by kernel_rfl) (by kernel_rfl) (by kernel_rfl) (fun _ _ _ h => h) (by rfl) ?y6 hs2d ?r6
    case y6 =>
      intro wq hSw
      simp only [List.getElem_cons_succ, List.getElem_cons_zero]
      go_simp
      try with_reducible rfl
    case r6 =>
    simp only [List.getElem_cons_succ, List.getElem_cons_zero, Act.put, List.setIfInBounds_toArray, List.set_cons_zero, List.set_cons_succ]
    refine held_call 2 (by decide) (by kernel_rfl) (by rfl) (fun K hK => ?_)
    simp only [List.getElem_cons_succ, List.getElem_cons_zero]
    go_simp
    refine (put8_any _ _ n c2 l w2.heap.size hgv2d hsz2d (by omega) x).mono ?_
    rintro e w3 ⟨yy3, rfl, hown3, hb3⟩
    have hs3 := Below.refl w3.heap.size w3
    have hgv3 := hgv2d.keep (fun p hp => hb3.cell (Nat.lt_of_lt_of_le hp hsz2d))
    have hI3 := hI2d.keep (fun p hp => hb3.cell (Nat.lt_of_lt_of_le hp (Nat.le_trans hws hsz2d)))
    have hsz3 := Nat.le_trans hsz2d hb3.size
    have hB3 := hB2d.trans (hb3.mono hB2d.size)
    refine hK.out _ _ hb3 (held_mono (S' := fun w' => Below w3.heap.size w3 w') (fun w' h => hb3.trans (h.mono hb3.size)) _ _ _ _ ?_)
    clear hK K
    refine held_take 3 (by decide) ?v3 (by kernel_rfl) (by kernel_rfl) (by kernel_rfl) (fun _ _ _ h => h) (by rfl) ?y3 hs3 ?r3
    case y3 =>
      intro wq hSw
      simp only [List.getElem_cons_succ, List.getElem_cons_zero]
      have hc := (hown3.below hSw).str
      go_simp
      try with_reducible rfl
    case r3 =>
    simp only [List.getElem_cons_succ, List.getElem_cons_zero, Act.put, List.setIfInBounds_toArray, List.set_cons_zero, List.set_cons_succ]
    refine held_call 7 (by decide) (by kernel_rfl) (by rfl) (fun K hK => ?_)
    simp only [List.getElem_cons_succ, List.getElem_cons_zero]
    go_simp
    refine (refPut1_any _ A n c l w.heap.size hI3 (Nat.le_trans hws hsz3) (by omega) x).mono ?_
    rintro e w4 ⟨yy4, rfl, hown4, hb4⟩
    have hs4 := Below.refl w4.heap.size w4
    have hgv4 := hgv3.keep (fun p hp => hb4.cell (Nat.lt_of_lt_of_le hp hsz3))
    have hI4 := hI3.keep (fun p hp => hb4.cell (Nat.lt_of_lt_of_le hp (Nat.le_trans hws hsz3)))
    have hsz4 := Nat.le_trans hsz3 hb4.size
    have hB4 := hB3.trans (hb4.mono hB3.size)
    refine hK.out _ _ hb4 (held_mono (S' := fun w' => Below w4.heap.size w4 w') (fun w' h => hb4.trans (h.mono hb4.size)) _ _ _ _ ?_)
    clear hK K
    refine held_take 8 (by decide) ?v8 (by kernel_rfl) (by kernel_rfl) (by kernel_rfl) (fun _ _ _ h => h) (by rfl) ?y8 hs4 ?r8
    case y8 =>
      intro wq hSw
      simp only [List.getElem_cons_succ, List.getElem_cons_zero]
      have hc := (hown4.below hSw).str
      go_simp
      try with_reducible rfl
    case r8 =>
    simp only [List.getElem_cons_succ, List.getElem_cons_zero, Act.put, List.setIfInBounds_toArray, List.set_cons_zero, List.set_cons_succ]
    refine held_take 9 (by decide) ?v9 (by kernel_rfl) (by kernel_rfl) (by kernel_rfl) (fun _ _ _ h => h) (by rfl) ?y9 hs4 ?r9
    case y9 =>
      intro wq hSw
      simp only [List.getElem_cons_succ, List.getElem_cons_zero]
      go_simp
      try with_reducible rfl
    case r9 =>
    simp only [List.getElem_cons_succ, List.getElem_cons_zero, Act.put, List.setIfInBounds_toArray, List.set_cons_zero, List.set_cons_succ]
    refine held_take 10 (by decide) ?v10 (by kernel_rfl) (by kernel_rfl) (by kernel_rfl) (fun _ _ _ h => h) (by rfl) ?y10 hs4 ?r10
    case y10 =>
      intro wq hSw
      simp only [List.getElem_cons_succ, List.getElem_cons_zero]
      go_simp
      try with_reducible rfl
    case r10 =>
    simp only [List.getElem_cons_succ, List.getElem_cons_zero, Act.put, List.setIfInBounds_toArray, List.set_cons_zero, List.set_cons_succ]
    refine held_take 11 (by decide) ?v11 (by kernel_rfl) (by kernel_rfl) (by kernel_rfl) (fun _ _ _ h => h) (by rfl) ?y11 hs4 ?r11
    case y11 =>
      intro wq hSw
      simp only [List.getElem_cons_succ, List.getElem_cons_zero]
      go_simp
      try with_reducible rfl
    case r11 =>
    simp only [List.getElem_cons_succ, List.getElem_cons_zero, Act.put, List.setIfInBounds_toArray, List.set_cons_zero, List.set_cons_succ]
    refine held_take 12 (by decide) ?v12 (by kernel_rfl) (by kernel_rfl) (by kernel_rfl) (fun _ _ _ h => h) (by rfl) ?y12 hs4 ?r12
    case y12 =>
      intro wq hSw
      simp only [List.getElem_cons_succ, List.getElem_cons_zero]
      go_simp
      try with_reducible rfl
    case r12 =>
    simp only [List.getElem_cons_succ, List.getElem_cons_zero, Act.put, List.setIfInBounds_toArray, List.set_cons_zero, List.set_cons_succ]
    refine held_take 15 (by decide) ?v15 (by kernel_rfl) (by kernel_rfl) (by kernel_rfl) (fun _ _ _ h => h) (by rfl) ?y15 hs4 ?r15
    case y15 =>
      intro wq hSw
      simp only [List.getElem_cons_succ, List.getElem_cons_zero]
      go_simp
      try with_reducible rfl
    case r15 =>
    simp only [List.getElem_cons_succ, List.getElem_cons_zero, Act.put, List.setIfInBounds_toArray, List.set_cons_zero, List.set_cons_succ]
    refine held_take 16 (by decide) ?v16 (by kernel_rfl) (by kernel_rfl) (by kernel_rfl) (fun _ _ _ h => h) (by rfl) ?y16 hs4 ?r16
    case y16 =>
      intro wq hSw
      simp only [List.getElem_cons_succ, List.getElem_cons_zero]
      go_simp
      try with_reducible rfl
    case r16 =>
    simp only [List.getElem_cons_succ, List.getElem_cons_zero, Act.put, List.setIfInBounds_toArray, List.set_cons_zero, List.set_cons_succ]
    refine held_take 17 (by decide) ?v17 (by kernel_rfl) (by kernel_rfl) (by kernel_rfl) (fun _ _ _ h => h) (by rfl) ?y17 hs4 ?r17
    case y17 =>
      intro wq hSw
      simp only [List.getElem_cons_succ, List.getElem_cons_zero]
      go_simp
      try with_reducible rfl
    case r17 =>
    simp only [List.getElem_cons_succ, List.getElem_cons_zero, Act.put, List.setIfInBounds_toArray, List.set_cons_zero, List.set_cons_succ]
    refine held_call 13 (by decide) (by kernel_rfl) (by rfl) (fun K hK => ?_)
    simp only [List.getElem_cons_succ, List.getElem_cons_zero]
    go_simp
    refine (put16_any _ _ n c2 l w2.heap.size hgv4 hsz4 (by omega) x).mono ?_
    rintro e w5 ⟨yy5, rfl, hown5, hb5⟩
    have hs5 := Below.refl w5.heap.size w5
    have hgv5 := hgv4.keep (fun p hp => hb5.cell (Nat.lt_of_lt_of_le hp hsz4))
    have hI5 := hI4.keep (fun p hp => hb5.cell (Nat.lt_of_lt_of_le hp (Nat.le_trans hws hsz4)))
    have hsz5 := Nat.le_trans hsz4 hb5.size
    have hB5 := hB4.trans (hb5.mono hB4.size)
    refine hK.out _ _ hb5 (held_mono (S' := fun w' => Below w5.heap.size w5 w') (fun w' h => hb5.trans (h.mono hb5.size)) _ _ _ _ ?_)
    clear hK K
    refine held_take 14 (by decide) ?v14 (by kernel_rfl) (by kernel_rfl) (by kernel_rfl) (fun _ _ _ h => h) (by rfl) ?y14 hs5 ?r14
    case y14 =>
      intro wq hSw
      simp only [List.getElem_cons_succ, List.getElem_cons_zero]
      have hc := (hown5.below hSw).str
      go_simp
      try with_reducible rfl
    case r14 =>
    simp only [List.getElem_cons_succ, List.getElem_cons_zero, Act.put, List.setIfInBounds_toArray, List.set_cons_zero, List.set_cons_succ]
    refine held_call 18 (by decide) (by kernel_rfl) (by rfl) (fun K hK => ?_)
    simp only [List.getElem_cons_succ, List.getElem_cons_zero]
    go_simp
    refine (refPut2_any _ A n c l w.heap.size hI5 (Nat.le_trans hws hsz5) (by omega) x).mono ?_
    rintro e w6 ⟨yy6, rfl, hown6, hb6⟩
    have hs6 := Below.refl w6.heap.size w6
    have hgv6 := hgv5.keep (fun p hp => hb6.cell (Nat.lt_of_lt_of_le hp hsz5))
    have hI6 := hI5.keep (fun p hp => hb6.cell (Nat.lt_of_lt_of_le hp (Nat.le_trans hws hsz5)))
    have hsz6 := Nat.le_trans hsz5 hb6.size
    have hB6 := hB5.trans (hb6.mono hB5.size)
    refine hK.out _ _ hb6 (held_mono (S' := fun w' => Below w6.heap.size w6 w') (fun w' h => hb6.trans (h.mono hb6.size)) _ _ _ _ ?_)
    clear hK K
    refine held_take 19 (by decide) ?v19 (by kernel_rfl) (by kernel_rfl) (by kernel_rfl) (fun _ _ _ h => h) (by rfl) ?y19 hs6 ?r19
    case y19 =>
      intro wq hSw
      simp only [List.getElem_cons_succ, List.getElem_cons_zero]
      have hc := (hown6.below hSw).str
      go_simp
      try with_reducible rfl
    case r19 =>
    simp only [List.getElem_cons_succ, List.getElem_cons_zero, Act.put, List.setIfInBounds_toArray, List.set_cons_zero, List.set_cons_succ]
    refine held_take 20 (by decide) ?v20 (by kernel_rfl) (by kernel_rfl) (by kernel_rfl) (fun _ _ _ h => h) (by rfl) ?y20 hs6 ?r20
    case y20 =>
      intro wq hSw
      simp only [List.getElem_cons_succ, List.getElem_cons_zero]
      go_simp
      try with_reducible rfl
    case r20 =>
    simp only [List.getElem_cons_succ, List.getElem_cons_zero, Act.put, List.setIfInBounds_toArray, List.set_cons_zero, List.set_cons_succ]
    refine held_take 21 (by decide) ?v21 (by kernel_rfl) (by kernel_rfl) (by kernel_rfl) (fun _ _ _ h => h) (by rfl) ?y21 hs6 ?r21
    case y21 =>
      intro wq hSw
      simp only [List.getElem_cons_succ, List.getElem_cons_zero]
      go_simp
      try with_reducible rfl
    case r21 =>
    simp only [List.getElem_cons_succ, List.getElem_cons_zero, Act.put, List.setIfInBounds_toArray, List.set_cons_zero, List.set_cons_succ]
    refine held_take 22 (by decide) ?v22 (by kernel_rfl) (by kernel_rfl) (by kernel_rfl) (fun _ _ _ h => h) (by rfl) ?y22 hs6 ?r22
    case y22 =>
      intro wq hSw
      simp only [List.getElem_cons_succ, List.getElem_cons_zero]
      go_simp
      try with_reducible rfl
    case r22 =>
    simp only [List.getElem_cons_succ, List.getElem_cons_zero, Act.put, List.setIfInBounds_toArray, List.set_cons_zero, List.set_cons_succ]
    refine held_take 23 (by decide) ?v23 (by kernel_rfl) (by kernel_rfl) (by kernel_rfl) (fun _ _ _ h => h) (by rfl) ?y23 hs6 ?r23
    case y23 =>
      intro wq hSw
      simp only [List.getElem_cons_succ, List.getElem_cons_zero]
      go_simp
      try with_reducible rfl
    case r23 =>
    simp only [List.getElem_cons_succ, List.getElem_cons_zero, Act.put, List.setIfInBounds_toArray, List.set_cons_zero, List.set_cons_succ]
    refine held_take 24 (by decide) ?v24 (by kernel_rfl) (by kernel_rfl) (by kernel_rfl) (fun _ _ _ h => h) (by rfl) ?y24 hs6 ?r24
    case y24 =>
      intro wq hSw
      simp only [List.getElem_cons_succ, List.getElem_cons_zero]
      go_simp
      try with_reducible rfl
    case r24 =>
    simp only [List.getElem_cons_succ, List.getElem_cons_zero, Act.put, List.setIfInBounds_toArray, List.set_cons_zero, List.set_cons_succ]
    refine held_take 25 (by decide) ?v25 (by kernel_rfl) (by kernel_rfl) (by kernel_rfl) (fun _ _ _ h => h) (by rfl) ?y25 hs6 ?r25
    case y25 =>
      intro wq hSw
      simp only [List.getElem_cons_succ, List.getElem_cons_zero]
      go_simp
      try with_reducible rfl
    case r25 =>
    simp only [List.getElem_cons_succ, List.getElem_cons_zero, Act.put, List.setIfInBounds_toArray, List.set_cons_zero, List.set_cons_succ]
    refine held_take 28 (by decide) ?v28 (by kernel_rfl) (by kernel_rfl) (by kernel_rfl) (fun _ _ _ h => h) (by rfl) ?y28 hs6 ?r28
    case y28 =>
      intro wq hSw
      simp only [List.getElem_cons_succ, List.getElem_cons_zero]
      go_simp
      try with_reducible rfl
    case r28 =>
    simp only [List.getElem_cons_succ, List.getElem_cons_zero, Act.put, List.setIfInBounds_toArray, List.set_cons_zero, List.set_cons_succ]
    refine held_take 29 (by decide) ?v29 (by kernel_rfl) (by kernel_rfl) (by kernel_rfl) (fun _ _ _ h => h) (by rfl) ?y29 hs6 ?r29
    case y29 =>
      intro wq hSw
      simp only [List.getElem_cons_succ, List.getElem_cons_zero]
      go_simp
      try with_reducible rfl
    case r29 =>
    simp only [List.getElem_cons_succ, List.getElem_cons_zero, Act.put, List.setIfInBounds_toArray, List.set_cons_zero, List.set_cons_succ]
    refine held_take 30 (by decide) ?v30 (by kernel_rfl) (by kernel_rfl) (by kernel_rfl) (fun _ _ _ h => h) (by rfl) ?y30 hs6 ?r30
    case y30 =>
      intro wq hSw
      simp only [List.getElem_cons_succ, List.getElem_cons_zero]
      go_simp
      try with_reducible rfl
    case r30 =>
    simp only [List.getElem_cons_succ, List.getElem_cons_zero, Act.put, List.setIfInBounds_toArray, List.set_cons_zero, List.set_cons_succ]
    refine held_call 26 (by decide) (by kernel_rfl) (by rfl) (fun K hK => ?_)
    simp only [List.getElem_cons_succ, List.getElem_cons_zero]
    go_simp
    refine (put32w_any _ _ n c2 l w2.heap.size hgv6 hsz6 (by omega) x).mono ?_
    rintro e w7 ⟨yy7, rfl, hown7, hb7⟩
    have hs7 := Below.refl w7.heap.size w7
    have hgv7 := hgv6.keep (fun p hp => hb7.cell (Nat.lt_of_lt_of_le hp hsz6))
    have hI7 := hI6.keep (fun p hp => hb7.cell (Nat.lt_of_lt_of_le hp (Nat.le_trans hws hsz6)))
    have hsz7 := Nat.le_trans hsz6 hb7.size
    have hB7 := hB6.trans (hb7.mono hB6.size)
    refine hK.out _ _ hb7 (held_mono (S' := fun w' => Below w7.heap.size w7 w') (fun w' h => hb7.trans (h.mono hb7.size)) _ _ _ _ ?_)
    clear hK K
    refine held_take 27 (by decide) ?v27 (by kernel_rfl) (by kernel_rfl) (by kernel_rfl) (fun _ _ _ h => h) (by rfl) ?y27 hs7 ?r27
    case y27 =>
      intro wq hSw
      simp only [List.getElem_cons_succ, List.getElem_cons_zero]
      have hc := (hown7.below hSw).str
      go_simp
      try with_reducible rfl
    case r27 =>
    simp only [List.getElem_cons_succ, List.getElem_cons_zero, Act.put, List.setIfInBounds_toArray, List.set_cons_zero, List.set_cons_succ]
    refine held_call 31 (by decide) (by kernel_rfl) (by rfl) (fun K hK => ?_)
    simp only [List.getElem_cons_succ, List.getElem_cons_zero]
    go_simp
    refine (refPut4_any _ A n c l w.heap.size hI7 (Nat.le_trans hws hsz7) (by omega) x).mono ?_
    rintro e w8 ⟨yy8, rfl, hown8, hb8⟩
    have hs8 := Below.refl w8.heap.size w8
    have hgv8 := hgv7.keep (fun p hp => hb8.cell (Nat.lt_of_lt_of_le hp hsz7))
    have hI8 := hI7.keep (fun p hp => hb8.cell (Nat.lt_of_lt_of_le hp (Nat.le_trans hws hsz7)))
    have hsz8 := Nat.le_trans hsz7 hb8.size
    have hB8 := hB7.trans (hb8.mono hB7.size)
    refine hK.out _ _ hb8 (held_mono (S' := fun w' => Below w8.heap.size w8 w') (fun w' h => hb8.trans (h.mono hb8.size)) _ _ _ _ ?_)
    clear hK K
    refine held_take 32 (by decide) ?v32 (by kernel_rfl) (by kernel_rfl) (by kernel_rfl) (fun _ _ _ h => h) (by rfl) ?y32 hs8 ?r32
    case y32 =>
      intro wq hSw
      simp only [List.getElem_cons_succ, List.getElem_cons_zero]
      have hc := (hown8.below hSw).str
      go_simp
      try with_reducible rfl
    case r32 =>
    simp only [List.getElem_cons_succ, List.getElem_cons_zero, Act.put, List.setIfInBounds_toArray, List.set_cons_zero, List.set_cons_succ]
    refine held_take 33 (by decide) ?v33 (by kernel_rfl) (by kernel_rfl) (by kernel_rfl) (fun _ _ _ h => h) (by rfl) ?y33 hs8 ?r33
    case y33 =>
      intro wq hSw
      simp only [List.getElem_cons_succ, List.getElem_cons_zero]
      go_simp
      try with_reducible rfl
    case r33 =>
    simp only [List.getElem_cons_succ, List.getElem_cons_zero, Act.put, List.setIfInBounds_toArray, List.set_cons_zero, List.set_cons_succ]
    refine held_take 34 (by decide) ?v34 (by kernel_rfl) (by kernel_rfl) (by kernel_rfl) (fun _ _ _ h => h) (by rfl) ?y34 hs8 ?r34
    case y34 =>
      intro wq hSw
      simp only [List.getElem_cons_succ, List.getElem_cons_zero]
      go_simp
      try with_reducible rfl
    case r34 =>
    simp only [List.getElem_cons_succ, List.getElem_cons_zero, Act.put, List.setIfInBounds_toArray, List.set_cons_zero, List.set_cons_succ]
    refine held_take 35 (by decide) ?v35 (by kernel_rfl) (by kernel_rfl) (by kernel_rfl) (fun _ _ _ h => h) (by rfl) ?y35 hs8 ?r35
    case y35 =>
      intro wq hSw
      simp only [List.getElem_cons_succ, List.getElem_cons_zero]
      go_simp
      try with_reducible rfl
    case r35 =>
    simp only [List.getElem_cons_succ, List.getElem_cons_zero, Act.put, List.setIfInBounds_toArray, List.set_cons_zero, List.set_cons_succ]
    refine wpAnyH_done (by kernel_rfl) ?_ _
    refine NoPanic.normal ?_
    go_wp2_with fail
    go_meet
    exact ⟨rfl, hB8⟩
end Go.Proofs.Ythbjpefhpmbepaa
