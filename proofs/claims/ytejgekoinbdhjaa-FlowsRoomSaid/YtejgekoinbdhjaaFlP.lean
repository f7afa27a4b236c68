/- flows: lives. -/
import Derived.Test.YtejgekoinbdhjaaFlO
import Derived.Test.YtejgekoinbdhjaaFlE2
namespace Go.Proofs.Ytejgekoinbdhjaa
set_option linter.unusedVariables false
open Go Go.RowKit Go.Maps

theorem below_chgF {B : Nat} {w w1 w2 : World} {X : Nat → Prop} (hB : Below B w w1) (hC : Chg w1 w2 X) (hX : ∀ k, X k → B ≤ k) (hz : B ≤ w.heap.size) : Below B w w2 :=
  hB.trans ⟨hC.os, hC.tape, hC.output, hC.size, fun k hk => hC.block k (by have := hB.size; omega) fun q => by have := hX k q; omega⟩
set_option maxRecDepth 100000 in
set_option maxHeartbeats 4000000 in
theorem lives29_any (w : World) :
    Calls Try.prog 38 #[] w fun e w' => e = .returned (.bool true) ∧ Below w.heap.size w w' := by
  go_enter Try.func38, Try.ntmps38
  go_wp2_with fail
  refine (newFX w 2 9 (by omega) (by omega) (by omega) (by omega)).mono ?_
  rintro e w1 ⟨g, X, rfl, hT1, hX, hB1⟩
  go_upto_region 3 with (fail)
  have hB2 := ((hB1.alloc hB1.size (.cells #[.int .i64 0, .int .u32 0, .int .u32 0, .int .i64 1, .int .i64 0] 57)).alloc (by have := hB1.size; simp; omega) (.cells #[.int .i64 0, .int .u32 0, .int .u32 0, .int .i64 2, .int .i64 0] 57)).alloc (by have := hB1.size; simp; omega) (.cells #[.int .i64 0, .int .u32 0, .int .u32 0, .int .i64 3, .int .i64 0] 57)
  have hb2 := (((Below.refl w1.heap.size w1).alloc (Nat.le_refl _) (.cells #[.int .i64 0, .int .u32 0, .int .u32 0, .int .i64 1, .int .i64 0] 57)).alloc (by simp) (.cells #[.int .i64 0, .int .u32 0, .int .u32 0, .int .i64 2, .int .i64 0] 57)).alloc (by simp; omega) (.cells #[.int .i64 0, .int .u32 0, .int .u32 0, .int .i64 3, .int .i64 0] 57)
  have hA := ((Blk.new w1 57 #[.int .i64 0, .int .u32 0, .int .u32 0, .int .i64 1, .int .i64 0]).alloc (.cells #[.int .i64 0, .int .u32 0, .int .u32 0, .int .i64 2, .int .i64 0] 57)).alloc (.cells #[.int .i64 0, .int .u32 0, .int .u32 0, .int .i64 3, .int .i64 0] 57)
  have hBb := (Blk.new (w1.alloc (.cells #[.int .i64 0, .int .u32 0, .int .u32 0, .int .i64 1, .int .i64 0] 57)) 57 #[.int .i64 0, .int .u32 0, .int .u32 0, .int .i64 2, .int .i64 0]).alloc (.cells #[.int .i64 0, .int .u32 0, .int .u32 0, .int .i64 3, .int .i64 0] 57)
  have hCc := Blk.new ((w1.alloc (.cells #[.int .i64 0, .int .u32 0, .int .u32 0, .int .i64 1, .int .i64 0] 57)).alloc (.cells #[.int .i64 0, .int .u32 0, .int .u32 0, .int .i64 2, .int .i64 0] 57)) 57 #[.int .i64 0, .int .u32 0, .int .u32 0, .int .i64 3, .int .i64 0]
  rw [show (w1.alloc (.cells #[.int .i64 0, .int .u32 0, .int .u32 0, .int .i64 1, .int .i64 0] 57)).heap.size = w1.heap.size + 1 by simp] at hBb
  rw [show ((w1.alloc (.cells #[.int .i64 0, .int .u32 0, .int .u32 0, .int .i64 1, .int .i64 0] 57)).alloc (.cells #[.int .i64 0, .int .u32 0, .int .u32 0, .int .i64 2, .int .i64 0] 57)).heap.size = w1.heap.size + 1 + 1 by simp] at hCc
  have hT2 := hT1.fwd hb2
  have hz2 : (((w1.alloc (.cells #[.int .i64 0, .int .u32 0, .int .u32 0, .int .i64 1, .int .i64 0] 57)).alloc (.cells #[.int .i64 0, .int .u32 0, .int .u32 0, .int .i64 2, .int .i64 0] 57)).alloc (.cells #[.int .i64 0, .int .u32 0, .int .u32 0, .int .i64 3, .int .i64 0] 57)).heap.size = w1.heap.size + 3 := by simp
  generalize ((w1.alloc (.cells #[.int .i64 0, .int .u32 0, .int .u32 0, .int .i64 1, .int .i64 0] 57)).alloc (.cells #[.int .i64 0, .int .u32 0, .int .u32 0, .int .i64 2, .int .i64 0] 57)).alloc (.cells #[.int .i64 0, .int .u32 0, .int .u32 0, .int .i64 3, .int .i64 0] 57) = w2 at *
  obtain ⟨a, ha⟩ : ∃ a, a = w1.heap.size := ⟨_, rfl⟩
  rw [← ha] at hA hBb hCc hz2 ⊢
  have hXa : ∀ k, X k → k < a := by rw [ha]; exact hT1.good.2.2.2.2
  have hlow : w.heap.size ≤ a := by rw [ha]; exact hB1.size
  replace ha := Lib.hid ha
  clear hT1 hB1 hb2
  have p1 : putN 2 [] ⟨0, 0, 0, 1, 0⟩ 1 (max 0 0) = (ze, false, [⟨⟨0, 0, 0, 1, 0⟩, 1, 0⟩]) := by decide
  have p2 : putN 2 [⟨⟨0, 0, 0, 1, 0⟩, 1, 0⟩] ⟨0, 0, 0, 2, 0⟩ 1 (max (max 0 0) 0) = (ze, false, [⟨⟨0, 0, 0, 1, 0⟩, 1, 0⟩, ⟨⟨0, 0, 0, 2, 0⟩, 1, 0⟩]) := by decide
  have p3 : getN [⟨⟨0, 0, 0, 1, 0⟩, 1, 0⟩, ⟨⟨0, 0, 0, 2, 0⟩, 1, 0⟩] ⟨0, 0, 0, 1, 0⟩ (max (max (max 0 0) 0) 0) = (1, true, [⟨⟨0, 0, 0, 2, 0⟩, 1, 0⟩, ⟨⟨0, 0, 0, 1, 0⟩, 1, 0⟩]) := by decide
  have p4 : putN 2 [⟨⟨0, 0, 0, 2, 0⟩, 1, 0⟩, ⟨⟨0, 0, 0, 1, 0⟩, 1, 0⟩] ⟨0, 0, 0, 3, 0⟩ 1 (max (max (max (max 0 0) 0) 0) 0) = (⟨⟨0, 0, 0, 2, 0⟩, 1, 0⟩, true, [⟨⟨0, 0, 0, 1, 0⟩, 1, 0⟩, ⟨⟨0, 0, 0, 3, 0⟩, 1, 0⟩]) := by decide
  have ok : ∀ k : Int, (Lit.int .i64 k).wf = true → FloOk ⟨0, 0, 0, k, 0⟩ := fun k hk => ⟨rfl, rfl, rfl, hk, rfl⟩
  replace p1 := Lib.hid p1
  replace p2 := Lib.hid p2
  replace p3 := Lib.hid p3
  replace p4 := Lib.hid p4
  have q1 := putFX hT2 ⟨0, 0, 0, 1, 0⟩ (ok 1 rfl) 1 0 (by omega) (by omega)
  rw [p1.out] at q1
  have a0 : w2.cell? ⟨a, 0, none⟩ = some (.int .i64 0) := hA.cellv 0 rfl
  have a1 : w2.cell? ⟨a, 1, none⟩ = some (.int .u32 0) := hA.cellv 1 rfl
  have a2 : w2.cell? ⟨a, 2, none⟩ = some (.int .u32 0) := hA.cellv 2 rfl
  have a3 : w2.cell? ⟨a, 3, none⟩ = some (.int .i64 1) := hA.cellv 3 rfl
  have a4 : w2.cell? ⟨a, 4, none⟩ = some (.int .i64 0) := hA.cellv 4 rfl
  have al := hA.lt
  go_upto_region 4 with (go_at_call 40; refine q1.mono ?_; rintro e w3 ⟨rfl, hT3, hC3⟩)
  clear q1 a0 a1 a2 a3 a4 al
  have hkeep3 : ∀ k, a ≤ k → ¬ X k := fun k hk q => by have := hXa k q; omega
  have hA3 := hC3.blk hA (hkeep3 _ (Nat.le_refl _))
  have hB3 := hC3.blk hBb (hkeep3 _ (by omega))
  have hC3' := hC3.blk hCc (hkeep3 _ (by omega))
  have hz3 := hC3.size
  have hBw3 := below_chgF hB2 hC3 hX (Nat.le_refl _)
  have hX3 : ∀ k, (X k ∨ (w2.heap.size ≤ k ∧ k < w3.heap.size)) → w.heap.size ≤ k ∧ (k < a ∨ a + 3 ≤ k) := fun k q => q.elim (fun q => ⟨hX k q, .inl (hXa k q)⟩) fun q => ⟨by omega, .inr (by omega)⟩
  clear hA hBb hCc hT2 hB2 hC3
  have q2 := putFX hT3 ⟨0, 0, 0, 2, 0⟩ (ok 2 rfl) 1 0 (by omega) (by omega)
  rw [p2.out] at q2
  have b0 : w3.cell? ⟨a + 1, 0, none⟩ = some (.int .i64 0) := hB3.cellv 0 rfl
  have b1 : w3.cell? ⟨a + 1, 1, none⟩ = some (.int .u32 0) := hB3.cellv 1 rfl
  have b2 : w3.cell? ⟨a + 1, 2, none⟩ = some (.int .u32 0) := hB3.cellv 2 rfl
  have b3 : w3.cell? ⟨a + 1, 3, none⟩ = some (.int .i64 2) := hB3.cellv 3 rfl
  have b4 : w3.cell? ⟨a + 1, 4, none⟩ = some (.int .i64 0) := hB3.cellv 4 rfl
  have bl := hB3.lt
  go_upto_region 5 with (go_at_call 40; refine q2.mono ?_; rintro e w4 ⟨rfl, hT4, hC4⟩)
  clear q2 b0 b1 b2 b3 b4 bl
  have hkeep4 : ∀ k, a ≤ k → k < a + 3 → ¬ (X k ∨ (w2.heap.size ≤ k ∧ k < w3.heap.size)) := fun k h1 h2 q => by have := (hX3 k q).2; omega
  have hA4 := hC4.blk hA3 (hkeep4 _ (by omega) (by omega))
  have hB4 := hC4.blk hB3 (hkeep4 _ (by omega) (by omega))
  have hC4' := hC4.blk hC3' (hkeep4 _ (by omega) (by omega))
  have hz4 := hC4.size
  have hBw4 := below_chgF hBw3 hC4 (fun k q => (hX3 k q).1) (Nat.le_refl _)
  have hX4 : ∀ k, ((X k ∨ (w2.heap.size ≤ k ∧ k < w3.heap.size)) ∨ (w3.heap.size ≤ k ∧ k < w4.heap.size)) → w.heap.size ≤ k ∧ (k < a ∨ a + 3 ≤ k) := fun k q => q.elim (hX3 k) fun q => ⟨by omega, .inr (by omega)⟩
  clear hA3 hB3 hC3' hT3 hBw3 hC4
  have q3 := getFX hT4 ⟨0, 0, 0, 1, 0⟩ (ok 1 rfl) 0 (by omega)
  rw [p3.out] at q3
  have a0 : w4.cell? ⟨a, 0, none⟩ = some (.int .i64 0) := hA4.cellv 0 rfl
  have a1 : w4.cell? ⟨a, 1, none⟩ = some (.int .u32 0) := hA4.cellv 1 rfl
  have a2 : w4.cell? ⟨a, 2, none⟩ = some (.int .u32 0) := hA4.cellv 2 rfl
  have a3 : w4.cell? ⟨a, 3, none⟩ = some (.int .i64 1) := hA4.cellv 3 rfl
  have a4 : w4.cell? ⟨a, 4, none⟩ = some (.int .i64 0) := hA4.cellv 4 rfl
  have al := hA4.lt
  go_upto_region 6 with (go_at_call 42; refine q3.mono ?_; rintro e w5 ⟨rfl, hT5, hC5⟩)
  clear q3 a0 a1 a2 a3 a4 al
  have hkeep5 : ∀ k, a ≤ k → k < a + 3 → ¬ ((X k ∨ (w2.heap.size ≤ k ∧ k < w3.heap.size)) ∨ (w3.heap.size ≤ k ∧ k < w4.heap.size)) := fun k h1 h2 q => by have := (hX4 k q).2; omega
  have hB5 := hC5.blk hB4 (hkeep5 _ (by omega) (by omega))
  have hC5' := hC5.blk hC4' (hkeep5 _ (by omega) (by omega))
  have hz5 := hC5.size
  have hBw5 := below_chgF hBw4 hC5 (fun k q => (hX4 k q).1) (Nat.le_refl _)
  clear hA4 hB4 hC4' hT4 hBw4 hC5
  have q4 := putFX hT5 ⟨0, 0, 0, 3, 0⟩ (ok 3 rfl) 1 0 (by omega) (by omega)
  rw [p4.out] at q4
  have c0 : w5.cell? ⟨a + 1 + 1, 0, none⟩ = some (.int .i64 0) := hC5'.cellv 0 rfl
  have c1 : w5.cell? ⟨a + 1 + 1, 1, none⟩ = some (.int .u32 0) := hC5'.cellv 1 rfl
  have c2 : w5.cell? ⟨a + 1 + 1, 2, none⟩ = some (.int .u32 0) := hC5'.cellv 2 rfl
  have c3 : w5.cell? ⟨a + 1 + 1, 3, none⟩ = some (.int .i64 3) := hC5'.cellv 3 rfl
  have c4 : w5.cell? ⟨a + 1 + 1, 4, none⟩ = some (.int .i64 0) := hC5'.cellv 4 rfl
  have cl := hC5'.lt
  go_upto_region 7 with (go_at_call 40; refine q4.mono ?_; rintro e w6 ⟨rfl, hT6, hC6⟩; unfold enA)
  clear q4 c0 c1 c2 c3 c4 cl
  have hB6 := hC6.blk hB5 (hkeep5 _ (by omega) (by omega))
  have hBw6 := below_chgF hBw5 hC6 (fun k q => (hX4 k q).1) (Nat.le_refl _)
  have hB7 := hB6.alloc (.cells #[.int .i64 0, .int .u32 0, .int .u32 0, .int .i64 2, .int .i64 0, .int .i64 1, .int .i64 0] 62)
  have hBw7 := hBw6.alloc hBw6.size (.cells #[.int .i64 0, .int .u32 0, .int .u32 0, .int .i64 2, .int .i64 0, .int .i64 1, .int .i64 0] 62)
  have hE7 := Blk.new w6 62 #[.int .i64 0, .int .u32 0, .int .u32 0, .int .i64 2, .int .i64 0, .int .i64 1, .int .i64 0]
  clear hB5 hC5' hT5 hT6 hC6 hBw5 hB6 hBw6
  generalize w6.alloc (.cells #[.int .i64 0, .int .u32 0, .int .u32 0, .int .i64 2, .int .i64 0, .int .i64 1, .int .i64 0] 62) = w7 at *
  have b0 : w7.cell? ⟨a + 1, 0, none⟩ = some (.int .i64 0) := hB7.cellv 0 rfl
  have e0 : w7.cell? ⟨w6.heap.size, 0, none⟩ = some (.int .i64 0) := hE7.cellv 0 rfl
  have b1 : w7.cell? ⟨a + 1, 1, none⟩ = some (.int .u32 0) := hB7.cellv 1 rfl
  have e1 : w7.cell? ⟨w6.heap.size, 1, none⟩ = some (.int .u32 0) := hE7.cellv 1 rfl
  have b2 : w7.cell? ⟨a + 1, 2, none⟩ = some (.int .u32 0) := hB7.cellv 2 rfl
  have e2 : w7.cell? ⟨w6.heap.size, 2, none⟩ = some (.int .u32 0) := hE7.cellv 2 rfl
  have b3 : w7.cell? ⟨a + 1, 3, none⟩ = some (.int .i64 2) := hB7.cellv 3 rfl
  have e3 : w7.cell? ⟨w6.heap.size, 3, none⟩ = some (.int .i64 2) := hE7.cellv 3 rfl
  have b4 : w7.cell? ⟨a + 1, 4, none⟩ = some (.int .i64 0) := hB7.cellv 4 rfl
  have e4 : w7.cell? ⟨w6.heap.size, 4, none⟩ = some (.int .i64 0) := hE7.cellv 4 rfl
  have bl := hB7.lt
  have el := hE7.lt
  go_wp2_with fail
  go_ret
  exact ⟨rfl, hBw7⟩
end Go.Proofs.Ytejgekoinbdhjaa
