/- timer: lives. -/
import Derived.Test.YtejgekoinbdhjaaTiO
namespace Go.Proofs.Ytejgekoinbdhjaa
set_option linter.unusedVariables false
open Go Go.RowKit Go.Maps

theorem below_chg {B : Nat} {w w1 w2 : World} {X : Nat → Prop} (hB : Below B w w1) (hC : Chg w1 w2 X) (hX : ∀ k, X k → B ≤ k) (hz : B ≤ w.heap.size) : Below B w w2 :=
  hB.trans ⟨hC.os, hC.tape, hC.output, hC.size, fun k hk => hC.block k (by have := hB.size; omega) fun q => by have := hX k q; omega⟩
set_option maxRecDepth 100000 in
set_option maxHeartbeats 4000000 in
theorem lives13_any (w : World) :
    Calls Try.prog 52 #[] w fun e w' => e = .returned (.bool true) ∧ Below w.heap.size w w' := by
  go_enter Try.func52, Try.ntmps52
  go_wp2_with fail
  refine (newX w 3 (by omega) (by omega)).mono ?_
  rintro e w1 ⟨g, X, rfl, hT1, hX, hB1⟩
  go_wp2_with fail
  refine (armNewX hT1 1 2 (by omega) (by omega) (by omega) (by simp) (by omega)).mono ?_
  rintro e w2 ⟨rfl, hT2, hC2⟩
  go_wp2_with fail
  refine (armNewX hT2 0 2 (by omega) (by omega) (by omega) (by simp) (by omega)).mono ?_
  rintro e w3 ⟨rfl, hT3, hC3⟩
  have e4 : (([] : List Slo) ++ [(⟨1, addT 0 2, 0 + 1⟩ : Slo)] ++ [(⟨0, addT 0 2, 0 + 1 + 1⟩ : Slo)]).filter (isAt (0 + 1)) = [] := by decide
  have e5 : (([] : List Slo) ++ [(⟨1, addT 0 2, 0 + 1⟩ : Slo)] ++ [(⟨0, addT 0 2, 0 + 1 + 1⟩ : Slo)]).filter (notAt (0 + 1)) = [⟨1, 2, 1⟩, ⟨0, 2, 2⟩] := by decide
  go_wp2_with fail
  refine (tickX hT3 (by omega) (by omega) (by omega)).mono ?_
  rintro e w4 ⟨lv, rfl, hlv, hT4, hC4⟩
  rw [e4] at hlv
  rw [e5] at hT4
  clear e4 e5
  obtain ⟨A0, c0, rfl, -, -, -⟩ := hlv.seen (Nat.le_refl _)
  have e6 : [(⟨1, 2, 1⟩ : Slo), ⟨0, 2, 2⟩].filter (isAt (0 + 1 + 1)) = [⟨1, 2, 1⟩, ⟨0, 2, 2⟩] := by decide
  go_wp2_with fail
  refine (tickX hT4 (by omega) (by omega) (by omega)).mono ?_
  rintro e w5 ⟨lv, rfl, hlv5, hT5, hC5⟩
  rw [e6] at hlv5
  clear e6
  obtain ⟨A1, c1, rfl, -, -, hS5⟩ := hlv5.seen (Nat.le_refl _)
  have hb6 := (Below.refl w5.heap.size w5).alloc (Nat.le_refl _) (.cells #[.int .i64 1, .int .i64 0] 3)
  have hq : Blk (w5.alloc (.cells #[.int .i64 1, .int .i64 0] 3)) w5.heap.size 3 #[.int .i64 1, .int .i64 0] := Blk.new w5 3 _
  have hS6 := hS5.below hb6 fun b q => q.2
  have hS7 : Seen intK (w5.alloc (.cells #[.int .i64 1, .int .i64 0] 3)) (fun b => b < (w5.alloc (.cells #[.int .i64 1, .int .i64 0] 3)).heap.size) (some ⟨w5.heap.size, 0, none⟩) 2 [1, 0] := by
    refine ⟨rfl, ?_, fun _ => ⟨_, 0, rfl, hq.lt, ?_⟩⟩
    · intro a ha
      simp at ha
      rcases ha with rfl | rfl <;> rfl
    · intro j a hj i hi
      have hi0 : i = 0 := by have : i < 1 := hi; omega
      subst hi0
      have hj2 : j < 2 := (List.getElem?_eq_some_iff.1 hj).1
      have : j = 0 ∨ j = 1 := by omega
      rcases this with rfl | rfl
      · injection hj with hj; subst hj; exact hq.cellv 0 rfl
      · injection hj with hj; subst hj; exact hq.cellv 1 rfl
  go_wp2_with fail
  refine (ints13_any _ _ _ _ _ _ _ _ _ _ _ hS6 hS7 (fun b q => Nat.lt_of_lt_of_le q.2 hb6.size) (fun _ q => q) (by simp)).mono ?_
  rintro e w7 ⟨rfl, hb7⟩
  have hd : decide ([(⟨1, 2, 1⟩ : Slo), ⟨0, 2, 2⟩].map Slo.id = [1, 0]) = true := by decide
  rw [hd]
  go_wp2_with fail
  go_ret
  have hB2 := below_chg hB1 hC2 hX (Nat.le_refl _)
  have hB3 := below_chg hB2 hC3 (fun k q => q.elim (hX k) fun q => Nat.le_trans hB1.size q.1) (Nat.le_refl _)
  have hB4 := below_chg hB3 hC4 (fun k q => q.elim (fun q => q.elim (hX k) fun q => Nat.le_trans hB1.size q.1) fun q => Nat.le_trans hB2.size q.1) (Nat.le_refl _)
  have hB5 := below_chg hB4 hC5 (fun k q => q.elim (fun q => q.elim (hX k) fun q => Nat.le_trans hB1.size q.1) fun q => Nat.le_trans hB2.size q.1) (Nat.le_refl _)
  exact ⟨rfl, (hB5.trans (hb6.mono hB5.size)).trans (hb7.mono (Nat.le_trans hB5.size hb6.size))⟩
end Go.Proofs.Ytejgekoinbdhjaa
