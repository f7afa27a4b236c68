/- update: plain laws for Parse. -/
import Derived.Test.YtfnclmacodchfaaPfZ
namespace Go.Proofs.Ytfnclmacodchfaa
set_option linter.unusedVariables false
open Go Go.RowKit

theorem parseU_short {l : List UInt8} (h : (upS3 l).e ≠ 0) : parseU l = .error (1, []) := by unfold parseU; rw [if_pos h]
theorem parseU_gone {l : List UInt8} (h : (upS3 l).e = 0) (h1 : parseP (upG l) = none) : parseU l = .error (10, []) := by unfold parseU; rw [if_neg (by simpa using h), h1]
theorem parseU_rest {l : List UInt8} {l1 : List (Int × Int)} (h : (upS3 l).e = 0) (h1 : parseP (upG l) = some l1) (h2 : parseP (upR l) = none) : parseU l = .error (10, []) := by unfold parseU; rw [if_neg (by simpa using h), h1]; simp only; rw [h2]
theorem parseU_nil {l : List UInt8} {l1 l2 : List (Int × Int)} (h : (upS3 l).e = 0) (h1 : parseP (upG l) = some l1) (h2 : parseP (upR l) = some l2) (h3 : (upA l).length = 0 ∧ l2.length = 0) : parseU l = .ok (l1, att0, l2) := by
  unfold parseU; rw [if_neg (by simpa using h), h1]; simp only; rw [h2]; simp only; rw [if_pos h3]
section
variable {l : List UInt8} {l1 l2 : List (Int × Int)} (h : (upS3 l).e = 0) (h1 : parseP (upG l) = some l1) (h2 : parseP (upR l) = some l2) (h3 : ¬ ((upA l).length = 0 ∧ l2.length = 0))
include h h1 h2 h3
theorem parseU_err {x : Int × List UInt8} (hA : parseA (upA l) = .error x) (h4 : 0 < l2.length ∨ x.1 ≠ 3) : parseU l = .error x := by
  unfold parseU; rw [if_neg (by simpa using h), h1]; simp only; rw [h2]; simp only; rw [if_neg h3, hA]; simp only; rw [if_pos h4]
theorem parseU_mis {x : Int × List UInt8} (hA : parseA (upA l) = .error x) (h4 : ¬ (0 < l2.length ∨ x.1 ≠ 3)) : parseU l = .ok (l1, att0, l2) := by
  unfold parseU; rw [if_neg (by simpa using h), h1]; simp only; rw [h2]; simp only; rw [if_neg h3, hA]; simp only; rw [if_neg h4]
theorem parseU_att {a : AttV} (hA : parseA (upA l) = .ok a) (h4 : 0 < l2.length) : parseU l = .ok (l1, a, l2) := by
  unfold parseU; rw [if_neg (by simpa using h), h1]; simp only; rw [h2]; simp only; rw [if_neg h3, hA]; simp only; rw [if_pos h4]
theorem parseU_ign {a : AttV} (hA : parseA (upA l) = .ok a) (h4 : ¬ 0 < l2.length) : parseU l = .ok (l1, att0, l2) := by
  unfold parseU; rw [if_neg (by simpa using h), h1]; simp only; rw [h2]; simp only; rw [if_neg h3, hA]; simp only; rw [if_neg h4]
end
theorem blk_mid5 {w : World} {g : Nat} {t : TypeId} {c0 c1 c2 c3 c4 c5 c6 : Value} (h : Blk w g t #[c0, c1, c2, c3, c4, c5, c6]) (a b c d e : Value) : Blk (w.setCells g 1 [a, b, c, d, e]) g t #[c0, a, b, c, d, e, c6] ∧ w.grownBy (w.setCells g 1 [a, b, c, d, e]) (some g) := by
  refine ⟨?_, ?_⟩
  · have := ((((h.set_ 1 a).set_ 2 b).set_ 3 c).set_ 4 d).set_ 5 e
    simp only [List.setIfInBounds_toArray, List.set_cons_zero, List.set_cons_succ] at this
    exact this
  · exact grown_setCell (p := ⟨g, 5, none⟩) (grown_setCell (p := ⟨g, 4, none⟩) (grown_setCell (p := ⟨g, 3, none⟩) (grown_setCell (p := ⟨g, 2, none⟩) (grown_setCell (p := ⟨g, 1, none⟩) (grown_refl w _) (.inl rfl) a) (.inl rfl) b) (.inl rfl) c) (.inl rfl) d) (.inl rfl) e
theorem there_mid5 {w : World} {g : Nat} {t : TypeId} {c0 c1 c2 c3 c4 c5 c6 : Value} (h : Blk w g t #[c0, c1, c2, c3, c4, c5, c6]) : w.there g 1 5 := fun j hj => by
  match j, hj with
  | 0, _ => exact ⟨by rw [h.cellv 1 rfl]; rfl, h.frozen 1⟩
  | 1, _ => exact ⟨by rw [h.cellv 2 rfl]; rfl, h.frozen 2⟩
  | 2, _ => exact ⟨by rw [h.cellv 3 rfl]; rfl, h.frozen 3⟩
  | 3, _ => exact ⟨by rw [h.cellv 4 rfl]; rfl, h.frozen 4⟩
  | 4, _ => exact ⟨by rw [h.cellv 5 rfl]; rfl, h.frozen 5⟩
theorem Seen.up {α : Type} {R : RK α} {w w' : World} {gu : Nat} {A : Option Addr} {n : Nat} {l : List α} (h : Seen R w (fun b => gu < b ∧ b < w.heap.size) A n l) (hb : Below w.heap.size w w') : Seen R w' (fun b => gu < b ∧ b < w'.heap.size) A n l :=
  (h.below hb fun _ q => q.2).more fun b q => ⟨q.1, Nat.lt_of_lt_of_le q.2 hb.size⟩
theorem Seen.up3 {α : Type} {R : RK α} {w w' : World} {gu k : Nat} {A : Option Addr} {n : Nat} {l : List α} (h : Seen R w (fun b => gu < b ∧ b < w.heap.size) A n l) (hg : w.grownBy w' (some k)) (hk : k ≤ gu) : Seen R w' (fun b => gu < b ∧ b < w'.heap.size) A n l :=
  (h.grown hg fun b q => ⟨q.2, by intro e; injection e with e; omega⟩).more fun b q => ⟨q.1, Nat.lt_of_lt_of_le q.2 hg.size⟩
theorem Seen.up2 {α : Type} {R : RK α} {w w' : World} {gu : Nat} {A : Option Addr} {n : Nat} {l : List α} (h : Seen R w (fun b => gu < b ∧ b < w.heap.size) A n l) (hg : w.grownBy w' (some gu)) : Seen R w' (fun b => gu < b ∧ b < w'.heap.size) A n l :=
  (h.grown hg fun b q => ⟨q.2, by intro e; injection e with e; omega⟩).more fun b q => ⟨q.1, Nat.lt_of_lt_of_le q.2 hg.size⟩
end Go.Proofs.Ytfnclmacodchfaa
