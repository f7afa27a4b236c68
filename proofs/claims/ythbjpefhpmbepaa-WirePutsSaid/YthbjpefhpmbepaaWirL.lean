/- wire: lives. -/
import Derived.Test.YthbjpefhpmbepaaWirE
namespace Go.Proofs.Ythbjpefhpmbepaa
set_option linter.unusedVariables false
open Go.RowKit

theorem OwnB.str {w : World} {base n : Nat} {v : Value} {l : List UInt8} (h : OwnB w base v n l) : (convert 22 9 v).run Try.prog w = .ok (.string (strB l)) w := by
  obtain ⟨A, c, rfl, _, hb, _⟩ := h.any
  exact run_str w hb c

set_option maxHeartbeats 1000000 in
theorem lives_any (w : World) :
    Calls Try.prog 7 #[] w fun e w' => e = .returned (.bool true) ∧ Below w.heap.size w w' := by
  have hbe : be (258 % 18446744073709551616) 2 = [1, 2] := by decide
  have h0 := Byt.new w [1, 2, 3] 5 (0, 0)
  go_enter Try.func7, Try.ntmps7
  go_wp2_with fail
  refine (read_any _ _ 3 3 [1, 2, 3] _ h0 (by simp) (by omega)).mono ?_
  rintro e w1 ⟨g, rfl, hg, hs, hb⟩
  simp only [World.size_alloc] at hg hb
  have hb1 : Below w.heap.size w w1 := ((Below.refl _ _).alloc (Nat.le_refl _) _).trans (hb.mono (by omega))
  have hlt := hs.lt
  go_wp2_with fail
  refine (put16_any w1 none 0 0 [] 0 Byt.none_ (by omega) (by omega) 258).mono ?_
  rintro e w2 ⟨v, rfl, hown, hb2⟩
  rw [hbe] at hown
  have hs2 := hs.below hb2 hlt
  have hb2' := hb1.trans (hb2.mono (by omega))
  have hcv := hown.str
  rw [show strB ([] ++ [1, 2]) = ⟨#[1, 2]⟩ from rfl] at hcv
  obtain ⟨A, c, rfl, _, hby, _⟩ := hown.any
  have hsz2 := hb2.size
  have t1 : tk ⟨[1, 2, 3], 0, 0⟩ 2 = (⟨[3], 2, 0⟩, [1, 2]) := by simp [tk]
  have t2 : tk ⟨[3], 2, 0⟩ 2 = (⟨[3], 2, 3⟩, []) := by simp [tk]
  have n1 : numV ⟨[1, 2, 3], 0, 0⟩ 2 = 258 := by decide
  have n2 : numV ⟨[3], 2, 0⟩ 2 = 0 := by decide
  go_wp2_with fail
  refine (u16_any w2 g _ hs2).mono ?_
  rintro e w3 ⟨rfl, hs3, hg3⟩
  rw [t1] at hs3
  rw [n1]
  have hb3 := below_own hb2' hg3 (by omega) (by omega)
  go_wp2_with fail
  refine (u16_any w3 g _ hs3).mono ?_
  rintro e w4 ⟨rfl, hs4, hg4⟩
  rw [t2] at hs4
  rw [n2]
  have hb4 := below_own hb3 hg4 hb3.size (by omega)
  go_wp2_with fail
  refine (err_any w4 g _ hs4).mono ?_
  rintro e w5 ⟨rfl, rfl⟩
  go_wp2_with fail
  go_ret
  exact ⟨rfl, hb4⟩
end Go.Proofs.Ythbjpefhpmbepaa
