/- Slicing any bytes, as lists: x[k:m:m]. -/
import Derived.Test.YtlkammmadchjnaaSlc
namespace Go.Proofs.Ytlkammmadchjnaa
set_option linter.unusedVariables false
open Go.RowKit
/-- x[k:m:m]. -/
theorem slice_mid3 (A : Option Addr) (n c k m : Nat) (hk : k ≤ m) (hm : m ≤ n) (hc : n ≤ c) :
    ∃ A', (∀ w, (Instr.slice 23 (.slice A n c) (some (.int .i64 (k : Int))) (some (.int .i64 (m : Int))) (some (.int .i64 (m : Int)))).run Try.prog w = .ok (.slice A' (m - k) (m - k)) w) ∧
      (∀ w B l, Byt w B A n l → Byt w B A' (m - k) ((l.drop k).take (m - k))) := by
  refine ⟨if m = k then A else A.map (·.add k), fun w => ?_, fun w B l h => ?_⟩
  · rw [run_slice_lhm w 23 A n c elem_u8 .i64 .i64 .i64 k m m (by omega) (by omega) (by omega) (by omega), size_u8]
    simp [Result.andThen, sliced]
  · have hl := h.1
    by_cases e : m = k
    · rw [if_pos e, show m - k = 0 from by omega]
      exact byt_empty w B A
    · rw [if_neg e]
      exact byt_shift h (by simp [hl]; omega) (by omega) fun j hj => by rw [byAt_take _ _ _ hj]; exact byAt_drop l k j
end Go.Proofs.Ytlkammmadchjnaa
