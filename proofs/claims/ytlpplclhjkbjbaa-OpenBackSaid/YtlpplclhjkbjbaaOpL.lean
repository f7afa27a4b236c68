/- the document's Faults. -/
import Derived.Test.YtlpplclhjkbjbaaOpH
namespace Go.Proofs.Ytlpplclhjkbjbaa
set_option linter.unusedVariables false
open Go.RowKit

def faultB (a s : Int) (d : List UInt8) (a' s' : Int) (d' : List UInt8) : Bool := a == a' && s == s' && d == d'
set_option maxHeartbeats 2000000 in
theorem faults_any (w : World) (a s : Int) (A : Option Addr) (n c : Nat) (d : List UInt8) (a' s' : Int) (A' : Option Addr) (n' c' : Nat) (d' : List UInt8) (B B' : Nat) (h : Byt w B A n d) (h' : Byt w B' A' n' d') (hB : B ≤ w.heap.size) (hB' : B' ≤ w.heap.size) :
    Calls Try.prog 24 #[.agg #[.int .i64 a, .int .i64 s, .slice A n c], .agg #[.int .i64 a', .int .i64 s', .slice A' n' c']] w fun e w' => e = .returned (.bool (faultB a s d a' s' d')) ∧ Below w.heap.size w w' := by
  have hb := ((Below.refl w.heap.size w).alloc (Nat.le_refl _) (.cells #[.int .i64 a, .int .i64 s, .slice A n c] 31)).alloc (by simp) (.cells #[.int .i64 a', .int .i64 s', .slice A' n' c'] 31)
  have q1 := run_str _ ((h.more hB).below hb) c
  have q2 := run_str _ ((h'.more hB').below hb) c'
  go_enter Try.func24, Try.ntmps24
  by_cases ea : a = a'
  rotate_left
  · have b1 : (a == a') = false := by simpa using ea
    have f : faultB a s d a' s' d' = false := by unfold faultB; rw [b1]; rfl
    replace f := Lib.hid f
    go_wp2_with fail
    go_ret
    exact ⟨ret_bool f.out.symm, hb⟩
  have b1 : (a == a') = true := by simpa using ea
  replace ea := Lib.hid ea
  by_cases es : s = s'
  rotate_left
  · have b2 : (s == s') = false := by simpa using es
    have f : faultB a s d a' s' d' = false := by unfold faultB; rw [b2]; simp
    replace f := Lib.hid f
    go_wp2_with fail
    go_ret
    exact ⟨ret_bool f.out.symm, hb⟩
  have b2 : (s == s') = true := by simpa using es
  have f : faultB a s d a' s' d' = ((strB d).toList == (strB d').toList) := by unfold faultB; rw [b1, b2, strB_list, strB_list]; rfl
  replace es := Lib.hid es
  replace f := Lib.hid f
  go_wp2_with fail
  go_ret
  exact ⟨ret_bool f.out.symm, hb⟩
end Go.Proofs.Ytlpplclhjkbjbaa
