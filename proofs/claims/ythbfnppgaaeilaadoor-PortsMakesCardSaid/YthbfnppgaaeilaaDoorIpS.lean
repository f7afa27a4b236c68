/- ip: the document's Forward and Rewrite. ip: IpReads, the walk. -/
import Derived.Test.YthbfnppgaaeilaaDoorIpR
import Derived.Test.YthbfnppgaaeilaaDoorLib
namespace Go.Proofs.YthbfnppgaaeilaaDoor
set_option linter.unusedVariables false
open Go.RowKit

theorem optL_len (l : List UInt8) : (optL l).length ≤ 40 := by
  have := szK_lo l
  unfold optL hdL; split
  · rw [List.length_drop, List.length_take]; omega
  · exact Nat.zero_le _
theorem payL_len (l : List UInt8) : (payL l).length ≤ 9000 := by
  unfold payL; split
  · rename_i he
    have := errV_ok he
    rw [List.length_take]; omega
  · exact Nat.zero_le _
theorem fS_bd (l : List UInt8) : 0 ≤ fS l ∧ fS l ≤ 4294967295 := by
  unfold fS pS; split
  · exact ⟨numV_lo _ _, numV_4 _ _ (by omega)⟩
  · omega
theorem fD_bd (l : List UInt8) : 0 ≤ fD l ∧ fD l ≤ 4294967295 := by
  unfold fD pD; split
  · exact ⟨numV_lo _ _, numV_4 _ _ (by omega)⟩
  · omega
theorem fL_bd (l : List UInt8) : 0 ≤ fL l ∧ fL l ≤ 4294967295 := by
  unfold fL pL; split
  · exact ⟨numV_lo _ _, numV_4 _ _ (by omega)⟩
  · omega
end Go.Proofs.YthbfnppgaaeilaaDoor

namespace Go.Proofs.YthbfnppgaaeilaaDoor
set_option linter.unusedVariables false
open Go.RowKit

theorem Byt.nx {w w' : World} {A : Option Addr} {n : Nat} {l : List UInt8} (h : Byt w w.heap.size A n l) (hb : Below w.heap.size w w') : Byt w' w'.heap.size A n l := (h.below hb).more hb.size
theorem sameH_refl (t i f g l p s d : Int) (o : List UInt8) : sameH t i f g l p s d o t i f g l p s d o = true := by simp [sameH]
end Go.Proofs.YthbfnppgaaeilaaDoor
