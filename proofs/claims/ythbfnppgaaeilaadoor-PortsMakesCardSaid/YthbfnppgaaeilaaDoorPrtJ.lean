/- ports: PortsCuts. -/
import Derived.Test.YthbfnppgaaeilaaDoorPrtI
import Derived.Test.YthbfnppgaaeilaaDoorPrtH
namespace Go.Proofs.YthbfnppgaaeilaaDoor
set_option linter.unusedVariables false
open Go.RowKit

theorem cut_of {l : List UInt8} {p s d : Int} {pl : List UInt8} (b : Built 0 0 0 0 64 p s d [] pl l) (hl : l.length = 20 + pl.length) (c : Nat) (hc : c < l.length) : sgE (l.take c) = 3 := by
  have h3 : errV (l.take c) = 3 := by
    obtain ⟨e1, e2, e3, e4, e5, e6, e7, e8⟩ := errV_ok b.err
    have hlen : (l.take c).length = c := by rw [List.length_take]; omega
    have hsz := b.sz
    have hln := b.ln
    by_cases h : c < 20
    · exact errV_1 (by omega)
    · have h0 : byAt (l.take c) 0 = byAt l 0 := byAt_take _ _ _ (by omega)
      have h2 : byAt (l.take c) 2 = byAt l 2 := byAt_take _ _ _ (by omega)
      have h3 : byAt (l.take c) 3 = byAt l 3 := byAt_take _ _ _ (by omega)
      have hs : szK (l.take c) = szK l := by unfold szK; rw [h0]
      have hn : lnK (l.take c) = lnK l := by unfold lnK; rw [h2, h3]
      refine errV_3 (by omega) (by rw [h0]; exact e2) (by rw [hs]; exact e3) (.inr ?_)
      rw [hn, hlen]; simp at hln; omega
  unfold sgE
  rw [if_pos (by rw [h3]; decide), h3]
end Go.Proofs.YthbfnppgaaeilaaDoor
