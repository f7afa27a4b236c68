/- chk: stores of words. -/
import Derived.Test.YtmibakbfjljfmaaChkP
import Derived.Test.YtmibakbfjljfmaaBytes
import Derived.Handy
import Derived.Deep.DeepMust
import Derived.Deep.QuietTactic
import Derived.BigQuiet
namespace Go.Proofs.Ytmibakbfjljfmaa
set_option linter.unusedVariables false
open Go.RowKit
/-- two bytes stored: a word. -/
theorem OwnB.putw {w : World} {base n cap g : Nat} {l : List UInt8} (h : OwnB w base (.slice (some ⟨g, 0, none⟩) n cap) n l) (j : Nat) (a b : Int) (a1 : 0 ≤ a) (a2 : a ≤ 255) (b1 : 0 ≤ b) (b2 : b ≤ 255) :
    OwnB ((w.setCell ⟨g, 2 * j, none⟩ (.int .u8 a)).setCell ⟨g, 2 * j + 1, none⟩ (.int .u8 b)) base (.slice (some ⟨g, 0, none⟩) n cap) n (putW l j a b) :=
  (h.store (2 * j) a a1 a2).store (2 * j + 1) b b1 b2
end Go.Proofs.Ytmibakbfjljfmaa
