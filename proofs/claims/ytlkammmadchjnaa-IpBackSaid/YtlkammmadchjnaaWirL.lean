/- wire: lives. -/
import Derived.Test.YtlkammmadchjnaaWirE
namespace Go.Proofs.Ytlkammmadchjnaa
set_option linter.unusedVariables false
open Go.RowKit

theorem OwnB.str {w : World} {base n : Nat} {v : Value} {l : List UInt8} (h : OwnB w base v n l) : (convert 23 9 v).run Try.prog w = .ok (.string (strB l)) w := by
  obtain ⟨A, c, rfl, _, hb, _⟩ := h.any
  exact run_str w hb c

end Go.Proofs.Ytlkammmadchjnaa
