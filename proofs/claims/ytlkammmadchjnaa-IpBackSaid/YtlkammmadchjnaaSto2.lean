/- A load of a whole struct out of a block that is known, as one operation. -/
import Derived.Test.YtlkammmadchjnaaSto
namespace Go.Proofs.Ytlkammmadchjnaa
set_option linter.unusedVariables false
open Go Go.RowKit
theorem wpList_load_blk {P : Program} {w : World} {g : Nat} {T : TypeId} {cs : Array Value} {ops : Array Oper} {rest : List Oper} {op : Oper} {a : Act} {Q : Exit → Act → World → Prop} (hgd : op.guard = none) (h : Blk w g T cs) (ty : TypeId) (x : Operand) (ho : op.op = .load ty x)
    (hx : a.eval x = .pointer (some ⟨g, 0, none⟩)) {d : TypeDesc} (hu : P.underlying ty = some d) (hd : d.isRow = true) (hi : (P.info? ty).map (·.size) = some cs.size)
    (hk : wpList P ops Q rest (a.put op.dst (.agg cs)) w) : wpList P ops Q (op :: rest) a w :=
  wpList_load_mid hgd ty x ho g 0 hx cs.toList d (fun j v hj => by rw [Nat.zero_add, h.cell]; simpa using hj) hu hd (by simpa using hi) hk
end Go.Proofs.Ytlkammmadchjnaa
