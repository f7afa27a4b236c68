/-
  No cell of these rows narrows 'for every input' (looked for: loops, veiled, ifaces, maps, wideKeys, modest, calm, conditions, laid).
  DERIVED. THE GIVEN ROWS OF THIS SEAT. 2 by the template 'for every input the law returns true; each argument reads behind the call as it read before'; 0 by the template 'total and deterministic' (their statements: YthllemlkdflhkaaTotals.lean).
  GIVEN WITH THE SEED: the statements are not yours to turn. If you find one false, say at which input.
  Laid BY PROGRAM, IN A SANDBOX (cutbox-rows.mjs): the forced cells as the released guide's own fill.sh prints them over the translation 092e5c8320fca643… (all of the seat's roots in one cut). By AI agents, Wed Nov 11 2026. No macro, syntax, notation, axiom, sorry.
-/
import Derived.Test.YthllemlkdflhkaaChecked
import GoSem.Claim
import GoSem.ClaimJoined
import GoSem.ClaimMapViews
import Derived.JoinedTies
import Derived.KernelRfl
namespace Go.Proofs.Ythllemlkdflhkaa
/- THE CELL 'sum', in the pinned program and in every row, IS THE sha256 OF THE DUMP (.gsa) THAT YthllemlkdflhkaaProg.lean LOADS. Nothing in Lean hashes anything: it is a label: what it is worth is what the hold of that sum in a sandbox is worth. -/
noncomputable def Try.pinned : Pinned := { name := "ythllemlkdflhkaa", sum := "092e5c8320fca643378b714d4db304486f585623b3c42e2c70ee2084c0d2c375", checked := Try.checked }
namespace Rows
def none {H : Type} : Left H := { results := [], args := [] }

/-- 'fairwaylaw17.PolicyBetter': WHATEVER THE INPUT: true; the input reads as it did. -/
def policyBetterSpec : ChangeSpec := { name := "policyBetter", fn := fun _ => fun
  | [d1, d2, d3] => { results := [.lit (.bool true)], args := [d1, d2, d3] }
  | _ => none }
def policyBetterRow : OpenClaim := { program := "ythllemlkdflhkaa", sum := "092e5c8320fca643378b714d4db304486f585623b3c42e2c70ee2084c0d2c375", func := "fairway/fairwaylaw17.PolicyBetter", spec := "policyBetter", unfollowed := true, recurses := true, apart := false }
def PolicyBetterSaid : Prop := policyBetterRow.holds Try.pinned (OpenSpec.ofChange policyBetterSpec)

/-- ITS FALSE NEIGHBOUR: 'it returns false'. Refute it at one input. -/
def policyBetterWrong : ChangeSpec := { name := "policyBetter", fn := fun _ => fun
  | [d1, d2, d3] => { results := [.lit (.bool false)], args := [d1, d2, d3] }
  | _ => none }
def PolicyBetterWrongFalsely : Prop := policyBetterRow.holds Try.pinned (OpenSpec.ofChange policyBetterWrong)

/-- 'fairwaylaw17.PolicyFallback': WHATEVER THE INPUT: true; the input reads as it did. -/
def policyFallbackSpec : ChangeSpec := { name := "policyFallback", fn := fun _ => fun
  | [d] => { results := [.lit (.bool true)], args := [d] }
  | _ => none }
def policyFallbackRow : OpenClaim := { program := "ythllemlkdflhkaa", sum := "092e5c8320fca643378b714d4db304486f585623b3c42e2c70ee2084c0d2c375", func := "fairway/fairwaylaw17.PolicyFallback", spec := "policyFallback", unfollowed := true, recurses := true, apart := false }
def PolicyFallbackSaid : Prop := policyFallbackRow.holds Try.pinned (OpenSpec.ofChange policyFallbackSpec)

/-- ITS FALSE NEIGHBOUR: 'it returns false'. Refute it at one input. -/
def policyFallbackWrong : ChangeSpec := { name := "policyFallback", fn := fun _ => fun
  | [d] => { results := [.lit (.bool false)], args := [d] }
  | _ => none }
def PolicyFallbackWrongFalsely : Prop := policyFallbackRow.holds Try.pinned (OpenSpec.ofChange policyFallbackWrong)

/- THE SECOND FORM. 'bulk': how many values and letters a reading holds, each counted each time it is reached (what is shared counts as often as it is met; a slice's spare places count too). A statement '..UptoSaid' is the law's where the arguments, and the package variables that the reading takes, are together of bulk at most 1048576: NARROWER than '..Said'. Prove '..Said' where nothing that the law and all that it calls make is longer than what came in: it says more and counts as full. Else prove '..UptoSaid'. A law counts once. -/
mutual
def uptoBulk {H : Type} : DataW H → Nat
  | .lit (.string bytes) => bytes.length + 1
  | .lit _ => 1
  | .nil => 1
  | .ptr d => uptoBulk d + 1
  | .slice elems spare => uptoBulkAll elems + uptoBulkAll spare + 1
  | .agg parts => uptoBulkAll parts + 1
  | .iface _ d => uptoBulk d + 1
  | .map entries => uptoBulkEntries entries + 1
  | .held _ => 1
def uptoBulkAll {H : Type} : List (DataW H) → Nat
  | [] => 0
  | d :: r => uptoBulk d + uptoBulkAll r
def uptoBulkEntries {H : Type} : List (Lit × DataW H) → Nat
  | [] => 0
  | x :: r => uptoBulkEntry x + uptoBulkEntries r
def uptoBulkEntry {H : Type} : Lit × DataW H → Nat
  | (.string bytes, d) => bytes.length + uptoBulk d + 1
  | (_, d) => uptoBulk d + 1
 end
def uptoSmall : (H : Type) → List (DataW H) → Bool := fun _ ds => decide (uptoBulkAll ds ≤ 1048576)
def OpenSpec.upto (s : _root_.Go.ChangeSpec) : _root_.Go.OpenSpec := { _root_.Go.OpenSpec.ofChange s with cond := some uptoSmall }

/-- 'fairwaylaw17.PolicyBetter', WHERE WHAT IT READS IS OF BULK AT MOST 1048576: true; the input reads as it did. -/
def policyBetterUptoRow : OpenClaim := { program := "ythllemlkdflhkaa", sum := "092e5c8320fca643378b714d4db304486f585623b3c42e2c70ee2084c0d2c375", func := "fairway/fairwaylaw17.PolicyBetter", spec := "policyBetter", unfollowed := true, recurses := true, apart := false, narrowed := true }
def PolicyBetterUptoSaid : Prop := policyBetterUptoRow.holds Try.pinned (OpenSpec.upto policyBetterSpec)

/-- 'fairwaylaw17.PolicyFallback', WHERE WHAT IT READS IS OF BULK AT MOST 1048576: true; the input reads as it did. -/
def policyFallbackUptoRow : OpenClaim := { program := "ythllemlkdflhkaa", sum := "092e5c8320fca643378b714d4db304486f585623b3c42e2c70ee2084c0d2c375", func := "fairway/fairwaylaw17.PolicyFallback", spec := "policyFallback", unfollowed := true, recurses := true, apart := false, narrowed := true }
def PolicyFallbackUptoSaid : Prop := policyFallbackUptoRow.holds Try.pinned (OpenSpec.upto policyFallbackSpec)

end Rows
end Go.Proofs.Ythllemlkdflhkaa
