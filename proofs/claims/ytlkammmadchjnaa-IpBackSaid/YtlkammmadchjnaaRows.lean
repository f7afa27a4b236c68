/-
  No cell of these rows narrows 'for every input' (looked for: loops, veiled, ifaces, maps, wideKeys, modest, calm, conditions, laid).
  DERIVED. THE GIVEN ROWS OF THIS SEAT. 4 by the template 'for every input the law returns true; each argument reads behind the call as it read before'; 0 by the template 'total and deterministic' (their statements: YtlkammmadchjnaaTotals.lean).
  GIVEN WITH THE SEED: the statements are not yours to turn. If you find one false, say at which input.
  Laid BY PROGRAM, IN A SANDBOX (cutbox-rows.mjs): the forced cells as the released guide's own fill.sh prints them over the translation d7bdac99fb2d356f… (all of the seat's roots in one cut). By AI agents, Wed Nov 11 2026. No macro, syntax, notation, axiom, sorry.
-/
import Derived.Test.YtlkammmadchjnaaChecked
import GoSem.Claim
import GoSem.ClaimJoined
import GoSem.ClaimMapViews
import Derived.JoinedTies
import Derived.KernelRfl
namespace Go.Proofs.Ytlkammmadchjnaa
/- THE CELL 'sum', in the pinned program and in every row, IS THE sha256 OF THE DUMP (.gsa) THAT YtlkammmadchjnaaProg.lean LOADS. Nothing in Lean hashes anything: it is a label: what it is worth is what the hold of that sum in a sandbox is worth. -/
noncomputable def Try.pinned : Pinned := { name := "ytlkammmadchjnaa", sum := "d7bdac99fb2d356f1e2c1a0ccbad08a14d04a7631d374ac13ba47bd917a4aec9", checked := Try.checked }
namespace Rows
def none {H : Type} : Left H := { results := [], args := [] }

/-- 'fairwaylaw04.IpBuilds': WHATEVER THE INPUT: true; the input reads as it did. -/
def ipBuildsSpec : ChangeSpec := { name := "ipBuilds", fn := fun _ => fun
  | [d1, d2, d3] => { results := [.lit (.bool true)], args := [d1, d2, d3] }
  | _ => none }
def ipBuildsRow : OpenClaim := { program := "ytlkammmadchjnaa", sum := "d7bdac99fb2d356f1e2c1a0ccbad08a14d04a7631d374ac13ba47bd917a4aec9", func := "fairway/fairwaylaw04.IpBuilds", spec := "ipBuilds", unfollowed := true, recurses := true, apart := false }
def IpBuildsSaid : Prop := ipBuildsRow.holds Try.pinned (OpenSpec.ofChange ipBuildsSpec)

/-- ITS FALSE NEIGHBOUR: 'it returns false'. Refute it at one input. -/
def ipBuildsWrong : ChangeSpec := { name := "ipBuilds", fn := fun _ => fun
  | [d1, d2, d3] => { results := [.lit (.bool false)], args := [d1, d2, d3] }
  | _ => none }
def IpBuildsWrongFalsely : Prop := ipBuildsRow.holds Try.pinned (OpenSpec.ofChange ipBuildsWrong)

/-- 'fairwaylaw04.IpBack': WHATEVER THE INPUT: true; the input reads as it did. -/
def ipBackSpec : ChangeSpec := { name := "ipBack", fn := fun _ => fun
  | [d1, d2, d3] => { results := [.lit (.bool true)], args := [d1, d2, d3] }
  | _ => none }
def ipBackRow : OpenClaim := { program := "ytlkammmadchjnaa", sum := "d7bdac99fb2d356f1e2c1a0ccbad08a14d04a7631d374ac13ba47bd917a4aec9", func := "fairway/fairwaylaw04.IpBack", spec := "ipBack", unfollowed := true, recurses := true, apart := false }
def IpBackSaid : Prop := ipBackRow.holds Try.pinned (OpenSpec.ofChange ipBackSpec)

/-- ITS FALSE NEIGHBOUR: 'it returns false'. Refute it at one input. -/
def ipBackWrong : ChangeSpec := { name := "ipBack", fn := fun _ => fun
  | [d1, d2, d3] => { results := [.lit (.bool false)], args := [d1, d2, d3] }
  | _ => none }
def IpBackWrongFalsely : Prop := ipBackRow.holds Try.pinned (OpenSpec.ofChange ipBackWrong)

/-- 'fairwaylaw04.IpReads': WHATEVER THE INPUT: true; the input reads as it did. -/
def ipReadsSpec : ChangeSpec := { name := "ipReads", fn := fun _ => fun
  | [d1, d2] => { results := [.lit (.bool true)], args := [d1, d2] }
  | _ => none }
def ipReadsRow : OpenClaim := { program := "ytlkammmadchjnaa", sum := "d7bdac99fb2d356f1e2c1a0ccbad08a14d04a7631d374ac13ba47bd917a4aec9", func := "fairway/fairwaylaw04.IpReads", spec := "ipReads", unfollowed := true, recurses := true, apart := false }
def IpReadsSaid : Prop := ipReadsRow.holds Try.pinned (OpenSpec.ofChange ipReadsSpec)

/-- ITS FALSE NEIGHBOUR: 'it returns false'. Refute it at one input. -/
def ipReadsWrong : ChangeSpec := { name := "ipReads", fn := fun _ => fun
  | [d1, d2] => { results := [.lit (.bool false)], args := [d1, d2] }
  | _ => none }
def IpReadsWrongFalsely : Prop := ipReadsRow.holds Try.pinned (OpenSpec.ofChange ipReadsWrong)

/-- 'fairwaylaw04.IpGoesOn': WHATEVER THE INPUT: true; the input reads as it did. -/
def ipGoesOnSpec : ChangeSpec := { name := "ipGoesOn", fn := fun _ => fun
  | [d1, d2, d3] => { results := [.lit (.bool true)], args := [d1, d2, d3] }
  | _ => none }
def ipGoesOnRow : OpenClaim := { program := "ytlkammmadchjnaa", sum := "d7bdac99fb2d356f1e2c1a0ccbad08a14d04a7631d374ac13ba47bd917a4aec9", func := "fairway/fairwaylaw04.IpGoesOn", spec := "ipGoesOn", unfollowed := true, recurses := true, apart := false }
def IpGoesOnSaid : Prop := ipGoesOnRow.holds Try.pinned (OpenSpec.ofChange ipGoesOnSpec)

/-- ITS FALSE NEIGHBOUR: 'it returns false'. Refute it at one input. -/
def ipGoesOnWrong : ChangeSpec := { name := "ipGoesOn", fn := fun _ => fun
  | [d1, d2, d3] => { results := [.lit (.bool false)], args := [d1, d2, d3] }
  | _ => none }
def IpGoesOnWrongFalsely : Prop := ipGoesOnRow.holds Try.pinned (OpenSpec.ofChange ipGoesOnWrong)

/- THE SECOND FORM. 'bulk': how many values and letters a reading holds, each counted each time it is reached (what is shared counts as often as it is met; a slice's spare places count too). A statement '..UptoSaid' is the law's where the arguments, and the package variables that the reading takes, are together of bulk at most 1048576: NARROWER than '..Said'. Prove '..Said' where nothing that the law and all that it calls make is longer than what came in: it says more and counts as full. Else prove '..UptoSaid'. A law counts once. -/
mutual
def uptoBulk {H : Type} : DataW H → Nat
  | .lit (.string bytes) => bytes.length + 1
  | .lit _ => 1
  | .nil => 1
  | .ptr d => uptoBulk d + 1
  | .slice elems spare => uptoBulkAll elems + uptoBulkAll spare + 1
  | .agg parts => uptoBulkAll parts + 1
  | .iface _ d => uptoBulk d + 1
  | .map entries => uptoBulkEntries entries + 1
  | .held _ => 1
def uptoBulkAll {H : Type} : List (DataW H) → Nat
  | [] => 0
  | d :: r => uptoBulk d + uptoBulkAll r
def uptoBulkEntries {H : Type} : List (Lit × DataW H) → Nat
  | [] => 0
  | x :: r => uptoBulkEntry x + uptoBulkEntries r
def uptoBulkEntry {H : Type} : Lit × DataW H → Nat
  | (.string bytes, d) => bytes.length + uptoBulk d + 1
  | (_, d) => uptoBulk d + 1
 end
def uptoSmall : (H : Type) → List (DataW H) → Bool := fun _ ds => decide (uptoBulkAll ds ≤ 1048576)
def OpenSpec.upto (s : _root_.Go.ChangeSpec) : _root_.Go.OpenSpec := { _root_.Go.OpenSpec.ofChange s with cond := some uptoSmall }

/-- 'fairwaylaw04.IpBuilds', WHERE WHAT IT READS IS OF BULK AT MOST 1048576: true; the input reads as it did. -/
def ipBuildsUptoRow : OpenClaim := { program := "ytlkammmadchjnaa", sum := "d7bdac99fb2d356f1e2c1a0ccbad08a14d04a7631d374ac13ba47bd917a4aec9", func := "fairway/fairwaylaw04.IpBuilds", spec := "ipBuilds", unfollowed := true, recurses := true, apart := false, narrowed := true }
def IpBuildsUptoSaid : Prop := ipBuildsUptoRow.holds Try.pinned (OpenSpec.upto ipBuildsSpec)

/-- 'fairwaylaw04.IpBack', WHERE WHAT IT READS IS OF BULK AT MOST 1048576: true; the input reads as it did. -/
def ipBackUptoRow : OpenClaim := { program := "ytlkammmadchjnaa", sum := "d7bdac99fb2d356f1e2c1a0ccbad08a14d04a7631d374ac13ba47bd917a4aec9", func := "fairway/fairwaylaw04.IpBack", spec := "ipBack", unfollowed := true, recurses := true, apart := false, narrowed := true }
def IpBackUptoSaid : Prop := ipBackUptoRow.holds Try.pinned (OpenSpec.upto ipBackSpec)

/-- 'fairwaylaw04.IpReads', WHERE WHAT IT READS IS OF BULK AT MOST 1048576: true; the input reads as it did. -/
def ipReadsUptoRow : OpenClaim := { program := "ytlkammmadchjnaa", sum := "d7bdac99fb2d356f1e2c1a0ccbad08a14d04a7631d374ac13ba47bd917a4aec9", func := "fairway/fairwaylaw04.IpReads", spec := "ipReads", unfollowed := true, recurses := true, apart := false, narrowed := true }
def IpReadsUptoSaid : Prop := ipReadsUptoRow.holds Try.pinned (OpenSpec.upto ipReadsSpec)

/-- 'fairwaylaw04.IpGoesOn', WHERE WHAT IT READS IS OF BULK AT MOST 1048576: true; the input reads as it did. -/
def ipGoesOnUptoRow : OpenClaim := { program := "ytlkammmadchjnaa", sum := "d7bdac99fb2d356f1e2c1a0ccbad08a14d04a7631d374ac13ba47bd917a4aec9", func := "fairway/fairwaylaw04.IpGoesOn", spec := "ipGoesOn", unfollowed := true, recurses := true, apart := false, narrowed := true }
def IpGoesOnUptoSaid : Prop := ipGoesOnUptoRow.holds Try.pinned (OpenSpec.upto ipGoesOnSpec)

end Rows
end Go.Proofs.Ytlkammmadchjnaa
