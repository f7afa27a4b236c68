/-
  No cell of these rows narrows 'for every input' (looked for: loops, veiled, ifaces, maps, wideKeys, modest, calm, conditions, laid).
  DERIVED. THE GIVEN ROWS OF THIS SEAT. 4 by the template 'for every input the law returns true; each argument reads behind the call as it read before'; 0 by the template 'total and deterministic' (their statements: YtfnclmacodchfaaTotals.lean).
  GIVEN WITH THE SEED: the statements are not yours to turn. If you find one false, say at which input.
  Laid BY PROGRAM, IN A SANDBOX (cutbox-rows.mjs): the forced cells as the released guide's own fill.sh prints them over the translation 3f60bce55724bbba… (all of the seat's roots in one cut). By AI agents, Wed Nov 11 2026. No macro, syntax, notation, axiom, sorry.
-/
import Derived.Test.YtfnclmacodchfaaChecked
import GoSem.Claim
import GoSem.ClaimJoined
import GoSem.ClaimMapViews
import Derived.JoinedTies
import Derived.KernelRfl
namespace Go.Proofs.Ytfnclmacodchfaa
/- THE CELL 'sum', in the pinned program and in every row, IS THE sha256 OF THE DUMP (.gsa) THAT YtfnclmacodchfaaProg.lean LOADS. Nothing in Lean hashes anything: it is a label: what it is worth is what the hold of that sum in a sandbox is worth. -/
noncomputable def Try.pinned : Pinned := { name := "ytfnclmacodchfaa", sum := "3f60bce55724bbba430116759088b1a090567c07f61deb9f9cd1b764c207353d", checked := Try.checked }
namespace Rows
def none {H : Type} : Left H := { results := [], args := [] }

/-- 'fairwaylaw09.UpdateForms': WHATEVER THE INPUT: true; the input reads as it did. -/
def updateFormsSpec : ChangeSpec := { name := "updateForms", fn := fun _ => fun
  | [d1, d2] => { results := [.lit (.bool true)], args := [d1, d2] }
  | _ => none }
def updateFormsRow : OpenClaim := { program := "ytfnclmacodchfaa", sum := "3f60bce55724bbba430116759088b1a090567c07f61deb9f9cd1b764c207353d", func := "fairway/fairwaylaw09.UpdateForms", spec := "updateForms", unfollowed := true, recurses := true, apart := false }
def UpdateFormsSaid : Prop := updateFormsRow.holds Try.pinned (OpenSpec.ofChange updateFormsSpec)

/-- ITS FALSE NEIGHBOUR: 'it returns false'. Refute it at one input. -/
def updateFormsWrong : ChangeSpec := { name := "updateForms", fn := fun _ => fun
  | [d1, d2] => { results := [.lit (.bool false)], args := [d1, d2] }
  | _ => none }
def UpdateFormsWrongFalsely : Prop := updateFormsRow.holds Try.pinned (OpenSpec.ofChange updateFormsWrong)

/-- 'fairwaylaw09.UpdateReads': WHATEVER THE INPUT: true; the input reads as it did. -/
def updateReadsSpec : ChangeSpec := { name := "updateReads", fn := fun _ => fun
  | [d] => { results := [.lit (.bool true)], args := [d] }
  | _ => none }
def updateReadsRow : OpenClaim := { program := "ytfnclmacodchfaa", sum := "3f60bce55724bbba430116759088b1a090567c07f61deb9f9cd1b764c207353d", func := "fairway/fairwaylaw09.UpdateReads", spec := "updateReads", unfollowed := true, recurses := true, apart := false }
def UpdateReadsSaid : Prop := updateReadsRow.holds Try.pinned (OpenSpec.ofChange updateReadsSpec)

/-- ITS FALSE NEIGHBOUR: 'it returns false'. Refute it at one input. -/
def updateReadsWrong : ChangeSpec := { name := "updateReads", fn := fun _ => fun
  | [d] => { results := [.lit (.bool false)], args := [d] }
  | _ => none }
def UpdateReadsWrongFalsely : Prop := updateReadsRow.holds Try.pinned (OpenSpec.ofChange updateReadsWrong)

/-- 'fairwaylaw09.UpdateMissing': WHATEVER THE INPUT: true; the input reads as it did. -/
def updateMissingSpec : ChangeSpec := { name := "updateMissing", fn := fun _ => fun
  | [d1, d2] => { results := [.lit (.bool true)], args := [d1, d2] }
  | _ => none }
def updateMissingRow : OpenClaim := { program := "ytfnclmacodchfaa", sum := "3f60bce55724bbba430116759088b1a090567c07f61deb9f9cd1b764c207353d", func := "fairway/fairwaylaw09.UpdateMissing", spec := "updateMissing", unfollowed := true, recurses := true, apart := false }
def UpdateMissingSaid : Prop := updateMissingRow.holds Try.pinned (OpenSpec.ofChange updateMissingSpec)

/-- ITS FALSE NEIGHBOUR: 'it returns false'. Refute it at one input. -/
def updateMissingWrong : ChangeSpec := { name := "updateMissing", fn := fun _ => fun
  | [d1, d2] => { results := [.lit (.bool false)], args := [d1, d2] }
  | _ => none }
def UpdateMissingWrongFalsely : Prop := updateMissingRow.holds Try.pinned (OpenSpec.ofChange updateMissingWrong)

/-- 'fairwaylaw09.UpdateBack': WHATEVER THE INPUT: true; the input reads as it did. -/
def updateBackSpec : ChangeSpec := { name := "updateBack", fn := fun _ => fun
  | [d1, d2] => { results := [.lit (.bool true)], args := [d1, d2] }
  | _ => none }
def updateBackRow : OpenClaim := { program := "ytfnclmacodchfaa", sum := "3f60bce55724bbba430116759088b1a090567c07f61deb9f9cd1b764c207353d", func := "fairway/fairwaylaw09.UpdateBack", spec := "updateBack", unfollowed := true, recurses := true, apart := false }
def UpdateBackSaid : Prop := updateBackRow.holds Try.pinned (OpenSpec.ofChange updateBackSpec)

/-- ITS FALSE NEIGHBOUR: 'it returns false'. Refute it at one input. -/
def updateBackWrong : ChangeSpec := { name := "updateBack", fn := fun _ => fun
  | [d1, d2] => { results := [.lit (.bool false)], args := [d1, d2] }
  | _ => none }
def UpdateBackWrongFalsely : Prop := updateBackRow.holds Try.pinned (OpenSpec.ofChange updateBackWrong)

/- THE SECOND FORM. 'bulk': how many values and letters a reading holds, each counted each time it is reached (what is shared counts as often as it is met; a slice's spare places count too). A statement '..UptoSaid' is the law's where the arguments, and the package variables that the reading takes, are together of bulk at most 1048576: NARROWER than '..Said'. Prove '..Said' where nothing that the law and all that it calls make is longer than what came in: it says more and counts as full. Else prove '..UptoSaid'. A law counts once. -/
mutual
def uptoBulk {H : Type} : DataW H → Nat
  | .lit (.string bytes) => bytes.length + 1
  | .lit _ => 1
  | .nil => 1
  | .ptr d => uptoBulk d + 1
  | .slice elems spare => uptoBulkAll elems + uptoBulkAll spare + 1
  | .agg parts => uptoBulkAll parts + 1
  | .iface _ d => uptoBulk d + 1
  | .map entries => uptoBulkEntries entries + 1
  | .held _ => 1
def uptoBulkAll {H : Type} : List (DataW H) → Nat
  | [] => 0
  | d :: r => uptoBulk d + uptoBulkAll r
def uptoBulkEntries {H : Type} : List (Lit × DataW H) → Nat
  | [] => 0
  | x :: r => uptoBulkEntry x + uptoBulkEntries r
def uptoBulkEntry {H : Type} : Lit × DataW H → Nat
  | (.string bytes, d) => bytes.length + uptoBulk d + 1
  | (_, d) => uptoBulk d + 1
 end
def uptoSmall : (H : Type) → List (DataW H) → Bool := fun _ ds => decide (uptoBulkAll ds ≤ 1048576)
def OpenSpec.upto (s : _root_.Go.ChangeSpec) : _root_.Go.OpenSpec := { _root_.Go.OpenSpec.ofChange s with cond := some uptoSmall }

/-- 'fairwaylaw09.UpdateForms', WHERE WHAT IT READS IS OF BULK AT MOST 1048576: true; the input reads as it did. -/
def updateFormsUptoRow : OpenClaim := { program := "ytfnclmacodchfaa", sum := "3f60bce55724bbba430116759088b1a090567c07f61deb9f9cd1b764c207353d", func := "fairway/fairwaylaw09.UpdateForms", spec := "updateForms", unfollowed := true, recurses := true, apart := false, narrowed := true }
def UpdateFormsUptoSaid : Prop := updateFormsUptoRow.holds Try.pinned (OpenSpec.upto updateFormsSpec)

/-- 'fairwaylaw09.UpdateReads', WHERE WHAT IT READS IS OF BULK AT MOST 1048576: true; the input reads as it did. -/
def updateReadsUptoRow : OpenClaim := { program := "ytfnclmacodchfaa", sum := "3f60bce55724bbba430116759088b1a090567c07f61deb9f9cd1b764c207353d", func := "fairway/fairwaylaw09.UpdateReads", spec := "updateReads", unfollowed := true, recurses := true, apart := false, narrowed := true }
def UpdateReadsUptoSaid : Prop := updateReadsUptoRow.holds Try.pinned (OpenSpec.upto updateReadsSpec)

/-- 'fairwaylaw09.UpdateMissing', WHERE WHAT IT READS IS OF BULK AT MOST 1048576: true; the input reads as it did. -/
def updateMissingUptoRow : OpenClaim := { program := "ytfnclmacodchfaa", sum := "3f60bce55724bbba430116759088b1a090567c07f61deb9f9cd1b764c207353d", func := "fairway/fairwaylaw09.UpdateMissing", spec := "updateMissing", unfollowed := true, recurses := true, apart := false, narrowed := true }
def UpdateMissingUptoSaid : Prop := updateMissingUptoRow.holds Try.pinned (OpenSpec.upto updateMissingSpec)

/-- 'fairwaylaw09.UpdateBack', WHERE WHAT IT READS IS OF BULK AT MOST 1048576: true; the input reads as it did. -/
def updateBackUptoRow : OpenClaim := { program := "ytfnclmacodchfaa", sum := "3f60bce55724bbba430116759088b1a090567c07f61deb9f9cd1b764c207353d", func := "fairway/fairwaylaw09.UpdateBack", spec := "updateBack", unfollowed := true, recurses := true, apart := false, narrowed := true }
def UpdateBackUptoSaid : Prop := updateBackUptoRow.holds Try.pinned (OpenSpec.upto updateBackSpec)

end Rows
end Go.Proofs.Ytfnclmacodchfaa
