/-
  No cell of these rows narrows 'for every input' (looked for: loops, veiled, ifaces, maps, wideKeys, modest, calm, conditions, laid).
  DERIVED. THE GIVEN ROWS OF THIS SEAT. 3 by the template 'for every input the law returns true; each argument reads behind the call as it read before'; 0 by the template 'total and deterministic' (their statements: YtfmjedbpjjjdpaaTotals.lean).
  GIVEN WITH THE SEED: the statements are not yours to turn. If you find one false, say at which input.
  Laid BY PROGRAM, IN A SANDBOX (cutbox-rows.mjs): the forced cells as the released guide's own fill.sh prints them over the translation a4b57f88dc7b4504… (all of the seat's roots in one cut). By AI agents, Wed Nov 11 2026. No macro, syntax, notation, axiom, sorry.
-/
import Derived.Test.YtfmjedbpjjjdpaaChecked
import GoSem.Claim
import GoSem.ClaimJoined
import GoSem.ClaimMapViews
import Derived.JoinedTies
import Derived.KernelRfl
namespace Go.Proofs.Ytfmjedbpjjjdpaa
/- THE CELL 'sum', in the pinned program and in every row, IS THE sha256 OF THE DUMP (.gsa) THAT YtfmjedbpjjjdpaaProg.lean LOADS. Nothing in Lean hashes anything: it is a label: what it is worth is what the hold of that sum in a sandbox is worth. -/
noncomputable def Try.pinned : Pinned := { name := "ytfmjedbpjjjdpaa", sum := "a4b57f88dc7b4504f0153120c62c774819742fbc8e01a4d850a652cbbded29e0", checked := Try.checked }
namespace Rows
def none {H : Type} : Left H := { results := [], args := [] }

/-- 'fairwaylaw23.RiseRuns': WHATEVER THE INPUT: true; the input reads as it did. -/
def riseRunsSpec : ChangeSpec := { name := "riseRuns", fn := fun _ => fun
  | [d1, d2, d3] => { results := [.lit (.bool true)], args := [d1, d2, d3] }
  | _ => none }
def riseRunsRow : OpenClaim := { program := "ytfmjedbpjjjdpaa", sum := "a4b57f88dc7b4504f0153120c62c774819742fbc8e01a4d850a652cbbded29e0", func := "fairway/fairwaylaw23.RiseRuns", spec := "riseRuns", unfollowed := true, recurses := true, apart := false }
def RiseRunsSaid : Prop := riseRunsRow.holds Try.pinned (OpenSpec.ofChange riseRunsSpec)

/-- ITS FALSE NEIGHBOUR: 'it returns false'. Refute it at one input. -/
def riseRunsWrong : ChangeSpec := { name := "riseRuns", fn := fun _ => fun
  | [d1, d2, d3] => { results := [.lit (.bool false)], args := [d1, d2, d3] }
  | _ => none }
def RiseRunsWrongFalsely : Prop := riseRunsRow.holds Try.pinned (OpenSpec.ofChange riseRunsWrong)

/-- 'fairwaylaw23.RiseNotes': WHATEVER THE INPUT: true; the input reads as it did. -/
def riseNotesSpec : ChangeSpec := { name := "riseNotes", fn := fun _ => fun
  | [d1, d2, d3] => { results := [.lit (.bool true)], args := [d1, d2, d3] }
  | _ => none }
def riseNotesRow : OpenClaim := { program := "ytfmjedbpjjjdpaa", sum := "a4b57f88dc7b4504f0153120c62c774819742fbc8e01a4d850a652cbbded29e0", func := "fairway/fairwaylaw23.RiseNotes", spec := "riseNotes", unfollowed := true, recurses := true, apart := false }
def RiseNotesSaid : Prop := riseNotesRow.holds Try.pinned (OpenSpec.ofChange riseNotesSpec)

/-- ITS FALSE NEIGHBOUR: 'it returns false'. Refute it at one input. -/
def riseNotesWrong : ChangeSpec := { name := "riseNotes", fn := fun _ => fun
  | [d1, d2, d3] => { results := [.lit (.bool false)], args := [d1, d2, d3] }
  | _ => none }
def RiseNotesWrongFalsely : Prop := riseNotesRow.holds Try.pinned (OpenSpec.ofChange riseNotesWrong)

/-- 'fairwaylaw23.RiseNone': WHATEVER THE INPUT: true; the input reads as it did. -/
def riseNoneSpec : ChangeSpec := { name := "riseNone", fn := fun _ => fun
  | [d] => { results := [.lit (.bool true)], args := [d] }
  | _ => none }
def riseNoneRow : OpenClaim := { program := "ytfmjedbpjjjdpaa", sum := "a4b57f88dc7b4504f0153120c62c774819742fbc8e01a4d850a652cbbded29e0", func := "fairway/fairwaylaw23.RiseNone", spec := "riseNone", unfollowed := true, recurses := true, apart := false }
def RiseNoneSaid : Prop := riseNoneRow.holds Try.pinned (OpenSpec.ofChange riseNoneSpec)

/-- ITS FALSE NEIGHBOUR: 'it returns false'. Refute it at one input. -/
def riseNoneWrong : ChangeSpec := { name := "riseNone", fn := fun _ => fun
  | [d] => { results := [.lit (.bool false)], args := [d] }
  | _ => none }
def RiseNoneWrongFalsely : Prop := riseNoneRow.holds Try.pinned (OpenSpec.ofChange riseNoneWrong)

/- THE SECOND FORM. 'bulk': how many values and letters a reading holds, each counted each time it is reached (what is shared counts as often as it is met; a slice's spare places count too). A statement '..UptoSaid' is the law's where the arguments, and the package variables that the reading takes, are together of bulk at most 1048576: NARROWER than '..Said'. Prove '..Said' where nothing that the law and all that it calls make is longer than what came in: it says more and counts as full. Else prove '..UptoSaid'. A law counts once. -/
mutual
def uptoBulk {H : Type} : DataW H → Nat
  | .lit (.string bytes) => bytes.length + 1
  | .lit _ => 1
  | .nil => 1
  | .ptr d => uptoBulk d + 1
  | .slice elems spare => uptoBulkAll elems + uptoBulkAll spare + 1
  | .agg parts => uptoBulkAll parts + 1
  | .iface _ d => uptoBulk d + 1
  | .map entries => uptoBulkEntries entries + 1
  | .held _ => 1
def uptoBulkAll {H : Type} : List (DataW H) → Nat
  | [] => 0
  | d :: r => uptoBulk d + uptoBulkAll r
def uptoBulkEntries {H : Type} : List (Lit × DataW H) → Nat
  | [] => 0
  | x :: r => uptoBulkEntry x + uptoBulkEntries r
def uptoBulkEntry {H : Type} : Lit × DataW H → Nat
  | (.string bytes, d) => bytes.length + uptoBulk d + 1
  | (_, d) => uptoBulk d + 1
 end
def uptoSmall : (H : Type) → List (DataW H) → Bool := fun _ ds => decide (uptoBulkAll ds ≤ 1048576)
def OpenSpec.upto (s : _root_.Go.ChangeSpec) : _root_.Go.OpenSpec := { _root_.Go.OpenSpec.ofChange s with cond := some uptoSmall }

/-- 'fairwaylaw23.RiseRuns', WHERE WHAT IT READS IS OF BULK AT MOST 1048576: true; the input reads as it did. -/
def riseRunsUptoRow : OpenClaim := { program := "ytfmjedbpjjjdpaa", sum := "a4b57f88dc7b4504f0153120c62c774819742fbc8e01a4d850a652cbbded29e0", func := "fairway/fairwaylaw23.RiseRuns", spec := "riseRuns", unfollowed := true, recurses := true, apart := false, narrowed := true }
def RiseRunsUptoSaid : Prop := riseRunsUptoRow.holds Try.pinned (OpenSpec.upto riseRunsSpec)

/-- 'fairwaylaw23.RiseNotes', WHERE WHAT IT READS IS OF BULK AT MOST 1048576: true; the input reads as it did. -/
def riseNotesUptoRow : OpenClaim := { program := "ytfmjedbpjjjdpaa", sum := "a4b57f88dc7b4504f0153120c62c774819742fbc8e01a4d850a652cbbded29e0", func := "fairway/fairwaylaw23.RiseNotes", spec := "riseNotes", unfollowed := true, recurses := true, apart := false, narrowed := true }
def RiseNotesUptoSaid : Prop := riseNotesUptoRow.holds Try.pinned (OpenSpec.upto riseNotesSpec)

/-- 'fairwaylaw23.RiseNone', WHERE WHAT IT READS IS OF BULK AT MOST 1048576: true; the input reads as it did. -/
def riseNoneUptoRow : OpenClaim := { program := "ytfmjedbpjjjdpaa", sum := "a4b57f88dc7b4504f0153120c62c774819742fbc8e01a4d850a652cbbded29e0", func := "fairway/fairwaylaw23.RiseNone", spec := "riseNone", unfollowed := true, recurses := true, apart := false, narrowed := true }
def RiseNoneUptoSaid : Prop := riseNoneUptoRow.holds Try.pinned (OpenSpec.upto riseNoneSpec)

end Rows
end Go.Proofs.Ytfmjedbpjjjdpaa
