/-
  No cell of these rows narrows 'for every input' (looked for: loops, veiled, ifaces, maps, wideKeys, modest, calm, conditions, laid).
  DERIVED. THE GIVEN ROWS OF THIS SEAT. 5 by the template 'for every input the law returns true; each argument reads behind the call as it read before'; 0 by the template 'total and deterministic' (their statements: YthifahmhimbedaaTotals.lean).
  GIVEN WITH THE SEED: the statements are not yours to turn. If you find one false, say at which input.
  Laid BY PROGRAM, IN A SANDBOX (cutbox-rows.mjs): the forced cells as the released guide's own fill.sh prints them over the translation 6d7693165fba9301… (all of the seat's roots in one cut). By AI agents, Wed Nov 11 2026. No macro, syntax, notation, axiom, sorry.
-/
import Derived.Test.YthifahmhimbedaaChecked
import GoSem.Claim
import GoSem.ClaimJoined
import GoSem.ClaimMapViews
import Derived.JoinedTies
import Derived.KernelRfl
namespace Go.Proofs.Ythifahmhimbedaa
/- THE CELL 'sum', in the pinned program and in every row, IS THE sha256 OF THE DUMP (.gsa) THAT YthifahmhimbedaaProg.lean LOADS. Nothing in Lean hashes anything: it is a label: what it is worth is what the hold of that sum in a sandbox is worth. -/
noncomputable def Try.pinned : Pinned := { name := "ythifahmhimbedaa", sum := "6d7693165fba930106e122b25f1d85d202019f380cac5f7013d3ec4a7f3d54e2", checked := Try.checked }
namespace Rows
def none {H : Type} : Left H := { results := [], args := [] }

/-- 'fairwaylaw27.DampDecays': WHATEVER THE INPUT: true; the input reads as it did. -/
def dampDecaysSpec : ChangeSpec := { name := "dampDecays", fn := fun _ => fun
  | [d1, d2, d3] => { results := [.lit (.bool true)], args := [d1, d2, d3] }
  | _ => none }
def dampDecaysRow : OpenClaim := { program := "ythifahmhimbedaa", sum := "6d7693165fba930106e122b25f1d85d202019f380cac5f7013d3ec4a7f3d54e2", func := "fairway/fairwaylaw27.DampDecays", spec := "dampDecays", unfollowed := true, recurses := true, apart := false }
def DampDecaysSaid : Prop := dampDecaysRow.holds Try.pinned (OpenSpec.ofChange dampDecaysSpec)

/-- ITS FALSE NEIGHBOUR: 'it returns false'. Refute it at one input. -/
def dampDecaysWrong : ChangeSpec := { name := "dampDecays", fn := fun _ => fun
  | [d1, d2, d3] => { results := [.lit (.bool false)], args := [d1, d2, d3] }
  | _ => none }
def DampDecaysWrongFalsely : Prop := dampDecaysRow.holds Try.pinned (OpenSpec.ofChange dampDecaysWrong)

/-- 'fairwaylaw27.DampTicks': WHATEVER THE INPUT: true; the input reads as it did. -/
def dampTicksSpec : ChangeSpec := { name := "dampTicks", fn := fun _ => fun
  | [d] => { results := [.lit (.bool true)], args := [d] }
  | _ => none }
def dampTicksRow : OpenClaim := { program := "ythifahmhimbedaa", sum := "6d7693165fba930106e122b25f1d85d202019f380cac5f7013d3ec4a7f3d54e2", func := "fairway/fairwaylaw27.DampTicks", spec := "dampTicks", unfollowed := true, recurses := true, apart := false }
def DampTicksSaid : Prop := dampTicksRow.holds Try.pinned (OpenSpec.ofChange dampTicksSpec)

/-- ITS FALSE NEIGHBOUR: 'it returns false'. Refute it at one input. -/
def dampTicksWrong : ChangeSpec := { name := "dampTicks", fn := fun _ => fun
  | [d] => { results := [.lit (.bool false)], args := [d] }
  | _ => none }
def DampTicksWrongFalsely : Prop := dampTicksRow.holds Try.pinned (OpenSpec.ofChange dampTicksWrong)

/-- 'fairwaylaw27.DampEnds': WHATEVER THE INPUT: true; the input reads as it did. -/
def dampEndsSpec : ChangeSpec := { name := "dampEnds", fn := fun _ => fun
  | [d1, d2] => { results := [.lit (.bool true)], args := [d1, d2] }
  | _ => none }
def dampEndsRow : OpenClaim := { program := "ythifahmhimbedaa", sum := "6d7693165fba930106e122b25f1d85d202019f380cac5f7013d3ec4a7f3d54e2", func := "fairway/fairwaylaw27.DampEnds", spec := "dampEnds", unfollowed := true, recurses := true, apart := false }
def DampEndsSaid : Prop := dampEndsRow.holds Try.pinned (OpenSpec.ofChange dampEndsSpec)

/-- ITS FALSE NEIGHBOUR: 'it returns false'. Refute it at one input. -/
def dampEndsWrong : ChangeSpec := { name := "dampEnds", fn := fun _ => fun
  | [d1, d2] => { results := [.lit (.bool false)], args := [d1, d2] }
  | _ => none }
def DampEndsWrongFalsely : Prop := dampEndsRow.holds Try.pinned (OpenSpec.ofChange dampEndsWrong)

/-- 'fairwaylaw27.DampNone': WHATEVER THE INPUT: true; the input reads as it did. -/
def dampNoneSpec : ChangeSpec := { name := "dampNone", fn := fun _ => fun
  | [d] => { results := [.lit (.bool true)], args := [d] }
  | _ => none }
def dampNoneRow : OpenClaim := { program := "ythifahmhimbedaa", sum := "6d7693165fba930106e122b25f1d85d202019f380cac5f7013d3ec4a7f3d54e2", func := "fairway/fairwaylaw27.DampNone", spec := "dampNone", unfollowed := true, recurses := true, apart := false }
def DampNoneSaid : Prop := dampNoneRow.holds Try.pinned (OpenSpec.ofChange dampNoneSpec)

/-- ITS FALSE NEIGHBOUR: 'it returns false'. Refute it at one input. -/
def dampNoneWrong : ChangeSpec := { name := "dampNone", fn := fun _ => fun
  | [d] => { results := [.lit (.bool false)], args := [d] }
  | _ => none }
def DampNoneWrongFalsely : Prop := dampNoneRow.holds Try.pinned (OpenSpec.ofChange dampNoneWrong)

/-- 'fairwaylaw27.DampActs': WHATEVER THE INPUT: true; the input reads as it did. -/
def dampActsSpec : ChangeSpec := { name := "dampActs", fn := fun _ => fun
  | [d1, d2] => { results := [.lit (.bool true)], args := [d1, d2] }
  | _ => none }
def dampActsRow : OpenClaim := { program := "ythifahmhimbedaa", sum := "6d7693165fba930106e122b25f1d85d202019f380cac5f7013d3ec4a7f3d54e2", func := "fairway/fairwaylaw27.DampActs", spec := "dampActs", unfollowed := true, recurses := true, apart := false }
def DampActsSaid : Prop := dampActsRow.holds Try.pinned (OpenSpec.ofChange dampActsSpec)

/-- ITS FALSE NEIGHBOUR: 'it returns false'. Refute it at one input. -/
def dampActsWrong : ChangeSpec := { name := "dampActs", fn := fun _ => fun
  | [d1, d2] => { results := [.lit (.bool false)], args := [d1, d2] }
  | _ => none }
def DampActsWrongFalsely : Prop := dampActsRow.holds Try.pinned (OpenSpec.ofChange dampActsWrong)

/- THE SECOND FORM. 'bulk': how many values and letters a reading holds, each counted each time it is reached (what is shared counts as often as it is met; a slice's spare places count too). A statement '..UptoSaid' is the law's where the arguments, and the package variables that the reading takes, are together of bulk at most 1048576: NARROWER than '..Said'. Prove '..Said' where nothing that the law and all that it calls make is longer than what came in: it says more and counts as full. Else prove '..UptoSaid'. A law counts once. -/
mutual
def uptoBulk {H : Type} : DataW H → Nat
  | .lit (.string bytes) => bytes.length + 1
  | .lit _ => 1
  | .nil => 1
  | .ptr d => uptoBulk d + 1
  | .slice elems spare => uptoBulkAll elems + uptoBulkAll spare + 1
  | .agg parts => uptoBulkAll parts + 1
  | .iface _ d => uptoBulk d + 1
  | .map entries => uptoBulkEntries entries + 1
  | .held _ => 1
def uptoBulkAll {H : Type} : List (DataW H) → Nat
  | [] => 0
  | d :: r => uptoBulk d + uptoBulkAll r
def uptoBulkEntries {H : Type} : List (Lit × DataW H) → Nat
  | [] => 0
  | x :: r => uptoBulkEntry x + uptoBulkEntries r
def uptoBulkEntry {H : Type} : Lit × DataW H → Nat
  | (.string bytes, d) => bytes.length + uptoBulk d + 1
  | (_, d) => uptoBulk d + 1
 end
def uptoSmall : (H : Type) → List (DataW H) → Bool := fun _ ds => decide (uptoBulkAll ds ≤ 1048576)
def OpenSpec.upto (s : _root_.Go.ChangeSpec) : _root_.Go.OpenSpec := { _root_.Go.OpenSpec.ofChange s with cond := some uptoSmall }

/-- 'fairwaylaw27.DampDecays', WHERE WHAT IT READS IS OF BULK AT MOST 1048576: true; the input reads as it did. -/
def dampDecaysUptoRow : OpenClaim := { program := "ythifahmhimbedaa", sum := "6d7693165fba930106e122b25f1d85d202019f380cac5f7013d3ec4a7f3d54e2", func := "fairway/fairwaylaw27.DampDecays", spec := "dampDecays", unfollowed := true, recurses := true, apart := false, narrowed := true }
def DampDecaysUptoSaid : Prop := dampDecaysUptoRow.holds Try.pinned (OpenSpec.upto dampDecaysSpec)

/-- 'fairwaylaw27.DampTicks', WHERE WHAT IT READS IS OF BULK AT MOST 1048576: true; the input reads as it did. -/
def dampTicksUptoRow : OpenClaim := { program := "ythifahmhimbedaa", sum := "6d7693165fba930106e122b25f1d85d202019f380cac5f7013d3ec4a7f3d54e2", func := "fairway/fairwaylaw27.DampTicks", spec := "dampTicks", unfollowed := true, recurses := true, apart := false, narrowed := true }
def DampTicksUptoSaid : Prop := dampTicksUptoRow.holds Try.pinned (OpenSpec.upto dampTicksSpec)

/-- 'fairwaylaw27.DampEnds', WHERE WHAT IT READS IS OF BULK AT MOST 1048576: true; the input reads as it did. -/
def dampEndsUptoRow : OpenClaim := { program := "ythifahmhimbedaa", sum := "6d7693165fba930106e122b25f1d85d202019f380cac5f7013d3ec4a7f3d54e2", func := "fairway/fairwaylaw27.DampEnds", spec := "dampEnds", unfollowed := true, recurses := true, apart := false, narrowed := true }
def DampEndsUptoSaid : Prop := dampEndsUptoRow.holds Try.pinned (OpenSpec.upto dampEndsSpec)

/-- 'fairwaylaw27.DampNone', WHERE WHAT IT READS IS OF BULK AT MOST 1048576: true; the input reads as it did. -/
def dampNoneUptoRow : OpenClaim := { program := "ythifahmhimbedaa", sum := "6d7693165fba930106e122b25f1d85d202019f380cac5f7013d3ec4a7f3d54e2", func := "fairway/fairwaylaw27.DampNone", spec := "dampNone", unfollowed := true, recurses := true, apart := false, narrowed := true }
def DampNoneUptoSaid : Prop := dampNoneUptoRow.holds Try.pinned (OpenSpec.upto dampNoneSpec)

/-- 'fairwaylaw27.DampActs', WHERE WHAT IT READS IS OF BULK AT MOST 1048576: true; the input reads as it did. -/
def dampActsUptoRow : OpenClaim := { program := "ythifahmhimbedaa", sum := "6d7693165fba930106e122b25f1d85d202019f380cac5f7013d3ec4a7f3d54e2", func := "fairway/fairwaylaw27.DampActs", spec := "dampActs", unfollowed := true, recurses := true, apart := false, narrowed := true }
def DampActsUptoSaid : Prop := dampActsUptoRow.holds Try.pinned (OpenSpec.upto dampActsSpec)

end Rows
end Go.Proofs.Ythifahmhimbedaa
