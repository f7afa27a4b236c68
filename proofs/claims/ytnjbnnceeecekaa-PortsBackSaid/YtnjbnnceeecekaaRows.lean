/-
  No cell of these rows narrows 'for every input' (looked for: loops, veiled, ifaces, maps, wideKeys, modest, calm, conditions, laid).
  DERIVED. THE GIVEN ROWS OF THIS SEAT. 6 by the template 'for every input the law returns true; each argument reads behind the call as it read before'; 0 by the template 'total and deterministic' (their statements: YtnjbnnceeecekaaTotals.lean).
  GIVEN WITH THE SEED: the statements are not yours to turn. If you find one false, say at which input.
  Laid BY PROGRAM, IN A SANDBOX (cutbox-rows.mjs): the forced cells as the released guide's own fill.sh prints them over the translation f8c7f4cc991c16c6… (all of the seat's roots in one cut). By AI agents, Wed Nov 11 2026. No macro, syntax, notation, axiom, sorry.
-/
import Derived.Test.YtnjbnnceeecekaaChecked
import GoSem.Claim
import GoSem.ClaimJoined
import GoSem.ClaimMapViews
import Derived.JoinedTies
import Derived.KernelRfl
namespace Go.Proofs.Ytnjbnnceeecekaa
/- THE CELL 'sum', in the pinned program and in every row, IS THE sha256 OF THE DUMP (.gsa) THAT YtnjbnnceeecekaaProg.lean LOADS. Nothing in Lean hashes anything: it is a label: what it is worth is what the hold of that sum in a sandbox is worth. -/
noncomputable def Try.pinned : Pinned := { name := "ytnjbnnceeecekaa", sum := "f8c7f4cc991c16c6fa582649da6b98f26288cb550b0a06839305c29d4e38d476", checked := Try.checked }
namespace Rows
def none {H : Type} : Left H := { results := [], args := [] }

/-- 'fairwaylaw05.PortsReads': WHATEVER THE INPUT: true; the input reads as it did. -/
def portsReadsSpec : ChangeSpec := { name := "portsReads", fn := fun _ => fun
  | [d1, d2] => { results := [.lit (.bool true)], args := [d1, d2] }
  | _ => none }
def portsReadsRow : OpenClaim := { program := "ytnjbnnceeecekaa", sum := "f8c7f4cc991c16c6fa582649da6b98f26288cb550b0a06839305c29d4e38d476", func := "fairway/fairwaylaw05.PortsReads", spec := "portsReads", unfollowed := true, recurses := true, apart := false }
def PortsReadsSaid : Prop := portsReadsRow.holds Try.pinned (OpenSpec.ofChange portsReadsSpec)

/-- ITS FALSE NEIGHBOUR: 'it returns false'. Refute it at one input. -/
def portsReadsWrong : ChangeSpec := { name := "portsReads", fn := fun _ => fun
  | [d1, d2] => { results := [.lit (.bool false)], args := [d1, d2] }
  | _ => none }
def PortsReadsWrongFalsely : Prop := portsReadsRow.holds Try.pinned (OpenSpec.ofChange portsReadsWrong)

/-- 'fairwaylaw05.PortsCuts': WHATEVER THE INPUT: true; the input reads as it did. -/
def portsCutsSpec : ChangeSpec := { name := "portsCuts", fn := fun _ => fun
  | [d1, d2] => { results := [.lit (.bool true)], args := [d1, d2] }
  | _ => none }
def portsCutsRow : OpenClaim := { program := "ytnjbnnceeecekaa", sum := "f8c7f4cc991c16c6fa582649da6b98f26288cb550b0a06839305c29d4e38d476", func := "fairway/fairwaylaw05.PortsCuts", spec := "portsCuts", unfollowed := true, recurses := true, apart := false }
def PortsCutsSaid : Prop := portsCutsRow.holds Try.pinned (OpenSpec.ofChange portsCutsSpec)

/-- ITS FALSE NEIGHBOUR: 'it returns false'. Refute it at one input. -/
def portsCutsWrong : ChangeSpec := { name := "portsCuts", fn := fun _ => fun
  | [d1, d2] => { results := [.lit (.bool false)], args := [d1, d2] }
  | _ => none }
def PortsCutsWrongFalsely : Prop := portsCutsRow.holds Try.pinned (OpenSpec.ofChange portsCutsWrong)

/-- 'fairwaylaw05.PortsBack': WHATEVER THE INPUT: true; the input reads as it did. -/
def portsBackSpec : ChangeSpec := { name := "portsBack", fn := fun _ => fun
  | [d1, d2, d3] => { results := [.lit (.bool true)], args := [d1, d2, d3] }
  | _ => none }
def portsBackRow : OpenClaim := { program := "ytnjbnnceeecekaa", sum := "f8c7f4cc991c16c6fa582649da6b98f26288cb550b0a06839305c29d4e38d476", func := "fairway/fairwaylaw05.PortsBack", spec := "portsBack", unfollowed := true, recurses := true, apart := false }
def PortsBackSaid : Prop := portsBackRow.holds Try.pinned (OpenSpec.ofChange portsBackSpec)

/-- ITS FALSE NEIGHBOUR: 'it returns false'. Refute it at one input. -/
def portsBackWrong : ChangeSpec := { name := "portsBack", fn := fun _ => fun
  | [d1, d2, d3] => { results := [.lit (.bool false)], args := [d1, d2, d3] }
  | _ => none }
def PortsBackWrongFalsely : Prop := portsBackRow.holds Try.pinned (OpenSpec.ofChange portsBackWrong)

/-- 'fairwaylaw06.TunnelLong': WHATEVER THE INPUT: true; the input reads as it did. -/
def tunnelLongSpec : ChangeSpec := { name := "tunnelLong", fn := fun _ => fun
  | [d1, d2] => { results := [.lit (.bool true)], args := [d1, d2] }
  | _ => none }
def tunnelLongRow : OpenClaim := { program := "ytnjbnnceeecekaa", sum := "f8c7f4cc991c16c6fa582649da6b98f26288cb550b0a06839305c29d4e38d476", func := "fairway/fairwaylaw06.TunnelLong", spec := "tunnelLong", unfollowed := true, recurses := true, apart := false }
def TunnelLongSaid : Prop := tunnelLongRow.holds Try.pinned (OpenSpec.ofChange tunnelLongSpec)

/-- ITS FALSE NEIGHBOUR: 'it returns false'. Refute it at one input. -/
def tunnelLongWrong : ChangeSpec := { name := "tunnelLong", fn := fun _ => fun
  | [d1, d2] => { results := [.lit (.bool false)], args := [d1, d2] }
  | _ => none }
def TunnelLongWrongFalsely : Prop := tunnelLongRow.holds Try.pinned (OpenSpec.ofChange tunnelLongWrong)

/-- 'fairwaylaw06.TunnelAll': WHATEVER THE INPUT: true; the input reads as it did. -/
def tunnelAllSpec : ChangeSpec := { name := "tunnelAll", fn := fun _ => fun
  | [d1, d2, d3] => { results := [.lit (.bool true)], args := [d1, d2, d3] }
  | _ => none }
def tunnelAllRow : OpenClaim := { program := "ytnjbnnceeecekaa", sum := "f8c7f4cc991c16c6fa582649da6b98f26288cb550b0a06839305c29d4e38d476", func := "fairway/fairwaylaw06.TunnelAll", spec := "tunnelAll", unfollowed := true, recurses := true, apart := false }
def TunnelAllSaid : Prop := tunnelAllRow.holds Try.pinned (OpenSpec.ofChange tunnelAllSpec)

/-- ITS FALSE NEIGHBOUR: 'it returns false'. Refute it at one input. -/
def tunnelAllWrong : ChangeSpec := { name := "tunnelAll", fn := fun _ => fun
  | [d1, d2, d3] => { results := [.lit (.bool false)], args := [d1, d2, d3] }
  | _ => none }
def TunnelAllWrongFalsely : Prop := tunnelAllRow.holds Try.pinned (OpenSpec.ofChange tunnelAllWrong)

/-- 'fairwaylaw06.TunnelBack': WHATEVER THE INPUT: true; the input reads as it did. -/
def tunnelBackSpec : ChangeSpec := { name := "tunnelBack", fn := fun _ => fun
  | [d1, d2, d3] => { results := [.lit (.bool true)], args := [d1, d2, d3] }
  | _ => none }
def tunnelBackRow : OpenClaim := { program := "ytnjbnnceeecekaa", sum := "f8c7f4cc991c16c6fa582649da6b98f26288cb550b0a06839305c29d4e38d476", func := "fairway/fairwaylaw06.TunnelBack", spec := "tunnelBack", unfollowed := true, recurses := true, apart := false }
def TunnelBackSaid : Prop := tunnelBackRow.holds Try.pinned (OpenSpec.ofChange tunnelBackSpec)

/-- ITS FALSE NEIGHBOUR: 'it returns false'. Refute it at one input. -/
def tunnelBackWrong : ChangeSpec := { name := "tunnelBack", fn := fun _ => fun
  | [d1, d2, d3] => { results := [.lit (.bool false)], args := [d1, d2, d3] }
  | _ => none }
def TunnelBackWrongFalsely : Prop := tunnelBackRow.holds Try.pinned (OpenSpec.ofChange tunnelBackWrong)

/- THE SECOND FORM. 'bulk': how many values and letters a reading holds, each counted each time it is reached (what is shared counts as often as it is met; a slice's spare places count too). A statement '..UptoSaid' is the law's where the arguments, and the package variables that the reading takes, are together of bulk at most 1048576: NARROWER than '..Said'. Prove '..Said' where nothing that the law and all that it calls make is longer than what came in: it says more and counts as full. Else prove '..UptoSaid'. A law counts once. -/
mutual
def uptoBulk {H : Type} : DataW H → Nat
  | .lit (.string bytes) => bytes.length + 1
  | .lit _ => 1
  | .nil => 1
  | .ptr d => uptoBulk d + 1
  | .slice elems spare => uptoBulkAll elems + uptoBulkAll spare + 1
  | .agg parts => uptoBulkAll parts + 1
  | .iface _ d => uptoBulk d + 1
  | .map entries => uptoBulkEntries entries + 1
  | .held _ => 1
def uptoBulkAll {H : Type} : List (DataW H) → Nat
  | [] => 0
  | d :: r => uptoBulk d + uptoBulkAll r
def uptoBulkEntries {H : Type} : List (Lit × DataW H) → Nat
  | [] => 0
  | x :: r => uptoBulkEntry x + uptoBulkEntries r
def uptoBulkEntry {H : Type} : Lit × DataW H → Nat
  | (.string bytes, d) => bytes.length + uptoBulk d + 1
  | (_, d) => uptoBulk d + 1
 end
def uptoSmall : (H : Type) → List (DataW H) → Bool := fun _ ds => decide (uptoBulkAll ds ≤ 1048576)
def OpenSpec.upto (s : _root_.Go.ChangeSpec) : _root_.Go.OpenSpec := { _root_.Go.OpenSpec.ofChange s with cond := some uptoSmall }

/-- 'fairwaylaw05.PortsReads', WHERE WHAT IT READS IS OF BULK AT MOST 1048576: true; the input reads as it did. -/
def portsReadsUptoRow : OpenClaim := { program := "ytnjbnnceeecekaa", sum := "f8c7f4cc991c16c6fa582649da6b98f26288cb550b0a06839305c29d4e38d476", func := "fairway/fairwaylaw05.PortsReads", spec := "portsReads", unfollowed := true, recurses := true, apart := false, narrowed := true }
def PortsReadsUptoSaid : Prop := portsReadsUptoRow.holds Try.pinned (OpenSpec.upto portsReadsSpec)

/-- 'fairwaylaw05.PortsCuts', WHERE WHAT IT READS IS OF BULK AT MOST 1048576: true; the input reads as it did. -/
def portsCutsUptoRow : OpenClaim := { program := "ytnjbnnceeecekaa", sum := "f8c7f4cc991c16c6fa582649da6b98f26288cb550b0a06839305c29d4e38d476", func := "fairway/fairwaylaw05.PortsCuts", spec := "portsCuts", unfollowed := true, recurses := true, apart := false, narrowed := true }
def PortsCutsUptoSaid : Prop := portsCutsUptoRow.holds Try.pinned (OpenSpec.upto portsCutsSpec)

/-- 'fairwaylaw05.PortsBack', WHERE WHAT IT READS IS OF BULK AT MOST 1048576: true; the input reads as it did. -/
def portsBackUptoRow : OpenClaim := { program := "ytnjbnnceeecekaa", sum := "f8c7f4cc991c16c6fa582649da6b98f26288cb550b0a06839305c29d4e38d476", func := "fairway/fairwaylaw05.PortsBack", spec := "portsBack", unfollowed := true, recurses := true, apart := false, narrowed := true }
def PortsBackUptoSaid : Prop := portsBackUptoRow.holds Try.pinned (OpenSpec.upto portsBackSpec)

/-- 'fairwaylaw06.TunnelLong', WHERE WHAT IT READS IS OF BULK AT MOST 1048576: true; the input reads as it did. -/
def tunnelLongUptoRow : OpenClaim := { program := "ytnjbnnceeecekaa", sum := "f8c7f4cc991c16c6fa582649da6b98f26288cb550b0a06839305c29d4e38d476", func := "fairway/fairwaylaw06.TunnelLong", spec := "tunnelLong", unfollowed := true, recurses := true, apart := false, narrowed := true }
def TunnelLongUptoSaid : Prop := tunnelLongUptoRow.holds Try.pinned (OpenSpec.upto tunnelLongSpec)

/-- 'fairwaylaw06.TunnelAll', WHERE WHAT IT READS IS OF BULK AT MOST 1048576: true; the input reads as it did. -/
def tunnelAllUptoRow : OpenClaim := { program := "ytnjbnnceeecekaa", sum := "f8c7f4cc991c16c6fa582649da6b98f26288cb550b0a06839305c29d4e38d476", func := "fairway/fairwaylaw06.TunnelAll", spec := "tunnelAll", unfollowed := true, recurses := true, apart := false, narrowed := true }
def TunnelAllUptoSaid : Prop := tunnelAllUptoRow.holds Try.pinned (OpenSpec.upto tunnelAllSpec)

/-- 'fairwaylaw06.TunnelBack', WHERE WHAT IT READS IS OF BULK AT MOST 1048576: true; the input reads as it did. -/
def tunnelBackUptoRow : OpenClaim := { program := "ytnjbnnceeecekaa", sum := "f8c7f4cc991c16c6fa582649da6b98f26288cb550b0a06839305c29d4e38d476", func := "fairway/fairwaylaw06.TunnelBack", spec := "tunnelBack", unfollowed := true, recurses := true, apart := false, narrowed := true }
def TunnelBackUptoSaid : Prop := tunnelBackUptoRow.holds Try.pinned (OpenSpec.upto tunnelBackSpec)

end Rows
end Go.Proofs.Ytnjbnnceeecekaa
