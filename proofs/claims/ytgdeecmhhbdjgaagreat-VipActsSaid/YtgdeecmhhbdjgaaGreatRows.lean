/-
  No cell of these rows narrows 'for every input' (looked for: loops, veiled, ifaces, maps, wideKeys, modest, calm, conditions, laid).
  DERIVED. THE GIVEN ROWS OF THIS SEAT. 4 by the template 'for every input the law returns true; each argument reads behind the call as it read before'; 0 by the template 'total and deterministic' (their statements: YtgdeecmhhbdjgaaGreatTotals.lean).
  GIVEN WITH THE SEED: the statements are not yours to turn. If you find one false, say at which input.
  Laid BY PROGRAM, IN A SANDBOX (cutbox-rows.mjs): the forced cells as the released guide's own fill.sh prints them over the translation a07c67c317d03daf… (all of the seat's roots in one cut). By AI agents, Wed Nov 11 2026. No macro, syntax, notation, axiom, sorry.
-/
import Derived.Test.YtgdeecmhhbdjgaaGreatChecked
import GoSem.Claim
import GoSem.ClaimJoined
import GoSem.ClaimMapViews
import Derived.JoinedTies
import Derived.KernelRfl
namespace Go.Proofs.YtgdeecmhhbdjgaaGreat
/- THE CELL 'sum', in the pinned program and in every row, IS THE sha256 OF THE DUMP (.gsa) THAT YtgdeecmhhbdjgaaGreatProg.lean LOADS. Nothing in Lean hashes anything: it is a label: what it is worth is what the hold of that sum in a sandbox is worth. -/
noncomputable def Tryz.pinned : Pinned := { name := "ytgdeecmhhbdjgaagreat", sum := "a07c67c317d03daf58e30adf350dfe0645bce5a6bb6d1974547b7c23c21a89f0", checked := Tryz.checked }
namespace Rows
def none {H : Type} : Left H := { results := [], args := [] }

/-- 'fairwaylaw32.ConfigForms': WHATEVER THE INPUT: true; the input reads as it did. -/
def configFormsSpec : ChangeSpec := { name := "configForms", fn := fun _ => fun
  | [d1, d2, d3] => { results := [.lit (.bool true)], args := [d1, d2, d3] }
  | _ => none }
def configFormsRow : OpenClaim := { program := "ytgdeecmhhbdjgaagreat", sum := "a07c67c317d03daf58e30adf350dfe0645bce5a6bb6d1974547b7c23c21a89f0", func := "fairway/fairwaylaw32.ConfigForms", spec := "configForms", unfollowed := true, recurses := true, plainKeys := false, apart := false }
def ConfigFormsSaid : Prop := configFormsRow.holds Tryz.pinned (OpenSpec.ofChange configFormsSpec)

/-- ITS FALSE NEIGHBOUR: 'it returns false'. Refute it at one input. -/
def configFormsWrong : ChangeSpec := { name := "configForms", fn := fun _ => fun
  | [d1, d2, d3] => { results := [.lit (.bool false)], args := [d1, d2, d3] }
  | _ => none }
def ConfigFormsWrongFalsely : Prop := configFormsRow.holds Tryz.pinned (OpenSpec.ofChange configFormsWrong)

/-- 'fairwaylaw33.VipNone': WHATEVER THE INPUT: true; the input reads as it did. -/
def vipNoneSpec : ChangeSpec := { name := "vipNone", fn := fun _ => fun
  | [d] => { results := [.lit (.bool true)], args := [d] }
  | _ => none }
def vipNoneRow : OpenClaim := { program := "ytgdeecmhhbdjgaagreat", sum := "a07c67c317d03daf58e30adf350dfe0645bce5a6bb6d1974547b7c23c21a89f0", func := "fairway/fairwaylaw33.VipNone", spec := "vipNone", inPlace := ["maps.clone"], unfollowed := true, recurses := true, plainKeys := false, apart := false }
def VipNoneSaid : Prop := vipNoneRow.holds Tryz.pinned (OpenSpec.ofChange vipNoneSpec)

/-- ITS FALSE NEIGHBOUR: 'it returns false'. Refute it at one input. -/
def vipNoneWrong : ChangeSpec := { name := "vipNone", fn := fun _ => fun
  | [d] => { results := [.lit (.bool false)], args := [d] }
  | _ => none }
def VipNoneWrongFalsely : Prop := vipNoneRow.holds Tryz.pinned (OpenSpec.ofChange vipNoneWrong)

/-- 'fairwaylaw33.VipActs': WHATEVER THE INPUT: true; the input reads as it did. -/
def vipActsSpec : ChangeSpec := { name := "vipActs", fn := fun _ => fun
  | [d1, d2, d3] => { results := [.lit (.bool true)], args := [d1, d2, d3] }
  | _ => none }
def vipActsRow : OpenClaim := { program := "ytgdeecmhhbdjgaagreat", sum := "a07c67c317d03daf58e30adf350dfe0645bce5a6bb6d1974547b7c23c21a89f0", func := "fairway/fairwaylaw33.VipActs", spec := "vipActs", inPlace := ["maps.clone"], unfollowed := true, recurses := true, plainKeys := false, apart := false }
def VipActsSaid : Prop := vipActsRow.holds Tryz.pinned (OpenSpec.ofChange vipActsSpec)

/-- ITS FALSE NEIGHBOUR: 'it returns false'. Refute it at one input. -/
def vipActsWrong : ChangeSpec := { name := "vipActs", fn := fun _ => fun
  | [d1, d2, d3] => { results := [.lit (.bool false)], args := [d1, d2, d3] }
  | _ => none }
def VipActsWrongFalsely : Prop := vipActsRow.holds Tryz.pinned (OpenSpec.ofChange vipActsWrong)

/-- 'fairwaylaw33.VipReturns': WHATEVER THE INPUT: true; the input reads as it did. -/
def vipReturnsSpec : ChangeSpec := { name := "vipReturns", fn := fun _ => fun
  | [d1, d2, d3] => { results := [.lit (.bool true)], args := [d1, d2, d3] }
  | _ => none }
def vipReturnsRow : OpenClaim := { program := "ytgdeecmhhbdjgaagreat", sum := "a07c67c317d03daf58e30adf350dfe0645bce5a6bb6d1974547b7c23c21a89f0", func := "fairway/fairwaylaw33.VipReturns", spec := "vipReturns", unfollowed := true, recurses := true, plainKeys := false, apart := false }
def VipReturnsSaid : Prop := vipReturnsRow.holds Tryz.pinned (OpenSpec.ofChange vipReturnsSpec)

/-- ITS FALSE NEIGHBOUR: 'it returns false'. Refute it at one input. -/
def vipReturnsWrong : ChangeSpec := { name := "vipReturns", fn := fun _ => fun
  | [d1, d2, d3] => { results := [.lit (.bool false)], args := [d1, d2, d3] }
  | _ => none }
def VipReturnsWrongFalsely : Prop := vipReturnsRow.holds Tryz.pinned (OpenSpec.ofChange vipReturnsWrong)

/- THE SECOND FORM. 'bulk': how many values and letters a reading holds, each counted each time it is reached (what is shared counts as often as it is met; a slice's spare places count too). A statement '..UptoSaid' is the law's where the arguments, and the package variables that the reading takes, are together of bulk at most 1048576: NARROWER than '..Said'. Prove '..Said' where nothing that the law and all that it calls make is longer than what came in: it says more and counts as full. Else prove '..UptoSaid'. A law counts once. -/
mutual
def uptoBulk {H : Type} : DataW H → Nat
  | .lit (.string bytes) => bytes.length + 1
  | .lit _ => 1
  | .nil => 1
  | .ptr d => uptoBulk d + 1
  | .slice elems spare => uptoBulkAll elems + uptoBulkAll spare + 1
  | .agg parts => uptoBulkAll parts + 1
  | .iface _ d => uptoBulk d + 1
  | .map entries => uptoBulkEntries entries + 1
  | .held _ => 1
def uptoBulkAll {H : Type} : List (DataW H) → Nat
  | [] => 0
  | d :: r => uptoBulk d + uptoBulkAll r
def uptoBulkEntries {H : Type} : List (Lit × DataW H) → Nat
  | [] => 0
  | x :: r => uptoBulkEntry x + uptoBulkEntries r
def uptoBulkEntry {H : Type} : Lit × DataW H → Nat
  | (.string bytes, d) => bytes.length + uptoBulk d + 1
  | (_, d) => uptoBulk d + 1
 end
def uptoSmall : (H : Type) → List (DataW H) → Bool := fun _ ds => decide (uptoBulkAll ds ≤ 1048576)
def OpenSpec.upto (s : _root_.Go.ChangeSpec) : _root_.Go.OpenSpec := { _root_.Go.OpenSpec.ofChange s with cond := some uptoSmall }

/-- 'fairwaylaw32.ConfigForms', WHERE WHAT IT READS IS OF BULK AT MOST 1048576: true; the input reads as it did. -/
def configFormsUptoRow : OpenClaim := { program := "ytgdeecmhhbdjgaagreat", sum := "a07c67c317d03daf58e30adf350dfe0645bce5a6bb6d1974547b7c23c21a89f0", func := "fairway/fairwaylaw32.ConfigForms", spec := "configForms", unfollowed := true, recurses := true, plainKeys := false, apart := false, narrowed := true }
def ConfigFormsUptoSaid : Prop := configFormsUptoRow.holds Tryz.pinned (OpenSpec.upto configFormsSpec)

/-- 'fairwaylaw33.VipNone', WHERE WHAT IT READS IS OF BULK AT MOST 1048576: true; the input reads as it did. -/
def vipNoneUptoRow : OpenClaim := { program := "ytgdeecmhhbdjgaagreat", sum := "a07c67c317d03daf58e30adf350dfe0645bce5a6bb6d1974547b7c23c21a89f0", func := "fairway/fairwaylaw33.VipNone", spec := "vipNone", inPlace := ["maps.clone"], unfollowed := true, recurses := true, plainKeys := false, apart := false, narrowed := true }
def VipNoneUptoSaid : Prop := vipNoneUptoRow.holds Tryz.pinned (OpenSpec.upto vipNoneSpec)

/-- 'fairwaylaw33.VipActs', WHERE WHAT IT READS IS OF BULK AT MOST 1048576: true; the input reads as it did. -/
def vipActsUptoRow : OpenClaim := { program := "ytgdeecmhhbdjgaagreat", sum := "a07c67c317d03daf58e30adf350dfe0645bce5a6bb6d1974547b7c23c21a89f0", func := "fairway/fairwaylaw33.VipActs", spec := "vipActs", inPlace := ["maps.clone"], unfollowed := true, recurses := true, plainKeys := false, apart := false, narrowed := true }
def VipActsUptoSaid : Prop := vipActsUptoRow.holds Tryz.pinned (OpenSpec.upto vipActsSpec)

/-- 'fairwaylaw33.VipReturns', WHERE WHAT IT READS IS OF BULK AT MOST 1048576: true; the input reads as it did. -/
def vipReturnsUptoRow : OpenClaim := { program := "ytgdeecmhhbdjgaagreat", sum := "a07c67c317d03daf58e30adf350dfe0645bce5a6bb6d1974547b7c23c21a89f0", func := "fairway/fairwaylaw33.VipReturns", spec := "vipReturns", unfollowed := true, recurses := true, plainKeys := false, apart := false, narrowed := true }
def VipReturnsUptoSaid : Prop := vipReturnsUptoRow.holds Tryz.pinned (OpenSpec.upto vipReturnsSpec)

end Rows
end Go.Proofs.YtgdeecmhhbdjgaaGreat
