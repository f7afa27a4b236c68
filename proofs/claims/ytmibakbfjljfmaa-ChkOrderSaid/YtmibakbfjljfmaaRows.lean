/-
  No cell of these rows narrows 'for every input' (looked for: loops, veiled, ifaces, maps, wideKeys, modest, calm, conditions, laid).
  DERIVED. THE GIVEN ROWS OF THIS SEAT. 5 by the template 'for every input the law returns true; each argument reads behind the call as it read before'; 0 by the template 'total and deterministic' (their statements: YtmibakbfjljfmaaTotals.lean).
  GIVEN WITH THE SEED: the statements are not yours to turn. If you find one false, say at which input.
  Laid BY PROGRAM, IN A SANDBOX (cutbox-rows.mjs): the forced cells as the released guide's own fill.sh prints them over the translation 184ae23fbdc530ee… (all of the seat's roots in one cut). By AI agents, Wed Nov 11 2026. No macro, syntax, notation, axiom, sorry.
-/
import Derived.Test.YtmibakbfjljfmaaChecked
import GoSem.Claim
import GoSem.ClaimJoined
import GoSem.ClaimMapViews
import Derived.JoinedTies
import Derived.KernelRfl
namespace Go.Proofs.Ytmibakbfjljfmaa
/- THE CELL 'sum', in the pinned program and in every row, IS THE sha256 OF THE DUMP (.gsa) THAT YtmibakbfjljfmaaProg.lean LOADS. Nothing in Lean hashes anything: it is a label: what it is worth is what the hold of that sum in a sandbox is worth. -/
noncomputable def Try.pinned : Pinned := { name := "ytmibakbfjljfmaa", sum := "184ae23fbdc530eed86ab6646ba089fa1403a2e366f18666df4b2286e8fabd94", checked := Try.checked }
namespace Rows
def none {H : Type} : Left H := { results := [], args := [] }

/-- 'fairwaylaw02.ChkSums': WHATEVER THE INPUT: true; the input reads as it did. -/
def chkSumsSpec : ChangeSpec := { name := "chkSums", fn := fun _ => fun
  | [d] => { results := [.lit (.bool true)], args := [d] }
  | _ => none }
def chkSumsRow : OpenClaim := { program := "ytmibakbfjljfmaa", sum := "184ae23fbdc530eed86ab6646ba089fa1403a2e366f18666df4b2286e8fabd94", func := "fairway/fairwaylaw02.ChkSums", spec := "chkSums", unfollowed := true, recurses := true, apart := false }
def ChkSumsSaid : Prop := chkSumsRow.holds Try.pinned (OpenSpec.ofChange chkSumsSpec)

/-- ITS FALSE NEIGHBOUR: 'it returns false'. Refute it at one input. -/
def chkSumsWrong : ChangeSpec := { name := "chkSums", fn := fun _ => fun
  | [d] => { results := [.lit (.bool false)], args := [d] }
  | _ => none }
def ChkSumsWrongFalsely : Prop := chkSumsRow.holds Try.pinned (OpenSpec.ofChange chkSumsWrong)

/-- 'fairwaylaw02.ChkSeals': WHATEVER THE INPUT: true; the input reads as it did. -/
def chkSealsSpec : ChangeSpec := { name := "chkSeals", fn := fun _ => fun
  | [d1, d2, d3] => { results := [.lit (.bool true)], args := [d1, d2, d3] }
  | _ => none }
def chkSealsRow : OpenClaim := { program := "ytmibakbfjljfmaa", sum := "184ae23fbdc530eed86ab6646ba089fa1403a2e366f18666df4b2286e8fabd94", func := "fairway/fairwaylaw02.ChkSeals", spec := "chkSeals", unfollowed := true, recurses := true, apart := false }
def ChkSealsSaid : Prop := chkSealsRow.holds Try.pinned (OpenSpec.ofChange chkSealsSpec)

/-- ITS FALSE NEIGHBOUR: 'it returns false'. Refute it at one input. -/
def chkSealsWrong : ChangeSpec := { name := "chkSeals", fn := fun _ => fun
  | [d1, d2, d3] => { results := [.lit (.bool false)], args := [d1, d2, d3] }
  | _ => none }
def ChkSealsWrongFalsely : Prop := chkSealsRow.holds Try.pinned (OpenSpec.ofChange chkSealsWrong)

/-- 'fairwaylaw02.ChkOrder': WHATEVER THE INPUT: true; the input reads as it did. -/
def chkOrderSpec : ChangeSpec := { name := "chkOrder", fn := fun _ => fun
  | [d1, d2] => { results := [.lit (.bool true)], args := [d1, d2] }
  | _ => none }
def chkOrderRow : OpenClaim := { program := "ytmibakbfjljfmaa", sum := "184ae23fbdc530eed86ab6646ba089fa1403a2e366f18666df4b2286e8fabd94", func := "fairway/fairwaylaw02.ChkOrder", spec := "chkOrder", unfollowed := true, recurses := true, apart := false }
def ChkOrderSaid : Prop := chkOrderRow.holds Try.pinned (OpenSpec.ofChange chkOrderSpec)

/-- ITS FALSE NEIGHBOUR: 'it returns false'. Refute it at one input. -/
def chkOrderWrong : ChangeSpec := { name := "chkOrder", fn := fun _ => fun
  | [d1, d2] => { results := [.lit (.bool false)], args := [d1, d2] }
  | _ => none }
def ChkOrderWrongFalsely : Prop := chkOrderRow.holds Try.pinned (OpenSpec.ofChange chkOrderWrong)

/-- 'fairwaylaw02.ChkUpdates': WHATEVER THE INPUT: true; the input reads as it did. -/
def chkUpdatesSpec : ChangeSpec := { name := "chkUpdates", fn := fun _ => fun
  | [d1, d2, d3] => { results := [.lit (.bool true)], args := [d1, d2, d3] }
  | _ => none }
def chkUpdatesRow : OpenClaim := { program := "ytmibakbfjljfmaa", sum := "184ae23fbdc530eed86ab6646ba089fa1403a2e366f18666df4b2286e8fabd94", func := "fairway/fairwaylaw02.ChkUpdates", spec := "chkUpdates", unfollowed := true, recurses := true, apart := false }
def ChkUpdatesSaid : Prop := chkUpdatesRow.holds Try.pinned (OpenSpec.ofChange chkUpdatesSpec)

/-- ITS FALSE NEIGHBOUR: 'it returns false'. Refute it at one input. -/
def chkUpdatesWrong : ChangeSpec := { name := "chkUpdates", fn := fun _ => fun
  | [d1, d2, d3] => { results := [.lit (.bool false)], args := [d1, d2, d3] }
  | _ => none }
def ChkUpdatesWrongFalsely : Prop := chkUpdatesRow.holds Try.pinned (OpenSpec.ofChange chkUpdatesWrong)

/-- 'fairwaylaw02.ChkAdds': WHATEVER THE INPUT: true; the input reads as it did. -/
def chkAddsSpec : ChangeSpec := { name := "chkAdds", fn := fun _ => fun
  | [d1, d2, d3] => { results := [.lit (.bool true)], args := [d1, d2, d3] }
  | _ => none }
def chkAddsRow : OpenClaim := { program := "ytmibakbfjljfmaa", sum := "184ae23fbdc530eed86ab6646ba089fa1403a2e366f18666df4b2286e8fabd94", func := "fairway/fairwaylaw02.ChkAdds", spec := "chkAdds", unfollowed := true, recurses := true, apart := false }
def ChkAddsSaid : Prop := chkAddsRow.holds Try.pinned (OpenSpec.ofChange chkAddsSpec)

/-- ITS FALSE NEIGHBOUR: 'it returns false'. Refute it at one input. -/
def chkAddsWrong : ChangeSpec := { name := "chkAdds", fn := fun _ => fun
  | [d1, d2, d3] => { results := [.lit (.bool false)], args := [d1, d2, d3] }
  | _ => none }
def ChkAddsWrongFalsely : Prop := chkAddsRow.holds Try.pinned (OpenSpec.ofChange chkAddsWrong)

/- THE SECOND FORM. 'bulk': how many values and letters a reading holds, each counted each time it is reached (what is shared counts as often as it is met; a slice's spare places count too). A statement '..UptoSaid' is the law's where the arguments, and the package variables that the reading takes, are together of bulk at most 1048576: NARROWER than '..Said'. Prove '..Said' where nothing that the law and all that it calls make is longer than what came in: it says more and counts as full. Else prove '..UptoSaid'. A law counts once. -/
mutual
def uptoBulk {H : Type} : DataW H → Nat
  | .lit (.string bytes) => bytes.length + 1
  | .lit _ => 1
  | .nil => 1
  | .ptr d => uptoBulk d + 1
  | .slice elems spare => uptoBulkAll elems + uptoBulkAll spare + 1
  | .agg parts => uptoBulkAll parts + 1
  | .iface _ d => uptoBulk d + 1
  | .map entries => uptoBulkEntries entries + 1
  | .held _ => 1
def uptoBulkAll {H : Type} : List (DataW H) → Nat
  | [] => 0
  | d :: r => uptoBulk d + uptoBulkAll r
def uptoBulkEntries {H : Type} : List (Lit × DataW H) → Nat
  | [] => 0
  | x :: r => uptoBulkEntry x + uptoBulkEntries r
def uptoBulkEntry {H : Type} : Lit × DataW H → Nat
  | (.string bytes, d) => bytes.length + uptoBulk d + 1
  | (_, d) => uptoBulk d + 1
 end
def uptoSmall : (H : Type) → List (DataW H) → Bool := fun _ ds => decide (uptoBulkAll ds ≤ 1048576)
def OpenSpec.upto (s : _root_.Go.ChangeSpec) : _root_.Go.OpenSpec := { _root_.Go.OpenSpec.ofChange s with cond := some uptoSmall }

/-- 'fairwaylaw02.ChkSums', WHERE WHAT IT READS IS OF BULK AT MOST 1048576: true; the input reads as it did. -/
def chkSumsUptoRow : OpenClaim := { program := "ytmibakbfjljfmaa", sum := "184ae23fbdc530eed86ab6646ba089fa1403a2e366f18666df4b2286e8fabd94", func := "fairway/fairwaylaw02.ChkSums", spec := "chkSums", unfollowed := true, recurses := true, apart := false, narrowed := true }
def ChkSumsUptoSaid : Prop := chkSumsUptoRow.holds Try.pinned (OpenSpec.upto chkSumsSpec)

/-- 'fairwaylaw02.ChkSeals', WHERE WHAT IT READS IS OF BULK AT MOST 1048576: true; the input reads as it did. -/
def chkSealsUptoRow : OpenClaim := { program := "ytmibakbfjljfmaa", sum := "184ae23fbdc530eed86ab6646ba089fa1403a2e366f18666df4b2286e8fabd94", func := "fairway/fairwaylaw02.ChkSeals", spec := "chkSeals", unfollowed := true, recurses := true, apart := false, narrowed := true }
def ChkSealsUptoSaid : Prop := chkSealsUptoRow.holds Try.pinned (OpenSpec.upto chkSealsSpec)

/-- 'fairwaylaw02.ChkOrder', WHERE WHAT IT READS IS OF BULK AT MOST 1048576: true; the input reads as it did. -/
def chkOrderUptoRow : OpenClaim := { program := "ytmibakbfjljfmaa", sum := "184ae23fbdc530eed86ab6646ba089fa1403a2e366f18666df4b2286e8fabd94", func := "fairway/fairwaylaw02.ChkOrder", spec := "chkOrder", unfollowed := true, recurses := true, apart := false, narrowed := true }
def ChkOrderUptoSaid : Prop := chkOrderUptoRow.holds Try.pinned (OpenSpec.upto chkOrderSpec)

/-- 'fairwaylaw02.ChkUpdates', WHERE WHAT IT READS IS OF BULK AT MOST 1048576: true; the input reads as it did. -/
def chkUpdatesUptoRow : OpenClaim := { program := "ytmibakbfjljfmaa", sum := "184ae23fbdc530eed86ab6646ba089fa1403a2e366f18666df4b2286e8fabd94", func := "fairway/fairwaylaw02.ChkUpdates", spec := "chkUpdates", unfollowed := true, recurses := true, apart := false, narrowed := true }
def ChkUpdatesUptoSaid : Prop := chkUpdatesUptoRow.holds Try.pinned (OpenSpec.upto chkUpdatesSpec)

/-- 'fairwaylaw02.ChkAdds', WHERE WHAT IT READS IS OF BULK AT MOST 1048576: true; the input reads as it did. -/
def chkAddsUptoRow : OpenClaim := { program := "ytmibakbfjljfmaa", sum := "184ae23fbdc530eed86ab6646ba089fa1403a2e366f18666df4b2286e8fabd94", func := "fairway/fairwaylaw02.ChkAdds", spec := "chkAdds", unfollowed := true, recurses := true, apart := false, narrowed := true }
def ChkAddsUptoSaid : Prop := chkAddsUptoRow.holds Try.pinned (OpenSpec.upto chkAddsSpec)

end Rows
end Go.Proofs.Ytmibakbfjljfmaa
