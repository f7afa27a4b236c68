/-
  No cell of these rows narrows 'for every input' (looked for: loops, veiled, ifaces, maps, wideKeys, modest, calm, conditions, laid).
  DERIVED. THE GIVEN ROWS OF THIS SEAT. 13 by the template 'for every input the law returns true; each argument reads behind the call as it read before'; 0 by the template 'total and deterministic' (their statements: YtejgekoinbdhjaaTotals.lean).
  GIVEN WITH THE SEED: the statements are not yours to turn. If you find one false, say at which input.
  Laid BY PROGRAM, IN A SANDBOX (cutbox-rows.mjs): the forced cells as the released guide's own fill.sh prints them over the translation fe32583d84fcc6e1… (all of the seat's roots in one cut). By AI agents, Wed Nov 11 2026. No macro, syntax, notation, axiom, sorry.
-/
import Derived.Test.YtejgekoinbdhjaaChecked
import GoSem.Claim
import GoSem.ClaimJoined
import GoSem.ClaimMapViews
import Derived.JoinedTies
import Derived.KernelRfl
namespace Go.Proofs.Ytejgekoinbdhjaa
/- THE CELL 'sum', in the pinned program and in every row, IS THE sha256 OF THE DUMP (.gsa) THAT YtejgekoinbdhjaaProg.lean LOADS. Nothing in Lean hashes anything: it is a label: what it is worth is what the hold of that sum in a sandbox is worth. -/
noncomputable def Try.pinned : Pinned := { name := "ytejgekoinbdhjaa", sum := "fe32583d84fcc6e1e63b5f96034a946c5c0daad9d586ffd7f509b3157b7094ce", checked := Try.checked }
namespace Rows
def none {H : Type} : Left H := { results := [], args := [] }

/-- 'fairwaylaw25.PoolQuorum': WHATEVER THE INPUT: true; the input reads as it did. -/
def poolQuorumSpec : ChangeSpec := { name := "poolQuorum", fn := fun _ => fun
  | [d1, d2, d3] => { results := [.lit (.bool true)], args := [d1, d2, d3] }
  | _ => none }
def poolQuorumRow : OpenClaim := { program := "ytejgekoinbdhjaa", sum := "fe32583d84fcc6e1e63b5f96034a946c5c0daad9d586ffd7f509b3157b7094ce", func := "fairway/fairwaylaw25.PoolQuorum", spec := "poolQuorum", unfollowed := true, recurses := true, plainKeys := false, apart := false }
def PoolQuorumSaid : Prop := poolQuorumRow.holds Try.pinned (OpenSpec.ofChange poolQuorumSpec)

/-- ITS FALSE NEIGHBOUR: 'it returns false'. Refute it at one input. -/
def poolQuorumWrong : ChangeSpec := { name := "poolQuorum", fn := fun _ => fun
  | [d1, d2, d3] => { results := [.lit (.bool false)], args := [d1, d2, d3] }
  | _ => none }
def PoolQuorumWrongFalsely : Prop := poolQuorumRow.holds Try.pinned (OpenSpec.ofChange poolQuorumWrong)

/-- 'fairwaylaw25.PoolNone': WHATEVER THE INPUT: true; the input reads as it did. -/
def poolNoneSpec : ChangeSpec := { name := "poolNone", fn := fun _ => fun
  | [d] => { results := [.lit (.bool true)], args := [d] }
  | _ => none }
def poolNoneRow : OpenClaim := { program := "ytejgekoinbdhjaa", sum := "fe32583d84fcc6e1e63b5f96034a946c5c0daad9d586ffd7f509b3157b7094ce", func := "fairway/fairwaylaw25.PoolNone", spec := "poolNone", inPlace := ["maps.clone"], unfollowed := true, recurses := true, plainKeys := false, apart := false }
def PoolNoneSaid : Prop := poolNoneRow.holds Try.pinned (OpenSpec.ofChange poolNoneSpec)

/-- ITS FALSE NEIGHBOUR: 'it returns false'. Refute it at one input. -/
def poolNoneWrong : ChangeSpec := { name := "poolNone", fn := fun _ => fun
  | [d] => { results := [.lit (.bool false)], args := [d] }
  | _ => none }
def PoolNoneWrongFalsely : Prop := poolNoneRow.holds Try.pinned (OpenSpec.ofChange poolNoneWrong)

/-- 'fairwaylaw25.PoolRises': WHATEVER THE INPUT: true; the input reads as it did. -/
def poolRisesSpec : ChangeSpec := { name := "poolRises", fn := fun _ => fun
  | [d1, d2, d3] => { results := [.lit (.bool true)], args := [d1, d2, d3] }
  | _ => none }
def poolRisesRow : OpenClaim := { program := "ytejgekoinbdhjaa", sum := "fe32583d84fcc6e1e63b5f96034a946c5c0daad9d586ffd7f509b3157b7094ce", func := "fairway/fairwaylaw25.PoolRises", spec := "poolRises", unfollowed := true, recurses := true, plainKeys := false, apart := false }
def PoolRisesSaid : Prop := poolRisesRow.holds Try.pinned (OpenSpec.ofChange poolRisesSpec)

/-- ITS FALSE NEIGHBOUR: 'it returns false'. Refute it at one input. -/
def poolRisesWrong : ChangeSpec := { name := "poolRises", fn := fun _ => fun
  | [d1, d2, d3] => { results := [.lit (.bool false)], args := [d1, d2, d3] }
  | _ => none }
def PoolRisesWrongFalsely : Prop := poolRisesRow.holds Try.pinned (OpenSpec.ofChange poolRisesWrong)

/-- 'fairwaylaw25.PoolActs': WHATEVER THE INPUT: true; the input reads as it did. -/
def poolActsSpec : ChangeSpec := { name := "poolActs", fn := fun _ => fun
  | [d1, d2, d3] => { results := [.lit (.bool true)], args := [d1, d2, d3] }
  | _ => none }
def poolActsRow : OpenClaim := { program := "ytejgekoinbdhjaa", sum := "fe32583d84fcc6e1e63b5f96034a946c5c0daad9d586ffd7f509b3157b7094ce", func := "fairway/fairwaylaw25.PoolActs", spec := "poolActs", inPlace := ["maps.clone"], unfollowed := true, recurses := true, plainKeys := false, apart := false }
def PoolActsSaid : Prop := poolActsRow.holds Try.pinned (OpenSpec.ofChange poolActsSpec)

/-- ITS FALSE NEIGHBOUR: 'it returns false'. Refute it at one input. -/
def poolActsWrong : ChangeSpec := { name := "poolActs", fn := fun _ => fun
  | [d1, d2, d3] => { results := [.lit (.bool false)], args := [d1, d2, d3] }
  | _ => none }
def PoolActsWrongFalsely : Prop := poolActsRow.holds Try.pinned (OpenSpec.ofChange poolActsWrong)

/-- 'fairwaylaw29.FlowsIdle': WHATEVER THE INPUT: true; the input reads as it did. -/
def flowsIdleSpec : ChangeSpec := { name := "flowsIdle", fn := fun _ => fun
  | [d1, d2, d3] => { results := [.lit (.bool true)], args := [d1, d2, d3] }
  | _ => none }
def flowsIdleRow : OpenClaim := { program := "ytejgekoinbdhjaa", sum := "fe32583d84fcc6e1e63b5f96034a946c5c0daad9d586ffd7f509b3157b7094ce", func := "fairway/fairwaylaw29.FlowsIdle", spec := "flowsIdle", unfollowed := true, recurses := true, plainKeys := false, apart := false }
def FlowsIdleSaid : Prop := flowsIdleRow.holds Try.pinned (OpenSpec.ofChange flowsIdleSpec)

/-- ITS FALSE NEIGHBOUR: 'it returns false'. Refute it at one input. -/
def flowsIdleWrong : ChangeSpec := { name := "flowsIdle", fn := fun _ => fun
  | [d1, d2, d3] => { results := [.lit (.bool false)], args := [d1, d2, d3] }
  | _ => none }
def FlowsIdleWrongFalsely : Prop := flowsIdleRow.holds Try.pinned (OpenSpec.ofChange flowsIdleWrong)

/-- 'fairwaylaw29.FlowsNone': WHATEVER THE INPUT: true; the input reads as it did. -/
def flowsNoneSpec : ChangeSpec := { name := "flowsNone", fn := fun _ => fun
  | [d] => { results := [.lit (.bool true)], args := [d] }
  | _ => none }
def flowsNoneRow : OpenClaim := { program := "ytejgekoinbdhjaa", sum := "fe32583d84fcc6e1e63b5f96034a946c5c0daad9d586ffd7f509b3157b7094ce", func := "fairway/fairwaylaw29.FlowsNone", spec := "flowsNone", unfollowed := true, recurses := true, plainKeys := false, apart := false }
def FlowsNoneSaid : Prop := flowsNoneRow.holds Try.pinned (OpenSpec.ofChange flowsNoneSpec)

/-- ITS FALSE NEIGHBOUR: 'it returns false'. Refute it at one input. -/
def flowsNoneWrong : ChangeSpec := { name := "flowsNone", fn := fun _ => fun
  | [d] => { results := [.lit (.bool false)], args := [d] }
  | _ => none }
def FlowsNoneWrongFalsely : Prop := flowsNoneRow.holds Try.pinned (OpenSpec.ofChange flowsNoneWrong)

/-- 'fairwaylaw29.FlowsRoom': WHATEVER THE INPUT: true; the input reads as it did. -/
def flowsRoomSpec : ChangeSpec := { name := "flowsRoom", fn := fun _ => fun
  | [d1, d2] => { results := [.lit (.bool true)], args := [d1, d2] }
  | _ => none }
def flowsRoomRow : OpenClaim := { program := "ytejgekoinbdhjaa", sum := "fe32583d84fcc6e1e63b5f96034a946c5c0daad9d586ffd7f509b3157b7094ce", func := "fairway/fairwaylaw29.FlowsRoom", spec := "flowsRoom", unfollowed := true, recurses := true, plainKeys := false, apart := false }
def FlowsRoomSaid : Prop := flowsRoomRow.holds Try.pinned (OpenSpec.ofChange flowsRoomSpec)

/-- ITS FALSE NEIGHBOUR: 'it returns false'. Refute it at one input. -/
def flowsRoomWrong : ChangeSpec := { name := "flowsRoom", fn := fun _ => fun
  | [d1, d2] => { results := [.lit (.bool false)], args := [d1, d2] }
  | _ => none }
def FlowsRoomWrongFalsely : Prop := flowsRoomRow.holds Try.pinned (OpenSpec.ofChange flowsRoomWrong)

/-- 'fairwaylaw13.TimerTimes': WHATEVER THE INPUT: true; the input reads as it did. -/
def timerTimesSpec : ChangeSpec := { name := "timerTimes", fn := fun _ => fun
  | [d1, d2, d3] => { results := [.lit (.bool true)], args := [d1, d2, d3] }
  | _ => none }
def timerTimesRow : OpenClaim := { program := "ytejgekoinbdhjaa", sum := "fe32583d84fcc6e1e63b5f96034a946c5c0daad9d586ffd7f509b3157b7094ce", func := "fairway/fairwaylaw13.TimerTimes", spec := "timerTimes", unfollowed := true, recurses := true, plainKeys := false, apart := false }
def TimerTimesSaid : Prop := timerTimesRow.holds Try.pinned (OpenSpec.ofChange timerTimesSpec)

/-- ITS FALSE NEIGHBOUR: 'it returns false'. Refute it at one input. -/
def timerTimesWrong : ChangeSpec := { name := "timerTimes", fn := fun _ => fun
  | [d1, d2, d3] => { results := [.lit (.bool false)], args := [d1, d2, d3] }
  | _ => none }
def TimerTimesWrongFalsely : Prop := timerTimesRow.holds Try.pinned (OpenSpec.ofChange timerTimesWrong)

/-- 'fairwaylaw13.TimerNone': WHATEVER THE INPUT: true; the input reads as it did. -/
def timerNoneSpec : ChangeSpec := { name := "timerNone", fn := fun _ => fun
  | [d] => { results := [.lit (.bool true)], args := [d] }
  | _ => none }
def timerNoneRow : OpenClaim := { program := "ytejgekoinbdhjaa", sum := "fe32583d84fcc6e1e63b5f96034a946c5c0daad9d586ffd7f509b3157b7094ce", func := "fairway/fairwaylaw13.TimerNone", spec := "timerNone", inPlace := ["maps.clone"], unfollowed := true, recurses := true, plainKeys := false, apart := false }
def TimerNoneSaid : Prop := timerNoneRow.holds Try.pinned (OpenSpec.ofChange timerNoneSpec)

/-- ITS FALSE NEIGHBOUR: 'it returns false'. Refute it at one input. -/
def timerNoneWrong : ChangeSpec := { name := "timerNone", fn := fun _ => fun
  | [d] => { results := [.lit (.bool false)], args := [d] }
  | _ => none }
def TimerNoneWrongFalsely : Prop := timerNoneRow.holds Try.pinned (OpenSpec.ofChange timerNoneWrong)

/-- 'fairwaylaw13.TimerActs': WHATEVER THE INPUT: true; the input reads as it did. -/
def timerActsSpec : ChangeSpec := { name := "timerActs", fn := fun _ => fun
  | [d1, d2, d3] => { results := [.lit (.bool true)], args := [d1, d2, d3] }
  | _ => none }
def timerActsRow : OpenClaim := { program := "ytejgekoinbdhjaa", sum := "fe32583d84fcc6e1e63b5f96034a946c5c0daad9d586ffd7f509b3157b7094ce", func := "fairway/fairwaylaw13.TimerActs", spec := "timerActs", inPlace := ["maps.clone"], unfollowed := true, recurses := true, plainKeys := false, apart := false }
def TimerActsSaid : Prop := timerActsRow.holds Try.pinned (OpenSpec.ofChange timerActsSpec)

/-- ITS FALSE NEIGHBOUR: 'it returns false'. Refute it at one input. -/
def timerActsWrong : ChangeSpec := { name := "timerActs", fn := fun _ => fun
  | [d1, d2, d3] => { results := [.lit (.bool false)], args := [d1, d2, d3] }
  | _ => none }
def TimerActsWrongFalsely : Prop := timerActsRow.holds Try.pinned (OpenSpec.ofChange timerActsWrong)

/-- 'fairwaylaw24.ProbeNone': WHATEVER THE INPUT: true; the input reads as it did. -/
def probeNoneSpec : ChangeSpec := { name := "probeNone", fn := fun _ => fun
  | [d] => { results := [.lit (.bool true)], args := [d] }
  | _ => none }
def probeNoneRow : OpenClaim := { program := "ytejgekoinbdhjaa", sum := "fe32583d84fcc6e1e63b5f96034a946c5c0daad9d586ffd7f509b3157b7094ce", func := "fairway/fairwaylaw24.ProbeNone", spec := "probeNone", inPlace := ["sync/atomic.AddInt64", "maps.clone", "sync/atomic.LoadInt64", "sync/atomic.StoreInt64"], unfollowed := true, recurses := true, plainKeys := false, apart := false }
def ProbeNoneSaid : Prop := probeNoneRow.holds Try.pinned (OpenSpec.ofChange probeNoneSpec)

/-- ITS FALSE NEIGHBOUR: 'it returns false'. Refute it at one input. -/
def probeNoneWrong : ChangeSpec := { name := "probeNone", fn := fun _ => fun
  | [d] => { results := [.lit (.bool false)], args := [d] }
  | _ => none }
def ProbeNoneWrongFalsely : Prop := probeNoneRow.holds Try.pinned (OpenSpec.ofChange probeNoneWrong)

/-- 'fairwaylaw24.ProbeActs': WHATEVER THE INPUT: true; the input reads as it did. -/
def probeActsSpec : ChangeSpec := { name := "probeActs", fn := fun _ => fun
  | [d1, d2, d3] => { results := [.lit (.bool true)], args := [d1, d2, d3] }
  | _ => none }
def probeActsRow : OpenClaim := { program := "ytejgekoinbdhjaa", sum := "fe32583d84fcc6e1e63b5f96034a946c5c0daad9d586ffd7f509b3157b7094ce", func := "fairway/fairwaylaw24.ProbeActs", spec := "probeActs", inPlace := ["sync/atomic.AddInt64", "maps.clone", "sync/atomic.LoadInt64", "sync/atomic.StoreInt64"], unfollowed := true, recurses := true, plainKeys := false, apart := false }
def ProbeActsSaid : Prop := probeActsRow.holds Try.pinned (OpenSpec.ofChange probeActsSpec)

/-- ITS FALSE NEIGHBOUR: 'it returns false'. Refute it at one input. -/
def probeActsWrong : ChangeSpec := { name := "probeActs", fn := fun _ => fun
  | [d1, d2, d3] => { results := [.lit (.bool false)], args := [d1, d2, d3] }
  | _ => none }
def ProbeActsWrongFalsely : Prop := probeActsRow.holds Try.pinned (OpenSpec.ofChange probeActsWrong)

/-- 'fairwaylaw24.ProbeEnds': WHATEVER THE INPUT: true; the input reads as it did. -/
def probeEndsSpec : ChangeSpec := { name := "probeEnds", fn := fun _ => fun
  | [d1, d2, d3] => { results := [.lit (.bool true)], args := [d1, d2, d3] }
  | _ => none }
def probeEndsRow : OpenClaim := { program := "ytejgekoinbdhjaa", sum := "fe32583d84fcc6e1e63b5f96034a946c5c0daad9d586ffd7f509b3157b7094ce", func := "fairway/fairwaylaw24.ProbeEnds", spec := "probeEnds", inPlace := ["sync/atomic.AddInt64"], unfollowed := true, recurses := true, plainKeys := false, apart := false }
def ProbeEndsSaid : Prop := probeEndsRow.holds Try.pinned (OpenSpec.ofChange probeEndsSpec)

/-- ITS FALSE NEIGHBOUR: 'it returns false'. Refute it at one input. -/
def probeEndsWrong : ChangeSpec := { name := "probeEnds", fn := fun _ => fun
  | [d1, d2, d3] => { results := [.lit (.bool false)], args := [d1, d2, d3] }
  | _ => none }
def ProbeEndsWrongFalsely : Prop := probeEndsRow.holds Try.pinned (OpenSpec.ofChange probeEndsWrong)

/- THE SECOND FORM. 'bulk': how many values and letters a reading holds, each counted each time it is reached (what is shared counts as often as it is met; a slice's spare places count too). A statement '..UptoSaid' is the law's where the arguments, and the package variables that the reading takes, are together of bulk at most 1048576: NARROWER than '..Said'. Prove '..Said' where nothing that the law and all that it calls make is longer than what came in: it says more and counts as full. Else prove '..UptoSaid'. A law counts once. -/
mutual
def uptoBulk {H : Type} : DataW H → Nat
  | .lit (.string bytes) => bytes.length + 1
  | .lit _ => 1
  | .nil => 1
  | .ptr d => uptoBulk d + 1
  | .slice elems spare => uptoBulkAll elems + uptoBulkAll spare + 1
  | .agg parts => uptoBulkAll parts + 1
  | .iface _ d => uptoBulk d + 1
  | .map entries => uptoBulkEntries entries + 1
  | .held _ => 1
def uptoBulkAll {H : Type} : List (DataW H) → Nat
  | [] => 0
  | d :: r => uptoBulk d + uptoBulkAll r
def uptoBulkEntries {H : Type} : List (Lit × DataW H) → Nat
  | [] => 0
  | x :: r => uptoBulkEntry x + uptoBulkEntries r
def uptoBulkEntry {H : Type} : Lit × DataW H → Nat
  | (.string bytes, d) => bytes.length + uptoBulk d + 1
  | (_, d) => uptoBulk d + 1
 end
def uptoSmall : (H : Type) → List (DataW H) → Bool := fun _ ds => decide (uptoBulkAll ds ≤ 1048576)
def OpenSpec.upto (s : _root_.Go.ChangeSpec) : _root_.Go.OpenSpec := { _root_.Go.OpenSpec.ofChange s with cond := some uptoSmall }

/-- 'fairwaylaw25.PoolQuorum', WHERE WHAT IT READS IS OF BULK AT MOST 1048576: true; the input reads as it did. -/
def poolQuorumUptoRow : OpenClaim := { program := "ytejgekoinbdhjaa", sum := "fe32583d84fcc6e1e63b5f96034a946c5c0daad9d586ffd7f509b3157b7094ce", func := "fairway/fairwaylaw25.PoolQuorum", spec := "poolQuorum", unfollowed := true, recurses := true, plainKeys := false, apart := false, narrowed := true }
def PoolQuorumUptoSaid : Prop := poolQuorumUptoRow.holds Try.pinned (OpenSpec.upto poolQuorumSpec)

/-- 'fairwaylaw25.PoolNone', WHERE WHAT IT READS IS OF BULK AT MOST 1048576: true; the input reads as it did. -/
def poolNoneUptoRow : OpenClaim := { program := "ytejgekoinbdhjaa", sum := "fe32583d84fcc6e1e63b5f96034a946c5c0daad9d586ffd7f509b3157b7094ce", func := "fairway/fairwaylaw25.PoolNone", spec := "poolNone", inPlace := ["maps.clone"], unfollowed := true, recurses := true, plainKeys := false, apart := false, narrowed := true }
def PoolNoneUptoSaid : Prop := poolNoneUptoRow.holds Try.pinned (OpenSpec.upto poolNoneSpec)

/-- 'fairwaylaw25.PoolRises', WHERE WHAT IT READS IS OF BULK AT MOST 1048576: true; the input reads as it did. -/
def poolRisesUptoRow : OpenClaim := { program := "ytejgekoinbdhjaa", sum := "fe32583d84fcc6e1e63b5f96034a946c5c0daad9d586ffd7f509b3157b7094ce", func := "fairway/fairwaylaw25.PoolRises", spec := "poolRises", unfollowed := true, recurses := true, plainKeys := false, apart := false, narrowed := true }
def PoolRisesUptoSaid : Prop := poolRisesUptoRow.holds Try.pinned (OpenSpec.upto poolRisesSpec)

/-- 'fairwaylaw25.PoolActs', WHERE WHAT IT READS IS OF BULK AT MOST 1048576: true; the input reads as it did. -/
def poolActsUptoRow : OpenClaim := { program := "ytejgekoinbdhjaa", sum := "fe32583d84fcc6e1e63b5f96034a946c5c0daad9d586ffd7f509b3157b7094ce", func := "fairway/fairwaylaw25.PoolActs", spec := "poolActs", inPlace := ["maps.clone"], unfollowed := true, recurses := true, plainKeys := false, apart := false, narrowed := true }
def PoolActsUptoSaid : Prop := poolActsUptoRow.holds Try.pinned (OpenSpec.upto poolActsSpec)

/-- 'fairwaylaw29.FlowsIdle', WHERE WHAT IT READS IS OF BULK AT MOST 1048576: true; the input reads as it did. -/
def flowsIdleUptoRow : OpenClaim := { program := "ytejgekoinbdhjaa", sum := "fe32583d84fcc6e1e63b5f96034a946c5c0daad9d586ffd7f509b3157b7094ce", func := "fairway/fairwaylaw29.FlowsIdle", spec := "flowsIdle", unfollowed := true, recurses := true, plainKeys := false, apart := false, narrowed := true }
def FlowsIdleUptoSaid : Prop := flowsIdleUptoRow.holds Try.pinned (OpenSpec.upto flowsIdleSpec)

/-- 'fairwaylaw29.FlowsNone', WHERE WHAT IT READS IS OF BULK AT MOST 1048576: true; the input reads as it did. -/
def flowsNoneUptoRow : OpenClaim := { program := "ytejgekoinbdhjaa", sum := "fe32583d84fcc6e1e63b5f96034a946c5c0daad9d586ffd7f509b3157b7094ce", func := "fairway/fairwaylaw29.FlowsNone", spec := "flowsNone", unfollowed := true, recurses := true, plainKeys := false, apart := false, narrowed := true }
def FlowsNoneUptoSaid : Prop := flowsNoneUptoRow.holds Try.pinned (OpenSpec.upto flowsNoneSpec)

/-- 'fairwaylaw29.FlowsRoom', WHERE WHAT IT READS IS OF BULK AT MOST 1048576: true; the input reads as it did. -/
def flowsRoomUptoRow : OpenClaim := { program := "ytejgekoinbdhjaa", sum := "fe32583d84fcc6e1e63b5f96034a946c5c0daad9d586ffd7f509b3157b7094ce", func := "fairway/fairwaylaw29.FlowsRoom", spec := "flowsRoom", unfollowed := true, recurses := true, plainKeys := false, apart := false, narrowed := true }
def FlowsRoomUptoSaid : Prop := flowsRoomUptoRow.holds Try.pinned (OpenSpec.upto flowsRoomSpec)

/-- 'fairwaylaw13.TimerTimes', WHERE WHAT IT READS IS OF BULK AT MOST 1048576: true; the input reads as it did. -/
def timerTimesUptoRow : OpenClaim := { program := "ytejgekoinbdhjaa", sum := "fe32583d84fcc6e1e63b5f96034a946c5c0daad9d586ffd7f509b3157b7094ce", func := "fairway/fairwaylaw13.TimerTimes", spec := "timerTimes", unfollowed := true, recurses := true, plainKeys := false, apart := false, narrowed := true }
def TimerTimesUptoSaid : Prop := timerTimesUptoRow.holds Try.pinned (OpenSpec.upto timerTimesSpec)

/-- 'fairwaylaw13.TimerNone', WHERE WHAT IT READS IS OF BULK AT MOST 1048576: true; the input reads as it did. -/
def timerNoneUptoRow : OpenClaim := { program := "ytejgekoinbdhjaa", sum := "fe32583d84fcc6e1e63b5f96034a946c5c0daad9d586ffd7f509b3157b7094ce", func := "fairway/fairwaylaw13.TimerNone", spec := "timerNone", inPlace := ["maps.clone"], unfollowed := true, recurses := true, plainKeys := false, apart := false, narrowed := true }
def TimerNoneUptoSaid : Prop := timerNoneUptoRow.holds Try.pinned (OpenSpec.upto timerNoneSpec)

/-- 'fairwaylaw13.TimerActs', WHERE WHAT IT READS IS OF BULK AT MOST 1048576: true; the input reads as it did. -/
def timerActsUptoRow : OpenClaim := { program := "ytejgekoinbdhjaa", sum := "fe32583d84fcc6e1e63b5f96034a946c5c0daad9d586ffd7f509b3157b7094ce", func := "fairway/fairwaylaw13.TimerActs", spec := "timerActs", inPlace := ["maps.clone"], unfollowed := true, recurses := true, plainKeys := false, apart := false, narrowed := true }
def TimerActsUptoSaid : Prop := timerActsUptoRow.holds Try.pinned (OpenSpec.upto timerActsSpec)

/-- 'fairwaylaw24.ProbeNone', WHERE WHAT IT READS IS OF BULK AT MOST 1048576: true; the input reads as it did. -/
def probeNoneUptoRow : OpenClaim := { program := "ytejgekoinbdhjaa", sum := "fe32583d84fcc6e1e63b5f96034a946c5c0daad9d586ffd7f509b3157b7094ce", func := "fairway/fairwaylaw24.ProbeNone", spec := "probeNone", inPlace := ["sync/atomic.AddInt64", "maps.clone", "sync/atomic.LoadInt64", "sync/atomic.StoreInt64"], unfollowed := true, recurses := true, plainKeys := false, apart := false, narrowed := true }
def ProbeNoneUptoSaid : Prop := probeNoneUptoRow.holds Try.pinned (OpenSpec.upto probeNoneSpec)

/-- 'fairwaylaw24.ProbeActs', WHERE WHAT IT READS IS OF BULK AT MOST 1048576: true; the input reads as it did. -/
def probeActsUptoRow : OpenClaim := { program := "ytejgekoinbdhjaa", sum := "fe32583d84fcc6e1e63b5f96034a946c5c0daad9d586ffd7f509b3157b7094ce", func := "fairway/fairwaylaw24.ProbeActs", spec := "probeActs", inPlace := ["sync/atomic.AddInt64", "maps.clone", "sync/atomic.LoadInt64", "sync/atomic.StoreInt64"], unfollowed := true, recurses := true, plainKeys := false, apart := false, narrowed := true }
def ProbeActsUptoSaid : Prop := probeActsUptoRow.holds Try.pinned (OpenSpec.upto probeActsSpec)

/-- 'fairwaylaw24.ProbeEnds', WHERE WHAT IT READS IS OF BULK AT MOST 1048576: true; the input reads as it did. -/
def probeEndsUptoRow : OpenClaim := { program := "ytejgekoinbdhjaa", sum := "fe32583d84fcc6e1e63b5f96034a946c5c0daad9d586ffd7f509b3157b7094ce", func := "fairway/fairwaylaw24.ProbeEnds", spec := "probeEnds", inPlace := ["sync/atomic.AddInt64"], unfollowed := true, recurses := true, plainKeys := false, apart := false, narrowed := true }
def ProbeEndsUptoSaid : Prop := probeEndsUptoRow.holds Try.pinned (OpenSpec.upto probeEndsSpec)

end Rows
end Go.Proofs.Ytejgekoinbdhjaa
