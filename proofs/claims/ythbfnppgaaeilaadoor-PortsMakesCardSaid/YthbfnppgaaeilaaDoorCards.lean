/-
  DERIVED. GIVEN WITH THE SEED: THE CARDS: each row of YthbfnppgaaeilaaDoorRows.lean that lists a variable, with what it lists TIED to the program's text (the seventh form; the later family's looks); each row that meets fmt, with fmt's text TOLD by the authors' own Lean function (tested against real Go, not proved from fmt's source: count such statements apart). THE CARD IS WHAT COUNTS. Prove the row's statement (the work); the ties are given (YthbfnppgaaeilaaDoorTie.lean); close each card by the builder's one call (the guide's Derived/Test/ToyasCard.lean, 'card_holds'). Laid BY PROGRAM, IN A SANDBOX (cutbox-door.mjs). By AI agents, Wed Nov 11 2026. No macro, syntax, notation, axiom, sorry.
-/
import Derived.Test.YthbfnppgaaeilaaDoorRows
import GoSem.ClaimSeven
namespace Go.Proofs.YthbfnppgaaeilaaDoor
namespace Rows

/-- THE TIED CARD OF 'fairwaylaw17.PolicyAttrs'. -/
def policyAttrsCard : Claim7 := { stood := { row := policyAttrsRow, standIns := [], harness := (true, "a74853e63a9ba73bb0f2bf5da8ae2ae6b4bc1ee558c9fff6a6d121b624e83793"), looks := false }, kinds := [], alts := [], laidByText := true, laidKinds := [.data, .data, .data], laidTests := true, laidLooks := .later }
def PolicyAttrsCardSaid : Prop := Claim7.holds Tryd.pinned (.plain (OpenSpec.ofChange policyAttrsSpec)) policyAttrsCard

/-- THE TIED CARD OF 'fairwaylaw05.PortsMakes'. -/
def portsMakesCard : Claim7 := { stood := { row := portsMakesRow, standIns := [], harness := (true, "a74853e63a9ba73bb0f2bf5da8ae2ae6b4bc1ee558c9fff6a6d121b624e83793"), looks := false }, kinds := [], alts := [], laidByText := true, laidKinds := [.data, .data, .data], laidTests := true, laidLooks := .later }
def PortsMakesCardSaid : Prop := Claim7.holds Tryd.pinned (.plain (OpenSpec.ofChange portsMakesSpec)) portsMakesCard

/-- THE SECOND FORM's CARD OF 'fairwaylaw17.PolicyAttrs'. -/
def policyAttrsUptoCard : Claim7 := { stood := { row := policyAttrsUptoRow, standIns := [], harness := (true, "a74853e63a9ba73bb0f2bf5da8ae2ae6b4bc1ee558c9fff6a6d121b624e83793"), looks := false }, kinds := [], alts := [], laidByText := true, laidKinds := [.data, .data, .data], laidTests := true, laidLooks := .later }
def PolicyAttrsUptoCardSaid : Prop := Claim7.holds Tryd.pinned (.plain (OpenSpec.upto policyAttrsSpec)) policyAttrsUptoCard

/-- THE SECOND FORM's CARD OF 'fairwaylaw05.PortsMakes'. -/
def portsMakesUptoCard : Claim7 := { stood := { row := portsMakesUptoRow, standIns := [], harness := (true, "a74853e63a9ba73bb0f2bf5da8ae2ae6b4bc1ee558c9fff6a6d121b624e83793"), looks := false }, kinds := [], alts := [], laidByText := true, laidKinds := [.data, .data, .data], laidTests := true, laidLooks := .later }
def PortsMakesUptoCardSaid : Prop := Claim7.holds Tryd.pinned (.plain (OpenSpec.upto portsMakesSpec)) portsMakesUptoCard
end Rows
end Go.Proofs.YthbfnppgaaeilaaDoor
