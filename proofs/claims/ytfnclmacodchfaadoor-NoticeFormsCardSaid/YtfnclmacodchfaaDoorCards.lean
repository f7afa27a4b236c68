/-
  DERIVED. GIVEN WITH THE SEED: THE CARDS: each row of YtfnclmacodchfaaDoorRows.lean that lists a variable, with what it lists TIED to the program's text (the seventh form; the later family's looks); each row that meets fmt, with fmt's text TOLD by the authors' own Lean function (tested against real Go, not proved from fmt's source: count such statements apart). THE CARD IS WHAT COUNTS. Prove the row's statement (the work); the ties are given (YtfnclmacodchfaaDoorTie.lean); close each card by the builder's one call (the guide's Derived/Test/ToyasCard.lean, 'card_holds'). Laid BY PROGRAM, IN A SANDBOX (cutbox-door.mjs). By AI agents, Wed Nov 11 2026. No macro, syntax, notation, axiom, sorry.
-/
import Derived.Test.YtfnclmacodchfaaDoorRows
import GoSem.ClaimSeven
namespace Go.Proofs.YtfnclmacodchfaaDoor
namespace Rows

/-- THE TIED CARD OF 'fairwaylaw10.NoticeForms'. -/
def noticeFormsCard : Claim7 := { stood := { row := noticeFormsRow, standIns := [], harness := (true, "bdc530f31090119170f0a59700f9176f8b86929719dd50d6c6488d869ca368a7"), looks := false }, kinds := [], alts := [], laidByText := true, laidKinds := [.data, .data, .data, .data], laidTests := true, laidLooks := .later }
def NoticeFormsCardSaid : Prop := Claim7.holds Tryd.pinned (.plain (OpenSpec.ofChange noticeFormsSpec)) noticeFormsCard

/-- THE TIED CARD OF 'fairwaylaw10.NoticeBack'. -/
def noticeBackCard : Claim7 := { stood := { row := noticeBackRow, standIns := [], harness := (true, "bdc530f31090119170f0a59700f9176f8b86929719dd50d6c6488d869ca368a7"), looks := false }, kinds := [], alts := [], laidByText := true, laidKinds := [.data, .data, .data, .data], laidTests := true, laidLooks := .later }
def NoticeBackCardSaid : Prop := Claim7.holds Tryd.pinned (.plain (OpenSpec.ofChange noticeBackSpec)) noticeBackCard

/-- THE SECOND FORM's CARD OF 'fairwaylaw10.NoticeForms'. -/
def noticeFormsUptoCard : Claim7 := { stood := { row := noticeFormsUptoRow, standIns := [], harness := (true, "bdc530f31090119170f0a59700f9176f8b86929719dd50d6c6488d869ca368a7"), looks := false }, kinds := [], alts := [], laidByText := true, laidKinds := [.data, .data, .data, .data], laidTests := true, laidLooks := .later }
def NoticeFormsUptoCardSaid : Prop := Claim7.holds Tryd.pinned (.plain (OpenSpec.upto noticeFormsSpec)) noticeFormsUptoCard

/-- THE SECOND FORM's CARD OF 'fairwaylaw10.NoticeBack'. -/
def noticeBackUptoCard : Claim7 := { stood := { row := noticeBackUptoRow, standIns := [], harness := (true, "bdc530f31090119170f0a59700f9176f8b86929719dd50d6c6488d869ca368a7"), looks := false }, kinds := [], alts := [], laidByText := true, laidKinds := [.data, .data, .data, .data], laidTests := true, laidLooks := .later }
def NoticeBackUptoCardSaid : Prop := Claim7.holds Tryd.pinned (.plain (OpenSpec.upto noticeBackSpec)) noticeBackUptoCard
end Rows
end Go.Proofs.YtfnclmacodchfaaDoor
