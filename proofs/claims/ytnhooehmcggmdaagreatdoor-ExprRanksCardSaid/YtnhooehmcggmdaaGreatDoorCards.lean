/-
  DERIVED. GIVEN WITH THE SEED: THE CARDS: each row of YtnhooehmcggmdaaGreatDoorRows.lean that lists a variable, with what it lists TIED to the program's text (the seventh form; the later family's looks); each row that meets fmt, with fmt's text TOLD by the authors' own Lean function (tested against real Go, not proved from fmt's source: count such statements apart). THE CARD IS WHAT COUNTS. Prove the row's statement (the work); the ties are given (YtnhooehmcggmdaaGreatDoorTie.lean); close each card by the builder's one call (the guide's Derived/Test/ToyasCard.lean, 'card_holds'). Laid BY PROGRAM, IN A SANDBOX (cutbox-door.mjs). By AI agents, Wed Nov 11 2026. No macro, syntax, notation, axiom, sorry.
-/
import Derived.Test.YtnhooehmcggmdaaGreatDoorRows
import GoSem.ClaimSeven
namespace Go.Proofs.YtnhooehmcggmdaaGreatDoor
namespace Rows

/-- THE TIED CARD OF 'lictorlaw08.ExprWrites'. -/
def exprWritesCard : Claim7 := { stood := { row := exprWritesRow, standIns := [], harness := (true, "5976ebbef73446671e7467105c60ac18f062fcc64b8d2b972f58869f3fa743b2"), looks := true }, kinds := [], alts := [], laidByText := true, laidKinds := [.data, .data, .data, .data, .sentinel, .sentinel, .listed, .data, .pinned], laidTests := true, laidLooks := .later }
def ExprWritesCardSaid : Prop := Claim7.holds Tryz.pinned (.plain (OpenSpec.ofChange exprWritesSpec)) exprWritesCard

/-- THE TIED CARD OF 'lictorlaw08.ExprBack'. -/
def exprBackCard : Claim7 := { stood := { row := exprBackRow, standIns := [], harness := (true, "5976ebbef73446671e7467105c60ac18f062fcc64b8d2b972f58869f3fa743b2"), looks := true }, kinds := [], alts := [], laidByText := true, laidKinds := [.data, .data, .data, .data, .sentinel, .sentinel, .listed, .data, .pinned], laidTests := true, laidLooks := .later }
def ExprBackCardSaid : Prop := Claim7.holds Tryz.pinned (.plain (OpenSpec.ofChange exprBackSpec)) exprBackCard

/-- THE TIED CARD OF 'lictorlaw08.ExprOnce'. -/
def exprOnceCard : Claim7 := { stood := { row := exprOnceRow, standIns := [], harness := (true, "5976ebbef73446671e7467105c60ac18f062fcc64b8d2b972f58869f3fa743b2"), looks := true }, kinds := [], alts := [], laidByText := true, laidKinds := [.data, .data, .data, .data, .sentinel, .sentinel, .listed, .data, .pinned], laidTests := true, laidLooks := .later }
def ExprOnceCardSaid : Prop := Claim7.holds Tryz.pinned (.plain (OpenSpec.ofChange exprOnceSpec)) exprOnceCard

/-- THE TIED CARD OF 'lictorlaw08.ExprRanks'. -/
def exprRanksCard : Claim7 := { stood := { row := exprRanksRow, standIns := [], harness := (true, "5976ebbef73446671e7467105c60ac18f062fcc64b8d2b972f58869f3fa743b2"), looks := true }, kinds := [], alts := [], laidByText := true, laidKinds := [.data, .data, .data, .data, .sentinel, .sentinel, .listed, .data, .pinned], laidTests := true, laidLooks := .later }
def ExprRanksCardSaid : Prop := Claim7.holds Tryz.pinned (.plain (OpenSpec.ofChange exprRanksSpec)) exprRanksCard

/-- THE TIED CARD OF 'lictorlaw08.ExprCopies'. -/
def exprCopiesCard : Claim7 := { stood := { row := exprCopiesRow, standIns := [], harness := (true, "5976ebbef73446671e7467105c60ac18f062fcc64b8d2b972f58869f3fa743b2"), looks := true }, kinds := [], alts := [], laidByText := true, laidKinds := [.data, .data, .data, .data, .sentinel, .sentinel, .listed, .data, .pinned], laidTests := true, laidLooks := .later }
def ExprCopiesCardSaid : Prop := Claim7.holds Tryz.pinned (.plain (OpenSpec.ofChange exprCopiesSpec)) exprCopiesCard

/-- THE TIED CARD OF 'lictorlaw08.ExprWrapped'. -/
def exprWrappedCard : Claim7 := { stood := { row := exprWrappedRow, standIns := [], harness := (true, "5976ebbef73446671e7467105c60ac18f062fcc64b8d2b972f58869f3fa743b2"), looks := true }, kinds := [], alts := [], laidByText := true, laidKinds := [.data, .data, .data, .data, .sentinel, .sentinel, .listed, .data, .pinned], laidTests := true, laidLooks := .later }
def ExprWrappedCardSaid : Prop := Claim7.holds Tryz.pinned (.plain (OpenSpec.ofChange exprWrappedSpec)) exprWrappedCard

/-- THE TIED CARD OF 'lictortop.TopTokens'. -/
def topTokensCard : Claim7 := { stood := { row := topTokensRow, standIns := [], harness := (true, "5976ebbef73446671e7467105c60ac18f062fcc64b8d2b972f58869f3fa743b2"), looks := true }, kinds := [], alts := [], laidByText := true, laidKinds := [.data, .data, .data, .data, .sentinel, .sentinel, .listed, .data, .pinned], laidTests := true, laidLooks := .later }
def TopTokensCardSaid : Prop := Claim7.holds Tryz.pinned (.plain (OpenSpec.ofChange topTokensSpec)) topTokensCard

/-- THE SECOND FORM's CARD OF 'lictorlaw08.ExprWrites'. -/
def exprWritesUptoCard : Claim7 := { stood := { row := exprWritesUptoRow, standIns := [], harness := (true, "5976ebbef73446671e7467105c60ac18f062fcc64b8d2b972f58869f3fa743b2"), looks := true }, kinds := [], alts := [], laidByText := true, laidKinds := [.data, .data, .data, .data, .sentinel, .sentinel, .listed, .data, .pinned], laidTests := true, laidLooks := .later }
def ExprWritesUptoCardSaid : Prop := Claim7.holds Tryz.pinned (.plain (OpenSpec.upto exprWritesSpec)) exprWritesUptoCard

/-- THE SECOND FORM's CARD OF 'lictorlaw08.ExprBack'. -/
def exprBackUptoCard : Claim7 := { stood := { row := exprBackUptoRow, standIns := [], harness := (true, "5976ebbef73446671e7467105c60ac18f062fcc64b8d2b972f58869f3fa743b2"), looks := true }, kinds := [], alts := [], laidByText := true, laidKinds := [.data, .data, .data, .data, .sentinel, .sentinel, .listed, .data, .pinned], laidTests := true, laidLooks := .later }
def ExprBackUptoCardSaid : Prop := Claim7.holds Tryz.pinned (.plain (OpenSpec.upto exprBackSpec)) exprBackUptoCard

/-- THE SECOND FORM's CARD OF 'lictorlaw08.ExprOnce'. -/
def exprOnceUptoCard : Claim7 := { stood := { row := exprOnceUptoRow, standIns := [], harness := (true, "5976ebbef73446671e7467105c60ac18f062fcc64b8d2b972f58869f3fa743b2"), looks := true }, kinds := [], alts := [], laidByText := true, laidKinds := [.data, .data, .data, .data, .sentinel, .sentinel, .listed, .data, .pinned], laidTests := true, laidLooks := .later }
def ExprOnceUptoCardSaid : Prop := Claim7.holds Tryz.pinned (.plain (OpenSpec.upto exprOnceSpec)) exprOnceUptoCard

/-- THE SECOND FORM's CARD OF 'lictorlaw08.ExprRanks'. -/
def exprRanksUptoCard : Claim7 := { stood := { row := exprRanksUptoRow, standIns := [], harness := (true, "5976ebbef73446671e7467105c60ac18f062fcc64b8d2b972f58869f3fa743b2"), looks := true }, kinds := [], alts := [], laidByText := true, laidKinds := [.data, .data, .data, .data, .sentinel, .sentinel, .listed, .data, .pinned], laidTests := true, laidLooks := .later }
def ExprRanksUptoCardSaid : Prop := Claim7.holds Tryz.pinned (.plain (OpenSpec.upto exprRanksSpec)) exprRanksUptoCard

/-- THE SECOND FORM's CARD OF 'lictorlaw08.ExprCopies'. -/
def exprCopiesUptoCard : Claim7 := { stood := { row := exprCopiesUptoRow, standIns := [], harness := (true, "5976ebbef73446671e7467105c60ac18f062fcc64b8d2b972f58869f3fa743b2"), looks := true }, kinds := [], alts := [], laidByText := true, laidKinds := [.data, .data, .data, .data, .sentinel, .sentinel, .listed, .data, .pinned], laidTests := true, laidLooks := .later }
def ExprCopiesUptoCardSaid : Prop := Claim7.holds Tryz.pinned (.plain (OpenSpec.upto exprCopiesSpec)) exprCopiesUptoCard

/-- THE SECOND FORM's CARD OF 'lictorlaw08.ExprWrapped'. -/
def exprWrappedUptoCard : Claim7 := { stood := { row := exprWrappedUptoRow, standIns := [], harness := (true, "5976ebbef73446671e7467105c60ac18f062fcc64b8d2b972f58869f3fa743b2"), looks := true }, kinds := [], alts := [], laidByText := true, laidKinds := [.data, .data, .data, .data, .sentinel, .sentinel, .listed, .data, .pinned], laidTests := true, laidLooks := .later }
def ExprWrappedUptoCardSaid : Prop := Claim7.holds Tryz.pinned (.plain (OpenSpec.upto exprWrappedSpec)) exprWrappedUptoCard

/-- THE SECOND FORM's CARD OF 'lictortop.TopTokens'. -/
def topTokensUptoCard : Claim7 := { stood := { row := topTokensUptoRow, standIns := [], harness := (true, "5976ebbef73446671e7467105c60ac18f062fcc64b8d2b972f58869f3fa743b2"), looks := true }, kinds := [], alts := [], laidByText := true, laidKinds := [.data, .data, .data, .data, .sentinel, .sentinel, .listed, .data, .pinned], laidTests := true, laidLooks := .later }
def TopTokensUptoCardSaid : Prop := Claim7.holds Tryz.pinned (.plain (OpenSpec.upto topTokensSpec)) topTokensUptoCard
end Rows
end Go.Proofs.YtnhooehmcggmdaaGreatDoor
