/-
  DERIVED. GIVEN WITH THE SEED: THE CARDS: each row of YtbmcbhpkefjhbaaDoorRows.lean that lists a variable, with what it lists TIED to the program's text (the seventh form; the later family's looks); each row that meets fmt, with fmt's text TOLD by the authors' own Lean function (tested against real Go, not proved from fmt's source: count such statements apart). THE CARD IS WHAT COUNTS. Prove the row's statement (the work); the ties are given (YtbmcbhpkefjhbaaDoorTie.lean); close each card by the builder's one call (the guide's Derived/Test/ToyasCard.lean, 'card_holds'). Laid BY PROGRAM, IN A SANDBOX (cutbox-door.mjs). By AI agents, Wed Nov 11 2026. No macro, syntax, notation, axiom, sorry.
-/
import Derived.Test.YtbmcbhpkefjhbaaDoorRows
import GoSem.ClaimSeven
namespace Go.Proofs.YtbmcbhpkefjhbaaDoor
namespace Rows

/-- THE TIED CARD OF 'humuslaw11.TableDecodes'. -/
def tableDecodesCard : Claim7 := { stood := { row := tableDecodesRow, standIns := [], harness := (true, "fde65b8ede6968093407e0bc4db0186ff5dd4632b066566a003f2bc4be3c8c29"), looks := true }, kinds := [], alts := [], laidByText := true, laidKinds := [.data, .pinned], laidTests := true, laidLooks := .later }
def TableDecodesCardSaid : Prop := Claim7.holds Tryd.pinned (.plain (OpenSpec.ofChange tableDecodesSpec)) tableDecodesCard

/-- THE TIED CARD OF 'humuslaw11.TableCodes'. -/
def tableCodesCard : Claim7 := { stood := { row := tableCodesRow, standIns := [], harness := (true, "fde65b8ede6968093407e0bc4db0186ff5dd4632b066566a003f2bc4be3c8c29"), looks := true }, kinds := [], alts := [], laidByText := true, laidKinds := [.data, .pinned], laidTests := true, laidLooks := .later }
def TableCodesCardSaid : Prop := Claim7.holds Tryd.pinned (.plain (OpenSpec.ofChange tableCodesSpec)) tableCodesCard

/-- THE SECOND FORM's CARD OF 'humuslaw11.TableDecodes'. -/
def tableDecodesUptoCard : Claim7 := { stood := { row := tableDecodesUptoRow, standIns := [], harness := (true, "fde65b8ede6968093407e0bc4db0186ff5dd4632b066566a003f2bc4be3c8c29"), looks := true }, kinds := [], alts := [], laidByText := true, laidKinds := [.data, .pinned], laidTests := true, laidLooks := .later }
def TableDecodesUptoCardSaid : Prop := Claim7.holds Tryd.pinned (.plain (OpenSpec.upto tableDecodesSpec)) tableDecodesUptoCard

/-- THE SECOND FORM's CARD OF 'humuslaw11.TableCodes'. -/
def tableCodesUptoCard : Claim7 := { stood := { row := tableCodesUptoRow, standIns := [], harness := (true, "fde65b8ede6968093407e0bc4db0186ff5dd4632b066566a003f2bc4be3c8c29"), looks := true }, kinds := [], alts := [], laidByText := true, laidKinds := [.data, .pinned], laidTests := true, laidLooks := .later }
def TableCodesUptoCardSaid : Prop := Claim7.holds Tryd.pinned (.plain (OpenSpec.upto tableCodesSpec)) tableCodesUptoCard
end Rows
end Go.Proofs.YtbmcbhpkefjhbaaDoor
