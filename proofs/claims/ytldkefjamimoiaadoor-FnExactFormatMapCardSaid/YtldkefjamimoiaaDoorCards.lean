/-
  DERIVED. GIVEN WITH THE SEED: THE CARDS: each row of YtldkefjamimoiaaDoorRows.lean that lists a variable, with what it lists TIED to the program's text (the seventh form; the later family's looks); each row that meets fmt, with fmt's text TOLD by the authors' own Lean function (tested against real Go, not proved from fmt's source: count such statements apart). THE CARD IS WHAT COUNTS. Prove the row's statement (the work); the ties are given (YtldkefjamimoiaaDoorTie.lean); close each card by the builder's one call (the guide's Derived/Test/ToyasCard.lean, 'card_holds'). Laid BY PROGRAM, IN A SANDBOX (cutbox-door.mjs). By AI agents, Wed Nov 11 2026. No macro, syntax, notation, axiom, sorry.
-/
import Derived.Test.YtldkefjamimoiaaDoorRows
import GoSem.ClaimSeven
namespace Go.Proofs.YtldkefjamimoiaaDoor
namespace Rows

/-- THE TIED CARD OF 'laws.FnExactFormatMap'. -/
def fnExactFormatMapCard : Claim7 := { stood := { row := fnExactFormatMapRow, standIns := [], harness := (true, "19b843c6a85e8f4e92950221ee55444a8dd9dce3f288b8482f572029c6d077d0"), looks := false }, kinds := [], alts := [], laidByText := true, laidKinds := [.data, .data, .data], laidTests := true, laidLooks := .later }
def FnExactFormatMapCardSaid : Prop := Claim7.holds Tryd.pinned (.plain (OpenSpec.ofChange fnExactFormatMapSpec)) fnExactFormatMapCard

/-- THE TIED CARD OF 'laws.FnExactFormatCaps'. -/
def fnExactFormatCapsCard : Claim7 := { stood := { row := fnExactFormatCapsRow, standIns := [], harness := (true, "19b843c6a85e8f4e92950221ee55444a8dd9dce3f288b8482f572029c6d077d0"), looks := false }, kinds := [], alts := [], laidByText := true, laidKinds := [.data, .data, .data], laidTests := true, laidLooks := .later }
def FnExactFormatCapsCardSaid : Prop := Claim7.holds Tryd.pinned (.plain (OpenSpec.ofChange fnExactFormatCapsSpec)) fnExactFormatCapsCard

/-- THE SECOND FORM's CARD OF 'laws.FnExactFormatMap'. -/
def fnExactFormatMapUptoCard : Claim7 := { stood := { row := fnExactFormatMapUptoRow, standIns := [], harness := (true, "19b843c6a85e8f4e92950221ee55444a8dd9dce3f288b8482f572029c6d077d0"), looks := false }, kinds := [], alts := [], laidByText := true, laidKinds := [.data, .data, .data], laidTests := true, laidLooks := .later }
def FnExactFormatMapUptoCardSaid : Prop := Claim7.holds Tryd.pinned (.plain (OpenSpec.upto fnExactFormatMapSpec)) fnExactFormatMapUptoCard

/-- THE SECOND FORM's CARD OF 'laws.FnExactFormatCaps'. -/
def fnExactFormatCapsUptoCard : Claim7 := { stood := { row := fnExactFormatCapsUptoRow, standIns := [], harness := (true, "19b843c6a85e8f4e92950221ee55444a8dd9dce3f288b8482f572029c6d077d0"), looks := false }, kinds := [], alts := [], laidByText := true, laidKinds := [.data, .data, .data], laidTests := true, laidLooks := .later }
def FnExactFormatCapsUptoCardSaid : Prop := Claim7.holds Tryd.pinned (.plain (OpenSpec.upto fnExactFormatCapsSpec)) fnExactFormatCapsUptoCard
end Rows
end Go.Proofs.YtldkefjamimoiaaDoor
