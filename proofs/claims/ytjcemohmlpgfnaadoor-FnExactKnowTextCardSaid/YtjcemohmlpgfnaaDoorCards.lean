/-
  DERIVED. GIVEN WITH THE SEED: THE CARDS: each row of YtjcemohmlpgfnaaDoorRows.lean that lists a variable, with what it lists TIED to the program's text (the seventh form; the later family's looks); each row that meets fmt, with fmt's text TOLD by the authors' own Lean function (tested against real Go, not proved from fmt's source: count such statements apart). THE CARD IS WHAT COUNTS. Prove the row's statement (the work); the ties are given (YtjcemohmlpgfnaaDoorTie.lean); close each card by the builder's one call (the guide's Derived/Test/ToyasCard.lean, 'card_holds'). Laid BY PROGRAM, IN A SANDBOX (cutbox-door.mjs). By AI agents, Wed Nov 11 2026. No macro, syntax, notation, axiom, sorry.
-/
import Derived.Test.YtjcemohmlpgfnaaDoorRows
import GoSem.ClaimSeven
namespace Go.Proofs.YtjcemohmlpgfnaaDoor
namespace Rows

/-- THE TIED CARD OF 'laws.FnExactTermPrint'. -/
def fnExactTermPrintCard : Claim7 := { stood := { row := fnExactTermPrintRow, standIns := [], harness := (true, "de2d6c7922ec5ba253462c77ca9e5a407b1ef50b3a3b5e3b00ba4e1cb1236b5b"), looks := false }, kinds := [], alts := [], laidByText := true, laidKinds := [.data, .data, .data], laidTests := true, laidLooks := .later }
def FnExactTermPrintCardSaid : Prop := Claim7.holds Tryd.pinned (.plain (OpenSpec.ofChange fnExactTermPrintSpec)) fnExactTermPrintCard

/-- THE TIED CARD OF 'laws.FnExactKnowText'. -/
def fnExactKnowTextCard : Claim7 := { stood := { row := fnExactKnowTextRow, standIns := [], harness := (true, "de2d6c7922ec5ba253462c77ca9e5a407b1ef50b3a3b5e3b00ba4e1cb1236b5b"), looks := false }, kinds := [], alts := [], laidByText := true, laidKinds := [.data, .data, .data], laidTests := true, laidLooks := .later }
def FnExactKnowTextCardSaid : Prop := Claim7.holds Tryd.pinned (.plain (OpenSpec.ofChange fnExactKnowTextSpec)) fnExactKnowTextCard

/-- THE SECOND FORM's CARD OF 'laws.FnExactTermPrint'. -/
def fnExactTermPrintUptoCard : Claim7 := { stood := { row := fnExactTermPrintUptoRow, standIns := [], harness := (true, "de2d6c7922ec5ba253462c77ca9e5a407b1ef50b3a3b5e3b00ba4e1cb1236b5b"), looks := false }, kinds := [], alts := [], laidByText := true, laidKinds := [.data, .data, .data], laidTests := true, laidLooks := .later }
def FnExactTermPrintUptoCardSaid : Prop := Claim7.holds Tryd.pinned (.plain (OpenSpec.upto fnExactTermPrintSpec)) fnExactTermPrintUptoCard

/-- THE SECOND FORM's CARD OF 'laws.FnExactKnowText'. -/
def fnExactKnowTextUptoCard : Claim7 := { stood := { row := fnExactKnowTextUptoRow, standIns := [], harness := (true, "de2d6c7922ec5ba253462c77ca9e5a407b1ef50b3a3b5e3b00ba4e1cb1236b5b"), looks := false }, kinds := [], alts := [], laidByText := true, laidKinds := [.data, .data, .data], laidTests := true, laidLooks := .later }
def FnExactKnowTextUptoCardSaid : Prop := Claim7.holds Tryd.pinned (.plain (OpenSpec.upto fnExactKnowTextSpec)) fnExactKnowTextUptoCard
end Rows
end Go.Proofs.YtjcemohmlpgfnaaDoor
