/-
  DERIVED. GIVEN WITH THE SEED: THE CARDS: each row of YtkgkdpjjlkpbfaaDoorRows.lean that lists a variable, with what it lists TIED to the program's text (the seventh form; the later family's looks); each row that meets fmt, with fmt's text TOLD by the authors' own Lean function (tested against real Go, not proved from fmt's source: count such statements apart). THE CARD IS WHAT COUNTS. Prove the row's statement (the work); the ties are given (YtkgkdpjjlkpbfaaDoorTie.lean); close each card by the builder's one call (the guide's Derived/Test/ToyasCard.lean, 'card_holds'). Laid BY PROGRAM, IN A SANDBOX (cutbox-door.mjs). By AI agents, Wed Nov 11 2026. No macro, syntax, notation, axiom, sorry.
-/
import Derived.Test.YtkgkdpjjlkpbfaaDoorRows
import GoSem.ClaimSeven
namespace Go.Proofs.YtkgkdpjjlkpbfaaDoor
namespace Rows

/-- THE TIED CARD OF 'laws.FnExactWebText'. -/
def fnExactWebTextCard : Claim7 := { stood := { row := fnExactWebTextRow, standIns := [], harness := (true, "8a1e18a6c4daa618c05075a039295ea25edfa0fa5d21530bc312a0957dad9201"), looks := false }, kinds := [], alts := [], laidByText := true, laidKinds := [.data, .data, .data], laidTests := true, laidLooks := .later }
def FnExactWebTextCardSaid : Prop := Claim7.holds Tryd.pinned (.plain (OpenSpec.ofChange fnExactWebTextSpec)) fnExactWebTextCard

/-- THE SECOND FORM's CARD OF 'laws.FnExactWebText'. -/
def fnExactWebTextUptoCard : Claim7 := { stood := { row := fnExactWebTextUptoRow, standIns := [], harness := (true, "8a1e18a6c4daa618c05075a039295ea25edfa0fa5d21530bc312a0957dad9201"), looks := false }, kinds := [], alts := [], laidByText := true, laidKinds := [.data, .data, .data], laidTests := true, laidLooks := .later }
def FnExactWebTextUptoCardSaid : Prop := Claim7.holds Tryd.pinned (.plain (OpenSpec.upto fnExactWebTextSpec)) fnExactWebTextUptoCard
end Rows
end Go.Proofs.YtkgkdpjjlkpbfaaDoor
