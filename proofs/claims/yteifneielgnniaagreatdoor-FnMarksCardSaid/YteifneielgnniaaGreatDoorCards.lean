/-
  DERIVED. GIVEN WITH THE SEED: THE CARDS: each row of YteifneielgnniaaGreatDoorRows.lean that lists a variable, with what it lists TIED to the program's text (the seventh form; the later family's looks); each row that meets fmt, with fmt's text TOLD by the authors' own Lean function (tested against real Go, not proved from fmt's source: count such statements apart). THE CARD IS WHAT COUNTS. Prove the row's statement (the work); the ties are given (YteifneielgnniaaGreatDoorTie.lean); close each card by the builder's one call (the guide's Derived/Test/ToyasCard.lean, 'card_holds'). Laid BY PROGRAM, IN A SANDBOX (cutbox-door.mjs). By AI agents, Wed Nov 11 2026. No macro, syntax, notation, axiom, sorry.
-/
import Derived.Test.YteifneielgnniaaGreatDoorRows
import GoSem.ClaimSeven
namespace Go.Proofs.YteifneielgnniaaGreatDoor
namespace Rows

/-- THE TIED CARD OF 'laws.FnWebs'. -/
def fnWebsCard : Claim7 := { stood := { row := fnWebsRow, standIns := [], harness := (true, "fd9f31883360951f6d1de585a0313b34c88cf70ee355c3f150997d7deec228c5"), looks := true }, kinds := [], alts := [], laidByText := true, laidKinds := [.data, .data, .data, .data, .sentinel, .sentinel, .pinned], laidTests := true, laidLooks := .later }
def FnWebsCardSaid : Prop := Claim7.holds Tryz.pinned (.plain (OpenSpec.ofChange fnWebsSpec)) fnWebsCard

/-- THE TIED CARD OF 'laws.FnMarks'. -/
def fnMarksCard : Claim7 := { stood := { row := fnMarksRow, standIns := [], harness := (true, "fd9f31883360951f6d1de585a0313b34c88cf70ee355c3f150997d7deec228c5"), looks := true }, kinds := [], alts := [], laidByText := true, laidKinds := [.data, .data, .data, .data, .sentinel, .sentinel, .pinned], laidTests := true, laidLooks := .later }
def FnMarksCardSaid : Prop := Claim7.holds Tryz.pinned (.plain (OpenSpec.ofChange fnMarksSpec)) fnMarksCard

/-- THE SECOND FORM's CARD OF 'laws.FnWebs'. -/
def fnWebsUptoCard : Claim7 := { stood := { row := fnWebsUptoRow, standIns := [], harness := (true, "fd9f31883360951f6d1de585a0313b34c88cf70ee355c3f150997d7deec228c5"), looks := true }, kinds := [], alts := [], laidByText := true, laidKinds := [.data, .data, .data, .data, .sentinel, .sentinel, .pinned], laidTests := true, laidLooks := .later }
def FnWebsUptoCardSaid : Prop := Claim7.holds Tryz.pinned (.plain (OpenSpec.upto fnWebsSpec)) fnWebsUptoCard

/-- THE SECOND FORM's CARD OF 'laws.FnMarks'. -/
def fnMarksUptoCard : Claim7 := { stood := { row := fnMarksUptoRow, standIns := [], harness := (true, "fd9f31883360951f6d1de585a0313b34c88cf70ee355c3f150997d7deec228c5"), looks := true }, kinds := [], alts := [], laidByText := true, laidKinds := [.data, .data, .data, .data, .sentinel, .sentinel, .pinned], laidTests := true, laidLooks := .later }
def FnMarksUptoCardSaid : Prop := Claim7.holds Tryz.pinned (.plain (OpenSpec.upto fnMarksSpec)) fnMarksUptoCard
end Rows
end Go.Proofs.YteifneielgnniaaGreatDoor
