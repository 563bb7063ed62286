/-
  DERIVED. GIVEN WITH THE SEED: THE CARDS: each row of YteifneielgnniaaDoorRows.lean that lists a variable, with what it lists TIED to the program's text (the seventh form; the later family's looks); each row that meets fmt, with fmt's text TOLD by the authors' own Lean function (tested against real Go, not proved from fmt's source: count such statements apart). THE CARD IS WHAT COUNTS. Prove the row's statement (the work); the ties are given (YteifneielgnniaaDoorTie.lean); close each card by the builder's one call (the guide's Derived/Test/ToyasCard.lean, 'card_holds'). Laid BY PROGRAM, IN A SANDBOX (cutbox-door.mjs). By AI agents, Wed Nov 11 2026. No macro, syntax, notation, axiom, sorry.
-/
import Derived.Test.YteifneielgnniaaDoorRows
import GoSem.ClaimSeven
namespace Go.Proofs.YteifneielgnniaaDoor
namespace Rows

/-- THE TIED CARD OF 'laws.FnExactReadMark'. -/
def fnExactReadMarkCard : Claim7 := { stood := { row := fnExactReadMarkRow, standIns := [], harness := (true, "2e7a524758afbb729dc5b59a4aa530406b3486f6873cbb25947228a2c1a35bb5"), looks := true }, kinds := [], alts := [], laidByText := true, laidKinds := [.data, .data, .data, .data, .sentinel, .sentinel, .pinned], laidTests := true, laidLooks := .later }
def FnExactReadMarkCardSaid : Prop := Claim7.holds Tryd.pinned (.plain (OpenSpec.ofChange fnExactReadMarkSpec)) fnExactReadMarkCard

/-- THE TIED CARD OF 'laws.FnExactReadWeb'. -/
def fnExactReadWebCard : Claim7 := { stood := { row := fnExactReadWebRow, standIns := [], harness := (true, "2e7a524758afbb729dc5b59a4aa530406b3486f6873cbb25947228a2c1a35bb5"), looks := true }, kinds := [], alts := [], laidByText := true, laidKinds := [.data, .data, .data, .data, .sentinel, .sentinel, .pinned], laidTests := true, laidLooks := .later }
def FnExactReadWebCardSaid : Prop := Claim7.holds Tryd.pinned (.plain (OpenSpec.ofChange fnExactReadWebSpec)) fnExactReadWebCard

/-- THE SECOND FORM's CARD OF 'laws.FnExactReadMark'. -/
def fnExactReadMarkUptoCard : Claim7 := { stood := { row := fnExactReadMarkUptoRow, standIns := [], harness := (true, "2e7a524758afbb729dc5b59a4aa530406b3486f6873cbb25947228a2c1a35bb5"), looks := true }, kinds := [], alts := [], laidByText := true, laidKinds := [.data, .data, .data, .data, .sentinel, .sentinel, .pinned], laidTests := true, laidLooks := .later }
def FnExactReadMarkUptoCardSaid : Prop := Claim7.holds Tryd.pinned (.plain (OpenSpec.upto fnExactReadMarkSpec)) fnExactReadMarkUptoCard

/-- THE SECOND FORM's CARD OF 'laws.FnExactReadWeb'. -/
def fnExactReadWebUptoCard : Claim7 := { stood := { row := fnExactReadWebUptoRow, standIns := [], harness := (true, "2e7a524758afbb729dc5b59a4aa530406b3486f6873cbb25947228a2c1a35bb5"), looks := true }, kinds := [], alts := [], laidByText := true, laidKinds := [.data, .data, .data, .data, .sentinel, .sentinel, .pinned], laidTests := true, laidLooks := .later }
def FnExactReadWebUptoCardSaid : Prop := Claim7.holds Tryd.pinned (.plain (OpenSpec.upto fnExactReadWebSpec)) fnExactReadWebUptoCard
end Rows
end Go.Proofs.YteifneielgnniaaDoor
