/-
  No cell of these rows narrows 'for every input' (looked for: loops, veiled, ifaces, maps, wideKeys, modest, calm, conditions, laid).
  DERIVED. THE GIVEN ROWS OF THIS SEAT. 13 by the template 'for every input the law returns true; each argument reads behind the call as it read before'; 0 by the template 'total and deterministic' (their statements: YtljemkijpbfcaaaTotals.lean).
  GIVEN WITH THE SEED: the statements are not yours to turn. If you find one false, say at which input.
  Laid BY PROGRAM, IN A SANDBOX (cutbox-rows.mjs): the forced cells as the released guide's own fill.sh prints them over the translation 5e227ea461f8ebcd… (all of the seat's roots in one cut). By AI agents, Wed Nov 11 2026. No macro, syntax, notation, axiom, sorry.
-/
import Derived.Test.YtljemkijpbfcaaaChecked
import GoSem.Claim
import GoSem.ClaimJoined
import GoSem.ClaimMapViews
import Derived.JoinedTies
import Derived.KernelRfl
namespace Go.Proofs.Ytljemkijpbfcaaa
/- THE CELL 'sum', in the pinned program and in every row, IS THE sha256 OF THE DUMP (.gsa) THAT YtljemkijpbfcaaaProg.lean LOADS. Nothing in Lean hashes anything: it is a label: what it is worth is what the hold of that sum in a sandbox is worth. -/
noncomputable def Try.pinned : Pinned := { name := "ytljemkijpbfcaaa", sum := "5e227ea461f8ebcdf45e5d80c5874935860ba74c3bace15edc0fa8d153ad1d24", checked := Try.checked }
namespace Rows
def none {H : Type} : Left H := { results := [], args := [] }

/-- 'laws.FnExactValidOven': WHATEVER THE INPUT: true; the input reads as it did. -/
def fnExactValidOvenSpec : ChangeSpec := { name := "fnExactValidOven", fn := fun _ => fun
  | [d] => { results := [.lit (.bool true)], args := [d] }
  | _ => none }
def fnExactValidOvenRow : OpenClaim := { program := "ytljemkijpbfcaaa", sum := "5e227ea461f8ebcdf45e5d80c5874935860ba74c3bace15edc0fa8d153ad1d24", func := "loop.example/g01320/laws.FnExactValidOven", spec := "fnExactValidOven", apart := false }
def FnExactValidOvenSaid : Prop := fnExactValidOvenRow.holds Try.pinned (OpenSpec.ofChange fnExactValidOvenSpec)

/-- ITS FALSE NEIGHBOUR: 'it returns false'. Refute it at one input. -/
def fnExactValidOvenWrong : ChangeSpec := { name := "fnExactValidOven", fn := fun _ => fun
  | [d] => { results := [.lit (.bool false)], args := [d] }
  | _ => none }
def FnExactValidOvenWrongFalsely : Prop := fnExactValidOvenRow.holds Try.pinned (OpenSpec.ofChange fnExactValidOvenWrong)

/-- 'laws.FnExactValidFilms': WHATEVER THE INPUT: true; the input reads as it did. -/
def fnExactValidFilmsSpec : ChangeSpec := { name := "fnExactValidFilms", fn := fun _ => fun
  | [d] => { results := [.lit (.bool true)], args := [d] }
  | _ => none }
def fnExactValidFilmsRow : OpenClaim := { program := "ytljemkijpbfcaaa", sum := "5e227ea461f8ebcdf45e5d80c5874935860ba74c3bace15edc0fa8d153ad1d24", func := "loop.example/g01320/laws.FnExactValidFilms", spec := "fnExactValidFilms", apart := false }
def FnExactValidFilmsSaid : Prop := fnExactValidFilmsRow.holds Try.pinned (OpenSpec.ofChange fnExactValidFilmsSpec)

/-- ITS FALSE NEIGHBOUR: 'it returns false'. Refute it at one input. -/
def fnExactValidFilmsWrong : ChangeSpec := { name := "fnExactValidFilms", fn := fun _ => fun
  | [d] => { results := [.lit (.bool false)], args := [d] }
  | _ => none }
def FnExactValidFilmsWrongFalsely : Prop := fnExactValidFilmsRow.holds Try.pinned (OpenSpec.ofChange fnExactValidFilmsWrong)

/-- 'laws.FnExactSetOff': WHATEVER THE INPUT: true; the input reads as it did. -/
def fnExactSetOffSpec : ChangeSpec := { name := "fnExactSetOff", fn := fun _ => fun
  | [d1, d2] => { results := [.lit (.bool true)], args := [d1, d2] }
  | _ => none }
def fnExactSetOffRow : OpenClaim := { program := "ytljemkijpbfcaaa", sum := "5e227ea461f8ebcdf45e5d80c5874935860ba74c3bace15edc0fa8d153ad1d24", func := "loop.example/g01320/laws.FnExactSetOff", spec := "fnExactSetOff", apart := false }
def FnExactSetOffSaid : Prop := fnExactSetOffRow.holds Try.pinned (OpenSpec.ofChange fnExactSetOffSpec)

/-- ITS FALSE NEIGHBOUR: 'it returns false'. Refute it at one input. -/
def fnExactSetOffWrong : ChangeSpec := { name := "fnExactSetOff", fn := fun _ => fun
  | [d1, d2] => { results := [.lit (.bool false)], args := [d1, d2] }
  | _ => none }
def FnExactSetOffWrongFalsely : Prop := fnExactSetOffRow.holds Try.pinned (OpenSpec.ofChange fnExactSetOffWrong)

/-- 'laws.FnExactDryFor': WHATEVER THE INPUT: true; the input reads as it did. -/
def fnExactDryForSpec : ChangeSpec := { name := "fnExactDryFor", fn := fun _ => fun
  | [d1, d2, d3] => { results := [.lit (.bool true)], args := [d1, d2, d3] }
  | _ => none }
def fnExactDryForRow : OpenClaim := { program := "ytljemkijpbfcaaa", sum := "5e227ea461f8ebcdf45e5d80c5874935860ba74c3bace15edc0fa8d153ad1d24", func := "loop.example/g01320/laws.FnExactDryFor", spec := "fnExactDryFor", apart := false }
def FnExactDryForSaid : Prop := fnExactDryForRow.holds Try.pinned (OpenSpec.ofChange fnExactDryForSpec)

/-- ITS FALSE NEIGHBOUR: 'it returns false'. Refute it at one input. -/
def fnExactDryForWrong : ChangeSpec := { name := "fnExactDryFor", fn := fun _ => fun
  | [d1, d2, d3] => { results := [.lit (.bool false)], args := [d1, d2, d3] }
  | _ => none }
def FnExactDryForWrongFalsely : Prop := fnExactDryForRow.holds Try.pinned (OpenSpec.ofChange fnExactDryForWrong)

/-- 'laws.FnExactStepsToDry': WHATEVER THE INPUT: true; the input reads as it did. -/
def fnExactStepsToDrySpec : ChangeSpec := { name := "fnExactStepsToDry", fn := fun _ => fun
  | [d1, d2, d3, d4, d5] => { results := [.lit (.bool true)], args := [d1, d2, d3, d4, d5] }
  | _ => none }
def fnExactStepsToDryRow : OpenClaim := { program := "ytljemkijpbfcaaa", sum := "5e227ea461f8ebcdf45e5d80c5874935860ba74c3bace15edc0fa8d153ad1d24", func := "loop.example/g01320/laws.FnExactStepsToDry", spec := "fnExactStepsToDry", apart := false }
def FnExactStepsToDrySaid : Prop := fnExactStepsToDryRow.holds Try.pinned (OpenSpec.ofChange fnExactStepsToDrySpec)

/-- ITS FALSE NEIGHBOUR: 'it returns false'. Refute it at one input. -/
def fnExactStepsToDryWrong : ChangeSpec := { name := "fnExactStepsToDry", fn := fun _ => fun
  | [d1, d2, d3, d4, d5] => { results := [.lit (.bool false)], args := [d1, d2, d3, d4, d5] }
  | _ => none }
def FnExactStepsToDryWrongFalsely : Prop := fnExactStepsToDryRow.holds Try.pinned (OpenSpec.ofChange fnExactStepsToDryWrong)

/-- 'laws.FnExactTotalWet': WHATEVER THE INPUT: true; the input reads as it did. -/
def fnExactTotalWetSpec : ChangeSpec := { name := "fnExactTotalWet", fn := fun _ => fun
  | [d] => { results := [.lit (.bool true)], args := [d] }
  | _ => none }
def fnExactTotalWetRow : OpenClaim := { program := "ytljemkijpbfcaaa", sum := "5e227ea461f8ebcdf45e5d80c5874935860ba74c3bace15edc0fa8d153ad1d24", func := "loop.example/g01320/laws.FnExactTotalWet", spec := "fnExactTotalWet", apart := false }
def FnExactTotalWetSaid : Prop := fnExactTotalWetRow.holds Try.pinned (OpenSpec.ofChange fnExactTotalWetSpec)

/-- ITS FALSE NEIGHBOUR: 'it returns false'. Refute it at one input. -/
def fnExactTotalWetWrong : ChangeSpec := { name := "fnExactTotalWet", fn := fun _ => fun
  | [d] => { results := [.lit (.bool false)], args := [d] }
  | _ => none }
def FnExactTotalWetWrongFalsely : Prop := fnExactTotalWetRow.holds Try.pinned (OpenSpec.ofChange fnExactTotalWetWrong)

/-- 'laws.FnExactLayFilm': WHATEVER THE INPUT: true; the input reads as it did. -/
def fnExactLayFilmSpec : ChangeSpec := { name := "fnExactLayFilm", fn := fun _ => fun
  | [d1, d2, d3] => { results := [.lit (.bool true)], args := [d1, d2, d3] }
  | _ => none }
def fnExactLayFilmRow : OpenClaim := { program := "ytljemkijpbfcaaa", sum := "5e227ea461f8ebcdf45e5d80c5874935860ba74c3bace15edc0fa8d153ad1d24", func := "loop.example/g01320/laws.FnExactLayFilm", spec := "fnExactLayFilm", apart := false }
def FnExactLayFilmSaid : Prop := fnExactLayFilmRow.holds Try.pinned (OpenSpec.ofChange fnExactLayFilmSpec)

/-- ITS FALSE NEIGHBOUR: 'it returns false'. Refute it at one input. -/
def fnExactLayFilmWrong : ChangeSpec := { name := "fnExactLayFilm", fn := fun _ => fun
  | [d1, d2, d3] => { results := [.lit (.bool false)], args := [d1, d2, d3] }
  | _ => none }
def FnExactLayFilmWrongFalsely : Prop := fnExactLayFilmRow.holds Try.pinned (OpenSpec.ofChange fnExactLayFilmWrong)

/-- 'laws.FnExactTallestPile': WHATEVER THE INPUT: true; the input reads as it did. -/
def fnExactTallestPileSpec : ChangeSpec := { name := "fnExactTallestPile", fn := fun _ => fun
  | [d1, d2, d3, d4, d5] => { results := [.lit (.bool true)], args := [d1, d2, d3, d4, d5] }
  | _ => none }
def fnExactTallestPileRow : OpenClaim := { program := "ytljemkijpbfcaaa", sum := "5e227ea461f8ebcdf45e5d80c5874935860ba74c3bace15edc0fa8d153ad1d24", func := "loop.example/g01320/laws.FnExactTallestPile", spec := "fnExactTallestPile", apart := false }
def FnExactTallestPileSaid : Prop := fnExactTallestPileRow.holds Try.pinned (OpenSpec.ofChange fnExactTallestPileSpec)

/-- ITS FALSE NEIGHBOUR: 'it returns false'. Refute it at one input. -/
def fnExactTallestPileWrong : ChangeSpec := { name := "fnExactTallestPile", fn := fun _ => fun
  | [d1, d2, d3, d4, d5] => { results := [.lit (.bool false)], args := [d1, d2, d3, d4, d5] }
  | _ => none }
def FnExactTallestPileWrongFalsely : Prop := fnExactTallestPileRow.holds Try.pinned (OpenSpec.ofChange fnExactTallestPileWrong)

/-- 'laws.FnExactWorstBack': WHATEVER THE INPUT: true; the input reads as it did. -/
def fnExactWorstBackSpec : ChangeSpec := { name := "fnExactWorstBack", fn := fun _ => fun
  | [d1, d2, d3, d4, d5] => { results := [.lit (.bool true)], args := [d1, d2, d3, d4, d5] }
  | _ => none }
def fnExactWorstBackRow : OpenClaim := { program := "ytljemkijpbfcaaa", sum := "5e227ea461f8ebcdf45e5d80c5874935860ba74c3bace15edc0fa8d153ad1d24", func := "loop.example/g01320/laws.FnExactWorstBack", spec := "fnExactWorstBack", apart := false }
def FnExactWorstBackSaid : Prop := fnExactWorstBackRow.holds Try.pinned (OpenSpec.ofChange fnExactWorstBackSpec)

/-- ITS FALSE NEIGHBOUR: 'it returns false'. Refute it at one input. -/
def fnExactWorstBackWrong : ChangeSpec := { name := "fnExactWorstBack", fn := fun _ => fun
  | [d1, d2, d3, d4, d5] => { results := [.lit (.bool false)], args := [d1, d2, d3, d4, d5] }
  | _ => none }
def FnExactWorstBackWrongFalsely : Prop := fnExactWorstBackRow.holds Try.pinned (OpenSpec.ofChange fnExactWorstBackWrong)

/-- 'laws.FnExactDryFilms': WHATEVER THE INPUT: true; the input reads as it did. -/
def fnExactDryFilmsSpec : ChangeSpec := { name := "fnExactDryFilms", fn := fun _ => fun
  | [d1, d2, d3] => { results := [.lit (.bool true)], args := [d1, d2, d3] }
  | _ => none }
def fnExactDryFilmsRow : OpenClaim := { program := "ytljemkijpbfcaaa", sum := "5e227ea461f8ebcdf45e5d80c5874935860ba74c3bace15edc0fa8d153ad1d24", func := "loop.example/g01320/laws.FnExactDryFilms", spec := "fnExactDryFilms", apart := false }
def FnExactDryFilmsSaid : Prop := fnExactDryFilmsRow.holds Try.pinned (OpenSpec.ofChange fnExactDryFilmsSpec)

/-- ITS FALSE NEIGHBOUR: 'it returns false'. Refute it at one input. -/
def fnExactDryFilmsWrong : ChangeSpec := { name := "fnExactDryFilms", fn := fun _ => fun
  | [d1, d2, d3] => { results := [.lit (.bool false)], args := [d1, d2, d3] }
  | _ => none }
def FnExactDryFilmsWrongFalsely : Prop := fnExactDryFilmsRow.holds Try.pinned (OpenSpec.ofChange fnExactDryFilmsWrong)

/-- 'laws.FnExactPileSheets': WHATEVER THE INPUT: true; the input reads as it did. -/
def fnExactPileSheetsSpec : ChangeSpec := { name := "fnExactPileSheets", fn := fun _ => fun
  | [d1, d2, d3, d4, d5] => { results := [.lit (.bool true)], args := [d1, d2, d3, d4, d5] }
  | _ => none }
def fnExactPileSheetsRow : OpenClaim := { program := "ytljemkijpbfcaaa", sum := "5e227ea461f8ebcdf45e5d80c5874935860ba74c3bace15edc0fa8d153ad1d24", func := "loop.example/g01320/laws.FnExactPileSheets", spec := "fnExactPileSheets", apart := false }
def FnExactPileSheetsSaid : Prop := fnExactPileSheetsRow.holds Try.pinned (OpenSpec.ofChange fnExactPileSheetsSpec)

/-- ITS FALSE NEIGHBOUR: 'it returns false'. Refute it at one input. -/
def fnExactPileSheetsWrong : ChangeSpec := { name := "fnExactPileSheets", fn := fun _ => fun
  | [d1, d2, d3, d4, d5] => { results := [.lit (.bool false)], args := [d1, d2, d3, d4, d5] }
  | _ => none }
def FnExactPileSheetsWrongFalsely : Prop := fnExactPileSheetsRow.holds Try.pinned (OpenSpec.ofChange fnExactPileSheetsWrong)

/-- 'laws.FnExactWetAfter': WHATEVER THE INPUT: true; the input reads as it did. -/
def fnExactWetAfterSpec : ChangeSpec := { name := "fnExactWetAfter", fn := fun _ => fun
  | [d1, d2, d3] => { results := [.lit (.bool true)], args := [d1, d2, d3] }
  | _ => none }
def fnExactWetAfterRow : OpenClaim := { program := "ytljemkijpbfcaaa", sum := "5e227ea461f8ebcdf45e5d80c5874935860ba74c3bace15edc0fa8d153ad1d24", func := "loop.example/g01320/laws.FnExactWetAfter", spec := "fnExactWetAfter", apart := false }
def FnExactWetAfterSaid : Prop := fnExactWetAfterRow.holds Try.pinned (OpenSpec.ofChange fnExactWetAfterSpec)

/-- ITS FALSE NEIGHBOUR: 'it returns false'. Refute it at one input. -/
def fnExactWetAfterWrong : ChangeSpec := { name := "fnExactWetAfter", fn := fun _ => fun
  | [d1, d2, d3] => { results := [.lit (.bool false)], args := [d1, d2, d3] }
  | _ => none }
def FnExactWetAfterWrongFalsely : Prop := fnExactWetAfterRow.holds Try.pinned (OpenSpec.ofChange fnExactWetAfterWrong)

/-- 'laws.FnExactFastestPress': WHATEVER THE INPUT: true; the input reads as it did. -/
def fnExactFastestPressSpec : ChangeSpec := { name := "fnExactFastestPress", fn := fun _ => fun
  | [d1, d2, d3] => { results := [.lit (.bool true)], args := [d1, d2, d3] }
  | _ => none }
def fnExactFastestPressRow : OpenClaim := { program := "ytljemkijpbfcaaa", sum := "5e227ea461f8ebcdf45e5d80c5874935860ba74c3bace15edc0fa8d153ad1d24", func := "loop.example/g01320/laws.FnExactFastestPress", spec := "fnExactFastestPress", apart := false }
def FnExactFastestPressSaid : Prop := fnExactFastestPressRow.holds Try.pinned (OpenSpec.ofChange fnExactFastestPressSpec)

/-- ITS FALSE NEIGHBOUR: 'it returns false'. Refute it at one input. -/
def fnExactFastestPressWrong : ChangeSpec := { name := "fnExactFastestPress", fn := fun _ => fun
  | [d1, d2, d3] => { results := [.lit (.bool false)], args := [d1, d2, d3] }
  | _ => none }
def FnExactFastestPressWrongFalsely : Prop := fnExactFastestPressRow.holds Try.pinned (OpenSpec.ofChange fnExactFastestPressWrong)

/- THE SECOND FORM. 'bulk': how many values and letters a reading holds, each counted each time it is reached (what is shared counts as often as it is met; a slice's spare places count too). A statement '..UptoSaid' is the law's where the arguments, and the package variables that the reading takes, are together of bulk at most 1048576: NARROWER than '..Said'. Prove '..Said' where nothing that the law and all that it calls make is longer than what came in: it says more and counts as full. Else prove '..UptoSaid'. A law counts once. -/
mutual
def uptoBulk {H : Type} : DataW H → Nat
  | .lit (.string bytes) => bytes.length + 1
  | .lit _ => 1
  | .nil => 1
  | .ptr d => uptoBulk d + 1
  | .slice elems spare => uptoBulkAll elems + uptoBulkAll spare + 1
  | .agg parts => uptoBulkAll parts + 1
  | .iface _ d => uptoBulk d + 1
  | .map entries => uptoBulkEntries entries + 1
  | .held _ => 1
def uptoBulkAll {H : Type} : List (DataW H) → Nat
  | [] => 0
  | d :: r => uptoBulk d + uptoBulkAll r
def uptoBulkEntries {H : Type} : List (Lit × DataW H) → Nat
  | [] => 0
  | x :: r => uptoBulkEntry x + uptoBulkEntries r
def uptoBulkEntry {H : Type} : Lit × DataW H → Nat
  | (.string bytes, d) => bytes.length + uptoBulk d + 1
  | (_, d) => uptoBulk d + 1
 end
def uptoSmall : (H : Type) → List (DataW H) → Bool := fun _ ds => decide (uptoBulkAll ds ≤ 1048576)
def OpenSpec.upto (s : _root_.Go.ChangeSpec) : _root_.Go.OpenSpec := { _root_.Go.OpenSpec.ofChange s with cond := some uptoSmall }

/-- 'laws.FnExactValidOven', WHERE WHAT IT READS IS OF BULK AT MOST 1048576: true; the input reads as it did. -/
def fnExactValidOvenUptoRow : OpenClaim := { program := "ytljemkijpbfcaaa", sum := "5e227ea461f8ebcdf45e5d80c5874935860ba74c3bace15edc0fa8d153ad1d24", func := "loop.example/g01320/laws.FnExactValidOven", spec := "fnExactValidOven", apart := false, narrowed := true }
def FnExactValidOvenUptoSaid : Prop := fnExactValidOvenUptoRow.holds Try.pinned (OpenSpec.upto fnExactValidOvenSpec)

/-- 'laws.FnExactValidFilms', WHERE WHAT IT READS IS OF BULK AT MOST 1048576: true; the input reads as it did. -/
def fnExactValidFilmsUptoRow : OpenClaim := { program := "ytljemkijpbfcaaa", sum := "5e227ea461f8ebcdf45e5d80c5874935860ba74c3bace15edc0fa8d153ad1d24", func := "loop.example/g01320/laws.FnExactValidFilms", spec := "fnExactValidFilms", apart := false, narrowed := true }
def FnExactValidFilmsUptoSaid : Prop := fnExactValidFilmsUptoRow.holds Try.pinned (OpenSpec.upto fnExactValidFilmsSpec)

/-- 'laws.FnExactSetOff', WHERE WHAT IT READS IS OF BULK AT MOST 1048576: true; the input reads as it did. -/
def fnExactSetOffUptoRow : OpenClaim := { program := "ytljemkijpbfcaaa", sum := "5e227ea461f8ebcdf45e5d80c5874935860ba74c3bace15edc0fa8d153ad1d24", func := "loop.example/g01320/laws.FnExactSetOff", spec := "fnExactSetOff", apart := false, narrowed := true }
def FnExactSetOffUptoSaid : Prop := fnExactSetOffUptoRow.holds Try.pinned (OpenSpec.upto fnExactSetOffSpec)

/-- 'laws.FnExactDryFor', WHERE WHAT IT READS IS OF BULK AT MOST 1048576: true; the input reads as it did. -/
def fnExactDryForUptoRow : OpenClaim := { program := "ytljemkijpbfcaaa", sum := "5e227ea461f8ebcdf45e5d80c5874935860ba74c3bace15edc0fa8d153ad1d24", func := "loop.example/g01320/laws.FnExactDryFor", spec := "fnExactDryFor", apart := false, narrowed := true }
def FnExactDryForUptoSaid : Prop := fnExactDryForUptoRow.holds Try.pinned (OpenSpec.upto fnExactDryForSpec)

/-- 'laws.FnExactStepsToDry', WHERE WHAT IT READS IS OF BULK AT MOST 1048576: true; the input reads as it did. -/
def fnExactStepsToDryUptoRow : OpenClaim := { program := "ytljemkijpbfcaaa", sum := "5e227ea461f8ebcdf45e5d80c5874935860ba74c3bace15edc0fa8d153ad1d24", func := "loop.example/g01320/laws.FnExactStepsToDry", spec := "fnExactStepsToDry", apart := false, narrowed := true }
def FnExactStepsToDryUptoSaid : Prop := fnExactStepsToDryUptoRow.holds Try.pinned (OpenSpec.upto fnExactStepsToDrySpec)

/-- 'laws.FnExactTotalWet', WHERE WHAT IT READS IS OF BULK AT MOST 1048576: true; the input reads as it did. -/
def fnExactTotalWetUptoRow : OpenClaim := { program := "ytljemkijpbfcaaa", sum := "5e227ea461f8ebcdf45e5d80c5874935860ba74c3bace15edc0fa8d153ad1d24", func := "loop.example/g01320/laws.FnExactTotalWet", spec := "fnExactTotalWet", apart := false, narrowed := true }
def FnExactTotalWetUptoSaid : Prop := fnExactTotalWetUptoRow.holds Try.pinned (OpenSpec.upto fnExactTotalWetSpec)

/-- 'laws.FnExactLayFilm', WHERE WHAT IT READS IS OF BULK AT MOST 1048576: true; the input reads as it did. -/
def fnExactLayFilmUptoRow : OpenClaim := { program := "ytljemkijpbfcaaa", sum := "5e227ea461f8ebcdf45e5d80c5874935860ba74c3bace15edc0fa8d153ad1d24", func := "loop.example/g01320/laws.FnExactLayFilm", spec := "fnExactLayFilm", apart := false, narrowed := true }
def FnExactLayFilmUptoSaid : Prop := fnExactLayFilmUptoRow.holds Try.pinned (OpenSpec.upto fnExactLayFilmSpec)

/-- 'laws.FnExactTallestPile', WHERE WHAT IT READS IS OF BULK AT MOST 1048576: true; the input reads as it did. -/
def fnExactTallestPileUptoRow : OpenClaim := { program := "ytljemkijpbfcaaa", sum := "5e227ea461f8ebcdf45e5d80c5874935860ba74c3bace15edc0fa8d153ad1d24", func := "loop.example/g01320/laws.FnExactTallestPile", spec := "fnExactTallestPile", apart := false, narrowed := true }
def FnExactTallestPileUptoSaid : Prop := fnExactTallestPileUptoRow.holds Try.pinned (OpenSpec.upto fnExactTallestPileSpec)

/-- 'laws.FnExactWorstBack', WHERE WHAT IT READS IS OF BULK AT MOST 1048576: true; the input reads as it did. -/
def fnExactWorstBackUptoRow : OpenClaim := { program := "ytljemkijpbfcaaa", sum := "5e227ea461f8ebcdf45e5d80c5874935860ba74c3bace15edc0fa8d153ad1d24", func := "loop.example/g01320/laws.FnExactWorstBack", spec := "fnExactWorstBack", apart := false, narrowed := true }
def FnExactWorstBackUptoSaid : Prop := fnExactWorstBackUptoRow.holds Try.pinned (OpenSpec.upto fnExactWorstBackSpec)

/-- 'laws.FnExactDryFilms', WHERE WHAT IT READS IS OF BULK AT MOST 1048576: true; the input reads as it did. -/
def fnExactDryFilmsUptoRow : OpenClaim := { program := "ytljemkijpbfcaaa", sum := "5e227ea461f8ebcdf45e5d80c5874935860ba74c3bace15edc0fa8d153ad1d24", func := "loop.example/g01320/laws.FnExactDryFilms", spec := "fnExactDryFilms", apart := false, narrowed := true }
def FnExactDryFilmsUptoSaid : Prop := fnExactDryFilmsUptoRow.holds Try.pinned (OpenSpec.upto fnExactDryFilmsSpec)

/-- 'laws.FnExactPileSheets', WHERE WHAT IT READS IS OF BULK AT MOST 1048576: true; the input reads as it did. -/
def fnExactPileSheetsUptoRow : OpenClaim := { program := "ytljemkijpbfcaaa", sum := "5e227ea461f8ebcdf45e5d80c5874935860ba74c3bace15edc0fa8d153ad1d24", func := "loop.example/g01320/laws.FnExactPileSheets", spec := "fnExactPileSheets", apart := false, narrowed := true }
def FnExactPileSheetsUptoSaid : Prop := fnExactPileSheetsUptoRow.holds Try.pinned (OpenSpec.upto fnExactPileSheetsSpec)

/-- 'laws.FnExactWetAfter', WHERE WHAT IT READS IS OF BULK AT MOST 1048576: true; the input reads as it did. -/
def fnExactWetAfterUptoRow : OpenClaim := { program := "ytljemkijpbfcaaa", sum := "5e227ea461f8ebcdf45e5d80c5874935860ba74c3bace15edc0fa8d153ad1d24", func := "loop.example/g01320/laws.FnExactWetAfter", spec := "fnExactWetAfter", apart := false, narrowed := true }
def FnExactWetAfterUptoSaid : Prop := fnExactWetAfterUptoRow.holds Try.pinned (OpenSpec.upto fnExactWetAfterSpec)

/-- 'laws.FnExactFastestPress', WHERE WHAT IT READS IS OF BULK AT MOST 1048576: true; the input reads as it did. -/
def fnExactFastestPressUptoRow : OpenClaim := { program := "ytljemkijpbfcaaa", sum := "5e227ea461f8ebcdf45e5d80c5874935860ba74c3bace15edc0fa8d153ad1d24", func := "loop.example/g01320/laws.FnExactFastestPress", spec := "fnExactFastestPress", apart := false, narrowed := true }
def FnExactFastestPressUptoSaid : Prop := fnExactFastestPressUptoRow.holds Try.pinned (OpenSpec.upto fnExactFastestPressSpec)

end Rows
end Go.Proofs.Ytljemkijpbfcaaa
