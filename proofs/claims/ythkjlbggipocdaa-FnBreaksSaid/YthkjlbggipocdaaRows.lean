/-
  No cell of these rows narrows 'for every input' (looked for: loops, veiled, ifaces, maps, wideKeys, modest, calm, conditions, laid).
  DERIVED. THE GIVEN ROWS OF THIS SEAT. 21 by the template 'for every input the law returns true; each argument reads behind the call as it read before'; 0 by the template 'total and deterministic' (their statements: YthkjlbggipocdaaTotals.lean).
  GIVEN WITH THE SEED: the statements are not yours to turn. If you find one false, say at which input.
  Laid BY PROGRAM, IN A SANDBOX (cutbox-rows.mjs): the forced cells as the released guide's own fill.sh prints them over the translation 35680a6f7e88f683… (all of the seat's roots in one cut). By AI agents, Wed Nov 11 2026. No macro, syntax, notation, axiom, sorry.
-/
import Derived.Test.YthkjlbggipocdaaChecked
import GoSem.Claim
import GoSem.ClaimJoined
import GoSem.ClaimMapViews
import Derived.JoinedTies
import Derived.KernelRfl
namespace Go.Proofs.Ythkjlbggipocdaa
/- THE CELL 'sum', in the pinned program and in every row, IS THE sha256 OF THE DUMP (.gsa) THAT YthkjlbggipocdaaProg.lean LOADS. Nothing in Lean hashes anything: it is a label: what it is worth is what the hold of that sum in a sandbox is worth. -/
noncomputable def Try.pinned : Pinned := { name := "ythkjlbggipocdaa", sum := "35680a6f7e88f683bdbb881de149857361c7d6f2f8d5861eaaaa9257019c038c", checked := Try.checked }
namespace Rows
def none {H : Type} : Left H := { results := [], args := [] }

/-- 'laws.FnSteadyWebs': WHATEVER THE INPUT: true; the input reads as it did. -/
def fnSteadyWebsSpec : ChangeSpec := { name := "fnSteadyWebs", fn := fun _ => fun
  | [d1, d2] => { results := [.lit (.bool true)], args := [d1, d2] }
  | _ => none }
def fnSteadyWebsRow : OpenClaim := { program := "ythkjlbggipocdaa", sum := "35680a6f7e88f683bdbb881de149857361c7d6f2f8d5861eaaaa9257019c038c", func := "loop.example/g01320/laws.FnSteadyWebs", spec := "fnSteadyWebs", inPlace := ["math.Float32bits", "math.Float64bits", "math.Float64frombits"], apart := false }
def FnSteadyWebsSaid : Prop := fnSteadyWebsRow.holds Try.pinned (OpenSpec.ofChange fnSteadyWebsSpec)

/-- ITS FALSE NEIGHBOUR: 'it returns false'. Refute it at one input. -/
def fnSteadyWebsWrong : ChangeSpec := { name := "fnSteadyWebs", fn := fun _ => fun
  | [d1, d2] => { results := [.lit (.bool false)], args := [d1, d2] }
  | _ => none }
def FnSteadyWebsWrongFalsely : Prop := fnSteadyWebsRow.holds Try.pinned (OpenSpec.ofChange fnSteadyWebsWrong)

/-- 'laws.FnExactValidWeb': WHATEVER THE INPUT: true; the input reads as it did. -/
def fnExactValidWebSpec : ChangeSpec := { name := "fnExactValidWeb", fn := fun _ => fun
  | [d] => { results := [.lit (.bool true)], args := [d] }
  | _ => none }
def fnExactValidWebRow : OpenClaim := { program := "ythkjlbggipocdaa", sum := "35680a6f7e88f683bdbb881de149857361c7d6f2f8d5861eaaaa9257019c038c", func := "loop.example/g01320/laws.FnExactValidWeb", spec := "fnExactValidWeb", apart := false }
def FnExactValidWebSaid : Prop := fnExactValidWebRow.holds Try.pinned (OpenSpec.ofChange fnExactValidWebSpec)

/-- ITS FALSE NEIGHBOUR: 'it returns false'. Refute it at one input. -/
def fnExactValidWebWrong : ChangeSpec := { name := "fnExactValidWeb", fn := fun _ => fun
  | [d] => { results := [.lit (.bool false)], args := [d] }
  | _ => none }
def FnExactValidWebWrongFalsely : Prop := fnExactValidWebRow.holds Try.pinned (OpenSpec.ofChange fnExactValidWebWrong)

/-- 'laws.FnExactSameWeb': WHATEVER THE INPUT: true; the input reads as it did. -/
def fnExactSameWebSpec : ChangeSpec := { name := "fnExactSameWeb", fn := fun _ => fun
  | [d1, d2] => { results := [.lit (.bool true)], args := [d1, d2] }
  | _ => none }
def fnExactSameWebRow : OpenClaim := { program := "ythkjlbggipocdaa", sum := "35680a6f7e88f683bdbb881de149857361c7d6f2f8d5861eaaaa9257019c038c", func := "loop.example/g01320/laws.FnExactSameWeb", spec := "fnExactSameWeb", inPlace := ["math.Float32bits", "math.Float64bits"], apart := false }
def FnExactSameWebSaid : Prop := fnExactSameWebRow.holds Try.pinned (OpenSpec.ofChange fnExactSameWebSpec)

/-- ITS FALSE NEIGHBOUR: 'it returns false'. Refute it at one input. -/
def fnExactSameWebWrong : ChangeSpec := { name := "fnExactSameWeb", fn := fun _ => fun
  | [d1, d2] => { results := [.lit (.bool false)], args := [d1, d2] }
  | _ => none }
def FnExactSameWebWrongFalsely : Prop := fnExactSameWebRow.holds Try.pinned (OpenSpec.ofChange fnExactSameWebWrong)

/-- 'laws.FnExactTightestSpan': WHATEVER THE INPUT: true; the input reads as it did. -/
def fnExactTightestSpanSpec : ChangeSpec := { name := "fnExactTightestSpan", fn := fun _ => fun
  | [d] => { results := [.lit (.bool true)], args := [d] }
  | _ => none }
def fnExactTightestSpanRow : OpenClaim := { program := "ythkjlbggipocdaa", sum := "35680a6f7e88f683bdbb881de149857361c7d6f2f8d5861eaaaa9257019c038c", func := "loop.example/g01320/laws.FnExactTightestSpan", spec := "fnExactTightestSpan", apart := false }
def FnExactTightestSpanSaid : Prop := fnExactTightestSpanRow.holds Try.pinned (OpenSpec.ofChange fnExactTightestSpanSpec)

/-- ITS FALSE NEIGHBOUR: 'it returns false'. Refute it at one input. -/
def fnExactTightestSpanWrong : ChangeSpec := { name := "fnExactTightestSpan", fn := fun _ => fun
  | [d] => { results := [.lit (.bool false)], args := [d] }
  | _ => none }
def FnExactTightestSpanWrongFalsely : Prop := fnExactTightestSpanRow.holds Try.pinned (OpenSpec.ofChange fnExactTightestSpanWrong)

/-- 'laws.FnExactStretchAt': WHATEVER THE INPUT: true; the input reads as it did. -/
def fnExactStretchAtSpec : ChangeSpec := { name := "fnExactStretchAt", fn := fun _ => fun
  | [d1, d2] => { results := [.lit (.bool true)], args := [d1, d2] }
  | _ => none }
def fnExactStretchAtRow : OpenClaim := { program := "ythkjlbggipocdaa", sum := "35680a6f7e88f683bdbb881de149857361c7d6f2f8d5861eaaaa9257019c038c", func := "loop.example/g01320/laws.FnExactStretchAt", spec := "fnExactStretchAt", apart := false }
def FnExactStretchAtSaid : Prop := fnExactStretchAtRow.holds Try.pinned (OpenSpec.ofChange fnExactStretchAtSpec)

/-- ITS FALSE NEIGHBOUR: 'it returns false'. Refute it at one input. -/
def fnExactStretchAtWrong : ChangeSpec := { name := "fnExactStretchAt", fn := fun _ => fun
  | [d1, d2] => { results := [.lit (.bool false)], args := [d1, d2] }
  | _ => none }
def FnExactStretchAtWrongFalsely : Prop := fnExactStretchAtRow.holds Try.pinned (OpenSpec.ofChange fnExactStretchAtWrong)

/-- 'laws.FnExactPullAt': WHATEVER THE INPUT: true; the input reads as it did. -/
def fnExactPullAtSpec : ChangeSpec := { name := "fnExactPullAt", fn := fun _ => fun
  | [d1, d2] => { results := [.lit (.bool true)], args := [d1, d2] }
  | _ => none }
def fnExactPullAtRow : OpenClaim := { program := "ythkjlbggipocdaa", sum := "35680a6f7e88f683bdbb881de149857361c7d6f2f8d5861eaaaa9257019c038c", func := "loop.example/g01320/laws.FnExactPullAt", spec := "fnExactPullAt", apart := false }
def FnExactPullAtSaid : Prop := fnExactPullAtRow.holds Try.pinned (OpenSpec.ofChange fnExactPullAtSpec)

/-- ITS FALSE NEIGHBOUR: 'it returns false'. Refute it at one input. -/
def fnExactPullAtWrong : ChangeSpec := { name := "fnExactPullAt", fn := fun _ => fun
  | [d1, d2] => { results := [.lit (.bool false)], args := [d1, d2] }
  | _ => none }
def FnExactPullAtWrongFalsely : Prop := fnExactPullAtRow.holds Try.pinned (OpenSpec.ofChange fnExactPullAtWrong)

/-- 'laws.FnExactPaperIn': WHATEVER THE INPUT: true; the input reads as it did. -/
def fnExactPaperInSpec : ChangeSpec := { name := "fnExactPaperIn", fn := fun _ => fun
  | [d] => { results := [.lit (.bool true)], args := [d] }
  | _ => none }
def fnExactPaperInRow : OpenClaim := { program := "ythkjlbggipocdaa", sum := "35680a6f7e88f683bdbb881de149857361c7d6f2f8d5861eaaaa9257019c038c", func := "loop.example/g01320/laws.FnExactPaperIn", spec := "fnExactPaperIn", apart := false }
def FnExactPaperInSaid : Prop := fnExactPaperInRow.holds Try.pinned (OpenSpec.ofChange fnExactPaperInSpec)

/-- ITS FALSE NEIGHBOUR: 'it returns false'. Refute it at one input. -/
def fnExactPaperInWrong : ChangeSpec := { name := "fnExactPaperIn", fn := fun _ => fun
  | [d] => { results := [.lit (.bool false)], args := [d] }
  | _ => none }
def FnExactPaperInWrongFalsely : Prop := fnExactPaperInRow.holds Try.pinned (OpenSpec.ofChange fnExactPaperInWrong)

/-- 'laws.FnExactRateAt': WHATEVER THE INPUT: true; the input reads as it did. -/
def fnExactRateAtSpec : ChangeSpec := { name := "fnExactRateAt", fn := fun _ => fun
  | [d1, d2] => { results := [.lit (.bool true)], args := [d1, d2] }
  | _ => none }
def fnExactRateAtRow : OpenClaim := { program := "ythkjlbggipocdaa", sum := "35680a6f7e88f683bdbb881de149857361c7d6f2f8d5861eaaaa9257019c038c", func := "loop.example/g01320/laws.FnExactRateAt", spec := "fnExactRateAt", apart := false }
def FnExactRateAtSaid : Prop := fnExactRateAtRow.holds Try.pinned (OpenSpec.ofChange fnExactRateAtSpec)

/-- ITS FALSE NEIGHBOUR: 'it returns false'. Refute it at one input. -/
def fnExactRateAtWrong : ChangeSpec := { name := "fnExactRateAt", fn := fun _ => fun
  | [d1, d2] => { results := [.lit (.bool false)], args := [d1, d2] }
  | _ => none }
def FnExactRateAtWrongFalsely : Prop := fnExactRateAtRow.holds Try.pinned (OpenSpec.ofChange fnExactRateAtWrong)

/-- 'laws.FnExactSlackSpans': WHATEVER THE INPUT: true; the input reads as it did. -/
def fnExactSlackSpansSpec : ChangeSpec := { name := "fnExactSlackSpans", fn := fun _ => fun
  | [d] => { results := [.lit (.bool true)], args := [d] }
  | _ => none }
def fnExactSlackSpansRow : OpenClaim := { program := "ythkjlbggipocdaa", sum := "35680a6f7e88f683bdbb881de149857361c7d6f2f8d5861eaaaa9257019c038c", func := "loop.example/g01320/laws.FnExactSlackSpans", spec := "fnExactSlackSpans", apart := false }
def FnExactSlackSpansSaid : Prop := fnExactSlackSpansRow.holds Try.pinned (OpenSpec.ofChange fnExactSlackSpansSpec)

/-- ITS FALSE NEIGHBOUR: 'it returns false'. Refute it at one input. -/
def fnExactSlackSpansWrong : ChangeSpec := { name := "fnExactSlackSpans", fn := fun _ => fun
  | [d] => { results := [.lit (.bool false)], args := [d] }
  | _ => none }
def FnExactSlackSpansWrongFalsely : Prop := fnExactSlackSpansRow.holds Try.pinned (OpenSpec.ofChange fnExactSlackSpansWrong)

/-- 'laws.FnExactSpeedsFor': WHATEVER THE INPUT: true; the input reads as it did. -/
def fnExactSpeedsForSpec : ChangeSpec := { name := "fnExactSpeedsFor", fn := fun _ => fun
  | [d1, d2] => { results := [.lit (.bool true)], args := [d1, d2] }
  | _ => none }
def fnExactSpeedsForRow : OpenClaim := { program := "ythkjlbggipocdaa", sum := "35680a6f7e88f683bdbb881de149857361c7d6f2f8d5861eaaaa9257019c038c", func := "loop.example/g01320/laws.FnExactSpeedsFor", spec := "fnExactSpeedsFor", apart := false }
def FnExactSpeedsForSaid : Prop := fnExactSpeedsForRow.holds Try.pinned (OpenSpec.ofChange fnExactSpeedsForSpec)

/-- ITS FALSE NEIGHBOUR: 'it returns false'. Refute it at one input. -/
def fnExactSpeedsForWrong : ChangeSpec := { name := "fnExactSpeedsFor", fn := fun _ => fun
  | [d1, d2] => { results := [.lit (.bool false)], args := [d1, d2] }
  | _ => none }
def FnExactSpeedsForWrongFalsely : Prop := fnExactSpeedsForRow.holds Try.pinned (OpenSpec.ofChange fnExactSpeedsForWrong)

/-- 'laws.FnExactWithSpeed': WHATEVER THE INPUT: true; the input reads as it did. -/
def fnExactWithSpeedSpec : ChangeSpec := { name := "fnExactWithSpeed", fn := fun _ => fun
  | [d1, d2, d3] => { results := [.lit (.bool true)], args := [d1, d2, d3] }
  | _ => none }
def fnExactWithSpeedRow : OpenClaim := { program := "ythkjlbggipocdaa", sum := "35680a6f7e88f683bdbb881de149857361c7d6f2f8d5861eaaaa9257019c038c", func := "loop.example/g01320/laws.FnExactWithSpeed", spec := "fnExactWithSpeed", unfollowed := true, recurses := true, apart := false }
def FnExactWithSpeedSaid : Prop := fnExactWithSpeedRow.holds Try.pinned (OpenSpec.ofChange fnExactWithSpeedSpec)

/-- ITS FALSE NEIGHBOUR: 'it returns false'. Refute it at one input. -/
def fnExactWithSpeedWrong : ChangeSpec := { name := "fnExactWithSpeed", fn := fun _ => fun
  | [d1, d2, d3] => { results := [.lit (.bool false)], args := [d1, d2, d3] }
  | _ => none }
def FnExactWithSpeedWrongFalsely : Prop := fnExactWithSpeedRow.holds Try.pinned (OpenSpec.ofChange fnExactWithSpeedWrong)

/-- 'laws.FnExactWithTension': WHATEVER THE INPUT: true; the input reads as it did. -/
def fnExactWithTensionSpec : ChangeSpec := { name := "fnExactWithTension", fn := fun _ => fun
  | [d1, d2, d3] => { results := [.lit (.bool true)], args := [d1, d2, d3] }
  | _ => none }
def fnExactWithTensionRow : OpenClaim := { program := "ythkjlbggipocdaa", sum := "35680a6f7e88f683bdbb881de149857361c7d6f2f8d5861eaaaa9257019c038c", func := "loop.example/g01320/laws.FnExactWithTension", spec := "fnExactWithTension", unfollowed := true, recurses := true, apart := false }
def FnExactWithTensionSaid : Prop := fnExactWithTensionRow.holds Try.pinned (OpenSpec.ofChange fnExactWithTensionSpec)

/-- ITS FALSE NEIGHBOUR: 'it returns false'. Refute it at one input. -/
def fnExactWithTensionWrong : ChangeSpec := { name := "fnExactWithTension", fn := fun _ => fun
  | [d1, d2, d3] => { results := [.lit (.bool false)], args := [d1, d2, d3] }
  | _ => none }
def FnExactWithTensionWrongFalsely : Prop := fnExactWithTensionRow.holds Try.pinned (OpenSpec.ofChange fnExactWithTensionWrong)

/-- 'laws.FnExactSteadyTensions': WHATEVER THE INPUT: true; the input reads as it did. -/
def fnExactSteadyTensionsSpec : ChangeSpec := { name := "fnExactSteadyTensions", fn := fun _ => fun
  | [d] => { results := [.lit (.bool true)], args := [d] }
  | _ => none }
def fnExactSteadyTensionsRow : OpenClaim := { program := "ythkjlbggipocdaa", sum := "35680a6f7e88f683bdbb881de149857361c7d6f2f8d5861eaaaa9257019c038c", func := "loop.example/g01320/laws.FnExactSteadyTensions", spec := "fnExactSteadyTensions", apart := false }
def FnExactSteadyTensionsSaid : Prop := fnExactSteadyTensionsRow.holds Try.pinned (OpenSpec.ofChange fnExactSteadyTensionsSpec)

/-- ITS FALSE NEIGHBOUR: 'it returns false'. Refute it at one input. -/
def fnExactSteadyTensionsWrong : ChangeSpec := { name := "fnExactSteadyTensions", fn := fun _ => fun
  | [d] => { results := [.lit (.bool false)], args := [d] }
  | _ => none }
def FnExactSteadyTensionsWrongFalsely : Prop := fnExactSteadyTensionsRow.holds Try.pinned (OpenSpec.ofChange fnExactSteadyTensionsWrong)

/-- 'laws.FnExactFirstBreak': WHATEVER THE INPUT: true; the input reads as it did. -/
def fnExactFirstBreakSpec : ChangeSpec := { name := "fnExactFirstBreak", fn := fun _ => fun
  | [d1, d2, d3, d4] => { results := [.lit (.bool true)], args := [d1, d2, d3, d4] }
  | _ => none }
def fnExactFirstBreakRow : OpenClaim := { program := "ythkjlbggipocdaa", sum := "35680a6f7e88f683bdbb881de149857361c7d6f2f8d5861eaaaa9257019c038c", func := "loop.example/g01320/laws.FnExactFirstBreak", spec := "fnExactFirstBreak", apart := false }
def FnExactFirstBreakSaid : Prop := fnExactFirstBreakRow.holds Try.pinned (OpenSpec.ofChange fnExactFirstBreakSpec)

/-- ITS FALSE NEIGHBOUR: 'it returns false'. Refute it at one input. -/
def fnExactFirstBreakWrong : ChangeSpec := { name := "fnExactFirstBreak", fn := fun _ => fun
  | [d1, d2, d3, d4] => { results := [.lit (.bool false)], args := [d1, d2, d3, d4] }
  | _ => none }
def FnExactFirstBreakWrongFalsely : Prop := fnExactFirstBreakRow.holds Try.pinned (OpenSpec.ofChange fnExactFirstBreakWrong)

/-- 'laws.FnExactStepWeb': WHATEVER THE INPUT: true; the input reads as it did. -/
def fnExactStepWebSpec : ChangeSpec := { name := "fnExactStepWeb", fn := fun _ => fun
  | [d1, d2] => { results := [.lit (.bool true)], args := [d1, d2] }
  | _ => none }
def fnExactStepWebRow : OpenClaim := { program := "ythkjlbggipocdaa", sum := "35680a6f7e88f683bdbb881de149857361c7d6f2f8d5861eaaaa9257019c038c", func := "loop.example/g01320/laws.FnExactStepWeb", spec := "fnExactStepWeb", apart := false }
def FnExactStepWebSaid : Prop := fnExactStepWebRow.holds Try.pinned (OpenSpec.ofChange fnExactStepWebSpec)

/-- ITS FALSE NEIGHBOUR: 'it returns false'. Refute it at one input. -/
def fnExactStepWebWrong : ChangeSpec := { name := "fnExactStepWeb", fn := fun _ => fun
  | [d1, d2] => { results := [.lit (.bool false)], args := [d1, d2] }
  | _ => none }
def FnExactStepWebWrongFalsely : Prop := fnExactStepWebRow.holds Try.pinned (OpenSpec.ofChange fnExactStepWebWrong)

/-- 'laws.FnExactSteadyWeb': WHATEVER THE INPUT: true; the input reads as it did. -/
def fnExactSteadyWebSpec : ChangeSpec := { name := "fnExactSteadyWeb", fn := fun _ => fun
  | [d] => { results := [.lit (.bool true)], args := [d] }
  | _ => none }
def fnExactSteadyWebRow : OpenClaim := { program := "ythkjlbggipocdaa", sum := "35680a6f7e88f683bdbb881de149857361c7d6f2f8d5861eaaaa9257019c038c", func := "loop.example/g01320/laws.FnExactSteadyWeb", spec := "fnExactSteadyWeb", apart := false }
def FnExactSteadyWebSaid : Prop := fnExactSteadyWebRow.holds Try.pinned (OpenSpec.ofChange fnExactSteadyWebSpec)

/-- ITS FALSE NEIGHBOUR: 'it returns false'. Refute it at one input. -/
def fnExactSteadyWebWrong : ChangeSpec := { name := "fnExactSteadyWeb", fn := fun _ => fun
  | [d] => { results := [.lit (.bool false)], args := [d] }
  | _ => none }
def FnExactSteadyWebWrongFalsely : Prop := fnExactSteadyWebRow.holds Try.pinned (OpenSpec.ofChange fnExactSteadyWebWrong)

/-- 'laws.FnExactStepsOfWeb': WHATEVER THE INPUT: true; the input reads as it did. -/
def fnExactStepsOfWebSpec : ChangeSpec := { name := "fnExactStepsOfWeb", fn := fun _ => fun
  | [d1, d2, d3] => { results := [.lit (.bool true)], args := [d1, d2, d3] }
  | _ => none }
def fnExactStepsOfWebRow : OpenClaim := { program := "ythkjlbggipocdaa", sum := "35680a6f7e88f683bdbb881de149857361c7d6f2f8d5861eaaaa9257019c038c", func := "loop.example/g01320/laws.FnExactStepsOfWeb", spec := "fnExactStepsOfWeb", apart := false }
def FnExactStepsOfWebSaid : Prop := fnExactStepsOfWebRow.holds Try.pinned (OpenSpec.ofChange fnExactStepsOfWebSpec)

/-- ITS FALSE NEIGHBOUR: 'it returns false'. Refute it at one input. -/
def fnExactStepsOfWebWrong : ChangeSpec := { name := "fnExactStepsOfWeb", fn := fun _ => fun
  | [d1, d2, d3] => { results := [.lit (.bool false)], args := [d1, d2, d3] }
  | _ => none }
def FnExactStepsOfWebWrongFalsely : Prop := fnExactStepsOfWebRow.holds Try.pinned (OpenSpec.ofChange fnExactStepsOfWebWrong)

/-- 'laws.FnExactDancerStep': WHATEVER THE INPUT: true; the input reads as it did. -/
def fnExactDancerStepSpec : ChangeSpec := { name := "fnExactDancerStep", fn := fun _ => fun
  | [d1, d2, d3, d4, d5] => { results := [.lit (.bool true)], args := [d1, d2, d3, d4, d5] }
  | _ => none }
def fnExactDancerStepRow : OpenClaim := { program := "ythkjlbggipocdaa", sum := "35680a6f7e88f683bdbb881de149857361c7d6f2f8d5861eaaaa9257019c038c", func := "loop.example/g01320/laws.FnExactDancerStep", spec := "fnExactDancerStep", apart := false }
def FnExactDancerStepSaid : Prop := fnExactDancerStepRow.holds Try.pinned (OpenSpec.ofChange fnExactDancerStepSpec)

/-- ITS FALSE NEIGHBOUR: 'it returns false'. Refute it at one input. -/
def fnExactDancerStepWrong : ChangeSpec := { name := "fnExactDancerStep", fn := fun _ => fun
  | [d1, d2, d3, d4, d5] => { results := [.lit (.bool false)], args := [d1, d2, d3, d4, d5] }
  | _ => none }
def FnExactDancerStepWrongFalsely : Prop := fnExactDancerStepRow.holds Try.pinned (OpenSpec.ofChange fnExactDancerStepWrong)

/-- 'laws.FnExactDancerRun': WHATEVER THE INPUT: true; the input reads as it did. -/
def fnExactDancerRunSpec : ChangeSpec := { name := "fnExactDancerRun", fn := fun _ => fun
  | [d1, d2, d3, d4, d5, d6] => { results := [.lit (.bool true)], args := [d1, d2, d3, d4, d5, d6] }
  | _ => none }
def fnExactDancerRunRow : OpenClaim := { program := "ythkjlbggipocdaa", sum := "35680a6f7e88f683bdbb881de149857361c7d6f2f8d5861eaaaa9257019c038c", func := "loop.example/g01320/laws.FnExactDancerRun", spec := "fnExactDancerRun", apart := false }
def FnExactDancerRunSaid : Prop := fnExactDancerRunRow.holds Try.pinned (OpenSpec.ofChange fnExactDancerRunSpec)

/-- ITS FALSE NEIGHBOUR: 'it returns false'. Refute it at one input. -/
def fnExactDancerRunWrong : ChangeSpec := { name := "fnExactDancerRun", fn := fun _ => fun
  | [d1, d2, d3, d4, d5, d6] => { results := [.lit (.bool false)], args := [d1, d2, d3, d4, d5, d6] }
  | _ => none }
def FnExactDancerRunWrongFalsely : Prop := fnExactDancerRunRow.holds Try.pinned (OpenSpec.ofChange fnExactDancerRunWrong)

/-- 'laws.FnExactSettleWeb': WHATEVER THE INPUT: true; the input reads as it did. -/
def fnExactSettleWebSpec : ChangeSpec := { name := "fnExactSettleWeb", fn := fun _ => fun
  | [d1, d2, d3, d4] => { results := [.lit (.bool true)], args := [d1, d2, d3, d4] }
  | _ => none }
def fnExactSettleWebRow : OpenClaim := { program := "ythkjlbggipocdaa", sum := "35680a6f7e88f683bdbb881de149857361c7d6f2f8d5861eaaaa9257019c038c", func := "loop.example/g01320/laws.FnExactSettleWeb", spec := "fnExactSettleWeb", inPlace := ["math.Float64bits", "math.Float64frombits"], apart := false }
def FnExactSettleWebSaid : Prop := fnExactSettleWebRow.holds Try.pinned (OpenSpec.ofChange fnExactSettleWebSpec)

/-- ITS FALSE NEIGHBOUR: 'it returns false'. Refute it at one input. -/
def fnExactSettleWebWrong : ChangeSpec := { name := "fnExactSettleWeb", fn := fun _ => fun
  | [d1, d2, d3, d4] => { results := [.lit (.bool false)], args := [d1, d2, d3, d4] }
  | _ => none }
def FnExactSettleWebWrongFalsely : Prop := fnExactSettleWebRow.holds Try.pinned (OpenSpec.ofChange fnExactSettleWebWrong)

/-- 'laws.FnBreaks': WHATEVER THE INPUT: true; the input reads as it did. -/
def fnBreaksSpec : ChangeSpec := { name := "fnBreaks", fn := fun _ => fun
  | [d1, d2] => { results := [.lit (.bool true)], args := [d1, d2] }
  | _ => none }
def fnBreaksRow : OpenClaim := { program := "ythkjlbggipocdaa", sum := "35680a6f7e88f683bdbb881de149857361c7d6f2f8d5861eaaaa9257019c038c", func := "loop.example/g01320/laws.FnBreaks", spec := "fnBreaks", inPlace := ["math.Float32bits"], unfollowed := true, recurses := true, apart := false }
def FnBreaksSaid : Prop := fnBreaksRow.holds Try.pinned (OpenSpec.ofChange fnBreaksSpec)

/-- ITS FALSE NEIGHBOUR: 'it returns false'. Refute it at one input. -/
def fnBreaksWrong : ChangeSpec := { name := "fnBreaks", fn := fun _ => fun
  | [d1, d2] => { results := [.lit (.bool false)], args := [d1, d2] }
  | _ => none }
def FnBreaksWrongFalsely : Prop := fnBreaksRow.holds Try.pinned (OpenSpec.ofChange fnBreaksWrong)

/- THE SECOND FORM. 'bulk': how many values and letters a reading holds, each counted each time it is reached (what is shared counts as often as it is met; a slice's spare places count too). A statement '..UptoSaid' is the law's where the arguments, and the package variables that the reading takes, are together of bulk at most 1048576: NARROWER than '..Said'. Prove '..Said' where nothing that the law and all that it calls make is longer than what came in: it says more and counts as full. Else prove '..UptoSaid'. A law counts once. -/
mutual
def uptoBulk {H : Type} : DataW H → Nat
  | .lit (.string bytes) => bytes.length + 1
  | .lit _ => 1
  | .nil => 1
  | .ptr d => uptoBulk d + 1
  | .slice elems spare => uptoBulkAll elems + uptoBulkAll spare + 1
  | .agg parts => uptoBulkAll parts + 1
  | .iface _ d => uptoBulk d + 1
  | .map entries => uptoBulkEntries entries + 1
  | .held _ => 1
def uptoBulkAll {H : Type} : List (DataW H) → Nat
  | [] => 0
  | d :: r => uptoBulk d + uptoBulkAll r
def uptoBulkEntries {H : Type} : List (Lit × DataW H) → Nat
  | [] => 0
  | x :: r => uptoBulkEntry x + uptoBulkEntries r
def uptoBulkEntry {H : Type} : Lit × DataW H → Nat
  | (.string bytes, d) => bytes.length + uptoBulk d + 1
  | (_, d) => uptoBulk d + 1
 end
def uptoSmall : (H : Type) → List (DataW H) → Bool := fun _ ds => decide (uptoBulkAll ds ≤ 1048576)
def OpenSpec.upto (s : _root_.Go.ChangeSpec) : _root_.Go.OpenSpec := { _root_.Go.OpenSpec.ofChange s with cond := some uptoSmall }

/-- 'laws.FnSteadyWebs', WHERE WHAT IT READS IS OF BULK AT MOST 1048576: true; the input reads as it did. -/
def fnSteadyWebsUptoRow : OpenClaim := { program := "ythkjlbggipocdaa", sum := "35680a6f7e88f683bdbb881de149857361c7d6f2f8d5861eaaaa9257019c038c", func := "loop.example/g01320/laws.FnSteadyWebs", spec := "fnSteadyWebs", inPlace := ["math.Float32bits", "math.Float64bits", "math.Float64frombits"], apart := false, narrowed := true }
def FnSteadyWebsUptoSaid : Prop := fnSteadyWebsUptoRow.holds Try.pinned (OpenSpec.upto fnSteadyWebsSpec)

/-- 'laws.FnExactValidWeb', WHERE WHAT IT READS IS OF BULK AT MOST 1048576: true; the input reads as it did. -/
def fnExactValidWebUptoRow : OpenClaim := { program := "ythkjlbggipocdaa", sum := "35680a6f7e88f683bdbb881de149857361c7d6f2f8d5861eaaaa9257019c038c", func := "loop.example/g01320/laws.FnExactValidWeb", spec := "fnExactValidWeb", apart := false, narrowed := true }
def FnExactValidWebUptoSaid : Prop := fnExactValidWebUptoRow.holds Try.pinned (OpenSpec.upto fnExactValidWebSpec)

/-- 'laws.FnExactSameWeb', WHERE WHAT IT READS IS OF BULK AT MOST 1048576: true; the input reads as it did. -/
def fnExactSameWebUptoRow : OpenClaim := { program := "ythkjlbggipocdaa", sum := "35680a6f7e88f683bdbb881de149857361c7d6f2f8d5861eaaaa9257019c038c", func := "loop.example/g01320/laws.FnExactSameWeb", spec := "fnExactSameWeb", inPlace := ["math.Float32bits", "math.Float64bits"], apart := false, narrowed := true }
def FnExactSameWebUptoSaid : Prop := fnExactSameWebUptoRow.holds Try.pinned (OpenSpec.upto fnExactSameWebSpec)

/-- 'laws.FnExactTightestSpan', WHERE WHAT IT READS IS OF BULK AT MOST 1048576: true; the input reads as it did. -/
def fnExactTightestSpanUptoRow : OpenClaim := { program := "ythkjlbggipocdaa", sum := "35680a6f7e88f683bdbb881de149857361c7d6f2f8d5861eaaaa9257019c038c", func := "loop.example/g01320/laws.FnExactTightestSpan", spec := "fnExactTightestSpan", apart := false, narrowed := true }
def FnExactTightestSpanUptoSaid : Prop := fnExactTightestSpanUptoRow.holds Try.pinned (OpenSpec.upto fnExactTightestSpanSpec)

/-- 'laws.FnExactStretchAt', WHERE WHAT IT READS IS OF BULK AT MOST 1048576: true; the input reads as it did. -/
def fnExactStretchAtUptoRow : OpenClaim := { program := "ythkjlbggipocdaa", sum := "35680a6f7e88f683bdbb881de149857361c7d6f2f8d5861eaaaa9257019c038c", func := "loop.example/g01320/laws.FnExactStretchAt", spec := "fnExactStretchAt", apart := false, narrowed := true }
def FnExactStretchAtUptoSaid : Prop := fnExactStretchAtUptoRow.holds Try.pinned (OpenSpec.upto fnExactStretchAtSpec)

/-- 'laws.FnExactPullAt', WHERE WHAT IT READS IS OF BULK AT MOST 1048576: true; the input reads as it did. -/
def fnExactPullAtUptoRow : OpenClaim := { program := "ythkjlbggipocdaa", sum := "35680a6f7e88f683bdbb881de149857361c7d6f2f8d5861eaaaa9257019c038c", func := "loop.example/g01320/laws.FnExactPullAt", spec := "fnExactPullAt", apart := false, narrowed := true }
def FnExactPullAtUptoSaid : Prop := fnExactPullAtUptoRow.holds Try.pinned (OpenSpec.upto fnExactPullAtSpec)

/-- 'laws.FnExactPaperIn', WHERE WHAT IT READS IS OF BULK AT MOST 1048576: true; the input reads as it did. -/
def fnExactPaperInUptoRow : OpenClaim := { program := "ythkjlbggipocdaa", sum := "35680a6f7e88f683bdbb881de149857361c7d6f2f8d5861eaaaa9257019c038c", func := "loop.example/g01320/laws.FnExactPaperIn", spec := "fnExactPaperIn", apart := false, narrowed := true }
def FnExactPaperInUptoSaid : Prop := fnExactPaperInUptoRow.holds Try.pinned (OpenSpec.upto fnExactPaperInSpec)

/-- 'laws.FnExactRateAt', WHERE WHAT IT READS IS OF BULK AT MOST 1048576: true; the input reads as it did. -/
def fnExactRateAtUptoRow : OpenClaim := { program := "ythkjlbggipocdaa", sum := "35680a6f7e88f683bdbb881de149857361c7d6f2f8d5861eaaaa9257019c038c", func := "loop.example/g01320/laws.FnExactRateAt", spec := "fnExactRateAt", apart := false, narrowed := true }
def FnExactRateAtUptoSaid : Prop := fnExactRateAtUptoRow.holds Try.pinned (OpenSpec.upto fnExactRateAtSpec)

/-- 'laws.FnExactSlackSpans', WHERE WHAT IT READS IS OF BULK AT MOST 1048576: true; the input reads as it did. -/
def fnExactSlackSpansUptoRow : OpenClaim := { program := "ythkjlbggipocdaa", sum := "35680a6f7e88f683bdbb881de149857361c7d6f2f8d5861eaaaa9257019c038c", func := "loop.example/g01320/laws.FnExactSlackSpans", spec := "fnExactSlackSpans", apart := false, narrowed := true }
def FnExactSlackSpansUptoSaid : Prop := fnExactSlackSpansUptoRow.holds Try.pinned (OpenSpec.upto fnExactSlackSpansSpec)

/-- 'laws.FnExactSpeedsFor', WHERE WHAT IT READS IS OF BULK AT MOST 1048576: true; the input reads as it did. -/
def fnExactSpeedsForUptoRow : OpenClaim := { program := "ythkjlbggipocdaa", sum := "35680a6f7e88f683bdbb881de149857361c7d6f2f8d5861eaaaa9257019c038c", func := "loop.example/g01320/laws.FnExactSpeedsFor", spec := "fnExactSpeedsFor", apart := false, narrowed := true }
def FnExactSpeedsForUptoSaid : Prop := fnExactSpeedsForUptoRow.holds Try.pinned (OpenSpec.upto fnExactSpeedsForSpec)

/-- 'laws.FnExactWithSpeed', WHERE WHAT IT READS IS OF BULK AT MOST 1048576: true; the input reads as it did. -/
def fnExactWithSpeedUptoRow : OpenClaim := { program := "ythkjlbggipocdaa", sum := "35680a6f7e88f683bdbb881de149857361c7d6f2f8d5861eaaaa9257019c038c", func := "loop.example/g01320/laws.FnExactWithSpeed", spec := "fnExactWithSpeed", unfollowed := true, recurses := true, apart := false, narrowed := true }
def FnExactWithSpeedUptoSaid : Prop := fnExactWithSpeedUptoRow.holds Try.pinned (OpenSpec.upto fnExactWithSpeedSpec)

/-- 'laws.FnExactWithTension', WHERE WHAT IT READS IS OF BULK AT MOST 1048576: true; the input reads as it did. -/
def fnExactWithTensionUptoRow : OpenClaim := { program := "ythkjlbggipocdaa", sum := "35680a6f7e88f683bdbb881de149857361c7d6f2f8d5861eaaaa9257019c038c", func := "loop.example/g01320/laws.FnExactWithTension", spec := "fnExactWithTension", unfollowed := true, recurses := true, apart := false, narrowed := true }
def FnExactWithTensionUptoSaid : Prop := fnExactWithTensionUptoRow.holds Try.pinned (OpenSpec.upto fnExactWithTensionSpec)

/-- 'laws.FnExactSteadyTensions', WHERE WHAT IT READS IS OF BULK AT MOST 1048576: true; the input reads as it did. -/
def fnExactSteadyTensionsUptoRow : OpenClaim := { program := "ythkjlbggipocdaa", sum := "35680a6f7e88f683bdbb881de149857361c7d6f2f8d5861eaaaa9257019c038c", func := "loop.example/g01320/laws.FnExactSteadyTensions", spec := "fnExactSteadyTensions", apart := false, narrowed := true }
def FnExactSteadyTensionsUptoSaid : Prop := fnExactSteadyTensionsUptoRow.holds Try.pinned (OpenSpec.upto fnExactSteadyTensionsSpec)

/-- 'laws.FnExactFirstBreak', WHERE WHAT IT READS IS OF BULK AT MOST 1048576: true; the input reads as it did. -/
def fnExactFirstBreakUptoRow : OpenClaim := { program := "ythkjlbggipocdaa", sum := "35680a6f7e88f683bdbb881de149857361c7d6f2f8d5861eaaaa9257019c038c", func := "loop.example/g01320/laws.FnExactFirstBreak", spec := "fnExactFirstBreak", apart := false, narrowed := true }
def FnExactFirstBreakUptoSaid : Prop := fnExactFirstBreakUptoRow.holds Try.pinned (OpenSpec.upto fnExactFirstBreakSpec)

/-- 'laws.FnExactStepWeb', WHERE WHAT IT READS IS OF BULK AT MOST 1048576: true; the input reads as it did. -/
def fnExactStepWebUptoRow : OpenClaim := { program := "ythkjlbggipocdaa", sum := "35680a6f7e88f683bdbb881de149857361c7d6f2f8d5861eaaaa9257019c038c", func := "loop.example/g01320/laws.FnExactStepWeb", spec := "fnExactStepWeb", apart := false, narrowed := true }
def FnExactStepWebUptoSaid : Prop := fnExactStepWebUptoRow.holds Try.pinned (OpenSpec.upto fnExactStepWebSpec)

/-- 'laws.FnExactSteadyWeb', WHERE WHAT IT READS IS OF BULK AT MOST 1048576: true; the input reads as it did. -/
def fnExactSteadyWebUptoRow : OpenClaim := { program := "ythkjlbggipocdaa", sum := "35680a6f7e88f683bdbb881de149857361c7d6f2f8d5861eaaaa9257019c038c", func := "loop.example/g01320/laws.FnExactSteadyWeb", spec := "fnExactSteadyWeb", apart := false, narrowed := true }
def FnExactSteadyWebUptoSaid : Prop := fnExactSteadyWebUptoRow.holds Try.pinned (OpenSpec.upto fnExactSteadyWebSpec)

/-- 'laws.FnExactStepsOfWeb', WHERE WHAT IT READS IS OF BULK AT MOST 1048576: true; the input reads as it did. -/
def fnExactStepsOfWebUptoRow : OpenClaim := { program := "ythkjlbggipocdaa", sum := "35680a6f7e88f683bdbb881de149857361c7d6f2f8d5861eaaaa9257019c038c", func := "loop.example/g01320/laws.FnExactStepsOfWeb", spec := "fnExactStepsOfWeb", apart := false, narrowed := true }
def FnExactStepsOfWebUptoSaid : Prop := fnExactStepsOfWebUptoRow.holds Try.pinned (OpenSpec.upto fnExactStepsOfWebSpec)

/-- 'laws.FnExactDancerStep', WHERE WHAT IT READS IS OF BULK AT MOST 1048576: true; the input reads as it did. -/
def fnExactDancerStepUptoRow : OpenClaim := { program := "ythkjlbggipocdaa", sum := "35680a6f7e88f683bdbb881de149857361c7d6f2f8d5861eaaaa9257019c038c", func := "loop.example/g01320/laws.FnExactDancerStep", spec := "fnExactDancerStep", apart := false, narrowed := true }
def FnExactDancerStepUptoSaid : Prop := fnExactDancerStepUptoRow.holds Try.pinned (OpenSpec.upto fnExactDancerStepSpec)

/-- 'laws.FnExactDancerRun', WHERE WHAT IT READS IS OF BULK AT MOST 1048576: true; the input reads as it did. -/
def fnExactDancerRunUptoRow : OpenClaim := { program := "ythkjlbggipocdaa", sum := "35680a6f7e88f683bdbb881de149857361c7d6f2f8d5861eaaaa9257019c038c", func := "loop.example/g01320/laws.FnExactDancerRun", spec := "fnExactDancerRun", apart := false, narrowed := true }
def FnExactDancerRunUptoSaid : Prop := fnExactDancerRunUptoRow.holds Try.pinned (OpenSpec.upto fnExactDancerRunSpec)

/-- 'laws.FnExactSettleWeb', WHERE WHAT IT READS IS OF BULK AT MOST 1048576: true; the input reads as it did. -/
def fnExactSettleWebUptoRow : OpenClaim := { program := "ythkjlbggipocdaa", sum := "35680a6f7e88f683bdbb881de149857361c7d6f2f8d5861eaaaa9257019c038c", func := "loop.example/g01320/laws.FnExactSettleWeb", spec := "fnExactSettleWeb", inPlace := ["math.Float64bits", "math.Float64frombits"], apart := false, narrowed := true }
def FnExactSettleWebUptoSaid : Prop := fnExactSettleWebUptoRow.holds Try.pinned (OpenSpec.upto fnExactSettleWebSpec)

/-- 'laws.FnBreaks', WHERE WHAT IT READS IS OF BULK AT MOST 1048576: true; the input reads as it did. -/
def fnBreaksUptoRow : OpenClaim := { program := "ythkjlbggipocdaa", sum := "35680a6f7e88f683bdbb881de149857361c7d6f2f8d5861eaaaa9257019c038c", func := "loop.example/g01320/laws.FnBreaks", spec := "fnBreaks", inPlace := ["math.Float32bits"], unfollowed := true, recurses := true, apart := false, narrowed := true }
def FnBreaksUptoSaid : Prop := fnBreaksUptoRow.holds Try.pinned (OpenSpec.upto fnBreaksSpec)

end Rows
end Go.Proofs.Ythkjlbggipocdaa
