/- What the steps that are made again, fifth part of this seat compute, each shown once. No condition. -/
import Derived.Test.YtanndlifpojenaaVf
set_option linter.unusedVariables false
set_option linter.unusedSimpArgs false
set_option linter.unusedSectionVars false
namespace Go.Proofs.Ytanndlifpojenaa.Sh
open Go Go.Proofs
section
theorem d_st16 : allR 801 (fun r => stepOk 16 r) = true := by decide +kernel
theorem d_st17 : allR 801 (fun r => stepOk 17 r) = true := by decide +kernel
theorem d_st18 : allR 801 (fun r => stepOk 18 r) = true := by decide +kernel
theorem d_st19 : allR 801 (fun r => stepOk 19 r) = true := by decide +kernel
end
end Go.Proofs.Ytanndlifpojenaa.Sh
