/- What the steps that are made again, first part of this seat compute, each shown once. No condition. -/
import Derived.Test.YtanndlifpojenaaVf
set_option linter.unusedVariables false
set_option linter.unusedSimpArgs false
set_option linter.unusedSectionVars false
namespace Go.Proofs.Ytanndlifpojenaa.Sh
open Go Go.Proofs
section
theorem d_st0 : allR 801 (fun r => stepOk 0 r) = true := by decide +kernel
theorem d_st1 : allR 801 (fun r => stepOk 1 r) = true := by decide +kernel
theorem d_st2 : allR 801 (fun r => stepOk 2 r) = true := by decide +kernel
theorem d_st3 : allR 801 (fun r => stepOk 3 r) = true := by decide +kernel
end
end Go.Proofs.Ytanndlifpojenaa.Sh
