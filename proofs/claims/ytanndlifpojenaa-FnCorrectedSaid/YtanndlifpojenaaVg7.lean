/- What the steps that are made again, eighth part of this seat compute, each shown once. No condition. -/
import Derived.Test.YtanndlifpojenaaVf
set_option linter.unusedVariables false
set_option linter.unusedSimpArgs false
set_option linter.unusedSectionVars false
namespace Go.Proofs.Ytanndlifpojenaa.Sh
open Go Go.Proofs
section
theorem d_st28 : allR 801 (fun r => stepOk 28 r) = true := by decide +kernel
theorem d_st29 : allR 801 (fun r => stepOk 29 r) = true := by decide +kernel
theorem d_st30 : allR 801 (fun r => stepOk 30 r) = true := by decide +kernel
theorem d_st31 : allR 801 (fun r => stepOk 31 r) = true := by decide +kernel
end
end Go.Proofs.Ytanndlifpojenaa.Sh
