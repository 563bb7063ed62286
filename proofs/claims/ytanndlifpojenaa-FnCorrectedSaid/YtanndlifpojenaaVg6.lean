/- What the steps that are made again, seventh part of this seat compute, each shown once. No condition. -/
import Derived.Test.YtanndlifpojenaaVf
set_option linter.unusedVariables false
set_option linter.unusedSimpArgs false
set_option linter.unusedSectionVars false
namespace Go.Proofs.Ytanndlifpojenaa.Sh
open Go Go.Proofs
section
theorem d_st24 : allR 801 (fun r => stepOk 24 r) = true := by decide +kernel
theorem d_st25 : allR 801 (fun r => stepOk 25 r) = true := by decide +kernel
theorem d_st26 : allR 801 (fun r => stepOk 26 r) = true := by decide +kernel
theorem d_st27 : allR 801 (fun r => stepOk 27 r) = true := by decide +kernel
end
end Go.Proofs.Ytanndlifpojenaa.Sh
