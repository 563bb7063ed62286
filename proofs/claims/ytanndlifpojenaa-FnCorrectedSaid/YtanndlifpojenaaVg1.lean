/- What the steps that are made again, second part of this seat compute, each shown once. No condition. -/
import Derived.Test.YtanndlifpojenaaVf
set_option linter.unusedVariables false
set_option linter.unusedSimpArgs false
set_option linter.unusedSectionVars false
namespace Go.Proofs.Ytanndlifpojenaa.Sh
open Go Go.Proofs
section
theorem d_st4 : allR 801 (fun r => stepOk 4 r) = true := by decide +kernel
theorem d_st5 : allR 801 (fun r => stepOk 5 r) = true := by decide +kernel
theorem d_st6 : allR 801 (fun r => stepOk 6 r) = true := by decide +kernel
theorem d_st7 : allR 801 (fun r => stepOk 7 r) = true := by decide +kernel
end
end Go.Proofs.Ytanndlifpojenaa.Sh
