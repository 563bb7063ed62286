/- What the steps that are made again, third part of this seat compute, each shown once. No condition. -/
import Derived.Test.YtanndlifpojenaaVf
set_option linter.unusedVariables false
set_option linter.unusedSimpArgs false
set_option linter.unusedSectionVars false
namespace Go.Proofs.Ytanndlifpojenaa.Sh
open Go Go.Proofs
section
theorem d_st8 : allR 801 (fun r => stepOk 8 r) = true := by decide +kernel
theorem d_st9 : allR 801 (fun r => stepOk 9 r) = true := by decide +kernel
theorem d_st10 : allR 801 (fun r => stepOk 10 r) = true := by decide +kernel
theorem d_st11 : allR 801 (fun r => stepOk 11 r) = true := by decide +kernel
end
end Go.Proofs.Ytanndlifpojenaa.Sh
