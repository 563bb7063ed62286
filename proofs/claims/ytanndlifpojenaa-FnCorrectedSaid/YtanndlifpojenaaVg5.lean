/- What the steps that are made again, sixth part of this seat compute, each shown once. No condition. -/
import Derived.Test.YtanndlifpojenaaVf
set_option linter.unusedVariables false
set_option linter.unusedSimpArgs false
set_option linter.unusedSectionVars false
namespace Go.Proofs.Ytanndlifpojenaa.Sh
open Go Go.Proofs
section
theorem d_st20 : allR 801 (fun r => stepOk 20 r) = true := by decide +kernel
theorem d_st21 : allR 801 (fun r => stepOk 21 r) = true := by decide +kernel
theorem d_st22 : allR 801 (fun r => stepOk 22 r) = true := by decide +kernel
theorem d_st23 : allR 801 (fun r => stepOk 23 r) = true := by decide +kernel
end
end Go.Proofs.Ytanndlifpojenaa.Sh
