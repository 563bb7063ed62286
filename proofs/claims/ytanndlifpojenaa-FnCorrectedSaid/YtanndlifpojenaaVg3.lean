/- What the steps that are made again, fourth part of this seat compute, each shown once. No condition. -/
import Derived.Test.YtanndlifpojenaaVf
set_option linter.unusedVariables false
set_option linter.unusedSimpArgs false
set_option linter.unusedSectionVars false
namespace Go.Proofs.Ytanndlifpojenaa.Sh
open Go Go.Proofs
section
theorem d_st12 : allR 801 (fun r => stepOk 12 r) = true := by decide +kernel
theorem d_st13 : allR 801 (fun r => stepOk 13 r) = true := by decide +kernel
theorem d_st14 : allR 801 (fun r => stepOk 14 r) = true := by decide +kernel
theorem d_st15 : allR 801 (fun r => stepOk 15 r) = true := by decide +kernel
end
end Go.Proofs.Ytanndlifpojenaa.Sh
