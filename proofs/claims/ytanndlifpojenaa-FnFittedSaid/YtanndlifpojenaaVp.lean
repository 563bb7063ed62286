/- What the colours that are moved, word by word of this seat compute, each shown once. No condition. -/
import Derived.Test.YtanndlifpojenaaVn
import Derived.Test.YtanndlifpojenaaVo
set_option linter.unusedVariables false
set_option linter.unusedSimpArgs false
set_option linter.unusedSectionVars false
namespace Go.Proofs.Ytanndlifpojenaa.Sh
open Go Go.Proofs
section
/-! ## a colour that is moved is fitted -/
abbrev zx0 (r : Nat) : Nat := fop .add .f32 0 (q16 r)
abbrev zx1 (r : Nat) : Nat := fop .add .f32 1120403456 (q16 r)
abbrev zy1 (r : Nat) : Nat := fop .add .f32 1117782016 (q16 r)
def mnX (r : Nat) : Nat := fop .quo .f32 (fop .add .f32 (fop .add .f32 (fop .add .f32 (zx0 r) (zx1 r)) (zx1 r)) (zx0 r)) 1082130432
def mnY (r : Nat) : Nat := fop .quo .f32 (fop .add .f32 (fop .add .f32 (fop .add .f32 (zx0 r) (zx0 r)) (zy1 r)) (zy1 r)) 1082130432
def ngX (r : Nat) : Nat := fop .sub .f32 0 (q16 r)
def pmZ (a : Nat) : Bool := a == 0 || a == 2147483648
/-- what holds of each first part -/
def okPX (r : Nat) : Bool := fop .sub .f32 (zx0 r) (mnX r) == 3259498496 && fop .sub .f32 (zx1 r) (mnX r) == 1112014848 && fop .mul .f32 0 (mnX r) == 0 && fop .sub .f32 1112014848 (fop .sub .f32 (fop .mul .f32 1065353216 (mnX r)) 0) == ngX r
def okPY (r : Nat) : Bool := fop .sub .f32 (zx0 r) (mnY r) == 3256877056 && fop .sub .f32 (zy1 r) (mnY r) == 1109393408 && fop .mul .f32 0 (mnY r) == 0 && fop .sub .f32 1109393408 (fop .add .f32 (fop .mul .f32 1065353216 (mnY r)) 0) == ngX r
def okN (r : Nat) : Bool := finX (ngX r) && fcmp .eql .f32 (ngX r) (ngX r)
def okZ (c r : Nat) : Bool := pmZ (fop .mul .f32 0 (fop .add .f32 c (q16 r)))
def bkX (c r : Nat) : Bool := fop .add .f32 (fop .sub .f32 (fop .mul .f32 1065353216 (fop .add .f32 c (q16 r))) 0) (ngX r) == c && fop .add .f32 (fop .sub .f32 (fop .mul .f32 1065353216 (fop .add .f32 c (q16 r))) 2147483648) (ngX r) == c
def bkY (c r : Nat) : Bool := fop .add .f32 (fop .add .f32 (fop .mul .f32 1065353216 (fop .add .f32 c (q16 r))) 0) (ngX r) == c && fop .add .f32 (fop .add .f32 (fop .mul .f32 1065353216 (fop .add .f32 c (q16 r))) 2147483648) (ngX r) == c
theorem d_px : allR 801 okPX = true := by decide +kernel
theorem d_py : allR 801 okPY = true := by decide +kernel
theorem d_ng : allR 801 okN = true := by decide +kernel
theorem d_z0 : allR 801 (okZ 0) = true := by decide +kernel
theorem d_z1 : allR 801 (okZ 1120403456) = true := by decide +kernel
theorem d_z2 : allR 801 (okZ 1117782016) = true := by decide +kernel
theorem d_bx0 : allR 801 (bkX 0) = true := by decide +kernel
theorem d_bx1 : allR 801 (bkX 1120403456) = true := by decide +kernel
theorem d_by0 : allR 801 (bkY 0) = true := by decide +kernel
theorem d_by1 : allR 801 (bkY 1117782016) = true := by decide +kernel
end
end Go.Proofs.Ytanndlifpojenaa.Sh
