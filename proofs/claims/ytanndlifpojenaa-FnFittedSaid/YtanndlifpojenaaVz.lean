/- The program's order of starts, read word by word. No condition. -/
import Derived.KernelRfl
import Derived.JoinedOf
import Derived.Test.YtanndlifpojenaaProg
set_option linter.unusedVariables false
set_option linter.unusedSimpArgs false
set_option linter.unusedSectionVars false
namespace Go.Proofs.Ytanndlifpojenaa.Sh
open Go Go.Proofs
def ioH : List Char := ([104, 97, 114, 110, 101, 115, 115] : List Nat).map Char.ofNat
def ioS : List Char := ([51, 97, 54, 56, 54, 98, 52, 53, 102, 53, 51, 53, 55, 98, 97, 101, 53, 53, 48, 48, 54, 52, 57, 54, 99, 49, 99, 53, 49, 101, 52, 55, 101, 97, 97, 48, 101, 51, 101, 100, 56, 56, 55, 56, 48, 55, 57, 102, 102, 48, 99, 56, 52, 53, 56, 97, 49, 57, 102, 51, 48, 101, 51, 51] : List Nat).map Char.ofNat
def ioC : List Char := ([99, 117, 116] : List Nat).map Char.ofNat
def ioR : List Char := ([97, 116, 32, 108, 111, 111, 112, 46, 101, 120, 97, 109, 112, 108, 101, 47, 103, 48, 49, 51, 50, 48, 47, 108, 97, 119, 115, 46, 70, 110, 67, 111, 114, 114, 101, 99, 116, 101, 100, 32, 108, 111, 111, 112, 46, 101, 120, 97, 109, 112, 108, 101, 47, 103, 48, 49, 51, 50, 48, 47, 108, 97, 119, 115, 46, 70, 110, 70, 105, 116, 116, 101, 100] : List Nat).map Char.ofNat
theorem io1 : Try.prog.initOrder = String.ofList (ioH ++ Char.ofNat 32 :: (ioS ++ Char.ofNat 32 :: (ioC ++ Char.ofNat 32 :: ioR))) := by kernel_rfl
theorem ioW : ∀ (w : List Char) (r : List Char), w.all (fun c => c != Char.ofNat 32) = true → wordsSigns (w ++ Char.ofNat 32 :: r) = w :: wordsSigns r
  | [], r, _ => rfl
  | c :: w, r, h => by
    simp only [List.all_cons, Bool.and_eq_true, bne_iff_ne, ne_eq] at h
    have ih := ioW w r h.2
    rw [List.cons_append]
    conv => lhs; unfold wordsSigns
    split
    · rename_i e; cases e
    · rename_i e; cases e; exact absurd rfl h.1
    · rename_i e; cases e; rw [ih]
theorem io2 : wordsSigns Try.prog.initOrder.toList = ioH :: ioS :: ioC :: wordsSigns ioR := by
  rw [io1, String.toList_ofList, ioW _ _ (by kernel_rfl), ioW _ _ (by kernel_rfl), ioW _ _ (by kernel_rfl)]
theorem io3 (X : List (List Char)) : behindMainWord (ioH :: ioS :: ioC :: X) = ioC :: X := by kernel_rfl
theorem io4 : behindMainWord (wordsSigns Try.prog.initOrder.toList) = ioC :: wordsSigns ioR := by rw [io2, io3]
theorem makeOf {Q : Program} {c : List Char} {X : List (List Char)} (h : behindMainWord (wordsSigns Q.initOrder.toList) = c :: X) (h1 : (c == "gc".toList) = false) (h2 : (c == "spec".toList) = false) (h3 : (c == "cut".toList) = true) : Q.make = some .cut := by
  unfold Program.make
  rw [h]
  simp only [h1, h2, h3, Bool.or_self, Bool.true_or, if_true, Bool.false_eq_true, if_false]
theorem enterOf {Q : Program} {c : List Char} {X : List (List Char)} (h : behindMainWord (wordsSigns Q.initOrder.toList) = c :: X) (h3 : (some c == some "cut".toList) = true)
    (h5 : stripLifts liftWords (c :: X) = ([], c :: X)) (h6 : Q.laysLater = false) (h7 : Q.bearsReflect = false) (h8 : Q.doorFits [] = true) : Q.mayEnter = true := by
  unfold Program.mayEnter
  rw [h]
  simp only [h5, h6, h7, h8, List.head?_cons, h3, Bool.not_false, Bool.or_true, Bool.true_and, Bool.and_true, List.contains_nil, Bool.not_false, Bool.or_false]
theorem liftsOf {Q : Program} {c : List Char} {X : List (List Char)} (h : behindMainWord (wordsSigns Q.initOrder.toList) = c :: X) (h1 : (some c == some "carried".toList) = false) (h5 : stripLifts liftWords (c :: X) = ([], c :: X)) : Q.liftsFinal = false := by
  unfold Program.liftsFinal Program.headLifts
  rw [h]
  simp only [h5, h1, List.head?_cons, Bool.false_and, Bool.false_or, List.contains_nil, ite_self]
theorem ioX (X : List (List Char)) : stripLifts liftWords (ioC :: X) = ([], ioC :: X) := by kernel_rfl
theorem ioE : Try.prog.mayEnter = true := enterOf io4 (by kernel_rfl) (ioX _) (by kernel_rfl) (by kernel_rfl) (by kernel_rfl)
theorem ioF : Try.prog.liftsFinal = false := liftsOf io4 (by kernel_rfl) (ioX _)
theorem ioM : Try.prog.make = some .cut := makeOf io4 (by kernel_rfl) (by kernel_rfl) (by kernel_rfl)
theorem andT {a b : Bool} (h : a = true) (k : b = true) : (a && b) = true := by rw [h, k]; rfl
end Go.Proofs.Ytanndlifpojenaa.Sh
