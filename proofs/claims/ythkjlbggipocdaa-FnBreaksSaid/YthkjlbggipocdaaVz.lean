/- The program's order of starts, read word by word. No condition. -/
import Derived.KernelRfl
import Derived.JoinedOf
import Derived.Test.YthkjlbggipocdaaProg
set_option linter.unusedVariables false
set_option linter.unusedSimpArgs false
set_option linter.unusedSectionVars false
namespace Go.Proofs.Ythkjlbggipocdaa.Sh
open Go Go.Proofs
def ioH : List Char := ([104, 97, 114, 110, 101, 115, 115] : List Nat).map Char.ofNat
def ioS : List Char := ([54, 55, 49, 98, 54, 51, 53, 99, 55, 102, 56, 98, 53, 56, 49, 98, 50, 99, 100, 54, 99, 101, 57, 101, 55, 53, 52, 53, 48, 101, 97, 49, 55, 51, 101, 48, 101, 50, 100, 99, 50, 101, 98, 57, 102, 48, 57, 50, 101, 102, 51, 52, 52, 57, 102, 49, 52, 53, 55, 102, 100, 49, 55, 98] : List Nat).map Char.ofNat
def ioC : List Char := ([99, 117, 116] : List Nat).map Char.ofNat
def ioR : List Char := ([97, 116, 32, 108, 111, 111, 112, 46, 101, 120, 97, 109, 112, 108, 101, 47, 103, 48, 49, 51, 50, 48, 47, 108, 97, 119, 115, 46, 70, 110, 83, 116, 101, 97, 100, 121, 87, 101, 98, 115, 32, 108, 111, 111, 112, 46, 101, 120, 97, 109, 112, 108, 101, 47, 103, 48, 49, 51, 50, 48, 47, 108, 97, 119, 115, 46, 70, 110, 69, 120, 97, 99, 116, 86, 97, 108, 105, 100, 87, 101, 98, 32, 108, 111, 111, 112, 46, 101, 120, 97, 109, 112, 108, 101, 47, 103, 48, 49, 51, 50, 48, 47, 108, 97, 119, 115, 46, 70, 110, 69, 120, 97, 99, 116, 83, 97, 109, 101, 87, 101, 98, 32, 108, 111, 111, 112, 46, 101, 120, 97, 109, 112, 108, 101, 47, 103, 48, 49, 51, 50, 48, 47, 108, 97, 119, 115, 46, 70, 110, 69, 120, 97, 99, 116, 84, 105, 103, 104, 116, 101, 115, 116, 83, 112, 97, 110, 32, 108, 111, 111, 112, 46, 101, 120, 97, 109, 112, 108, 101, 47, 103, 48, 49, 51, 50, 48, 47, 108, 97, 119, 115, 46, 70, 110, 69, 120, 97, 99, 116, 83, 116, 114, 101, 116, 99, 104, 65, 116, 32, 108, 111, 111, 112, 46, 101, 120, 97, 109, 112, 108, 101, 47, 103, 48, 49, 51, 50, 48, 47, 108, 97, 119, 115, 46, 70, 110, 69, 120, 97, 99, 116, 80, 117, 108, 108, 65, 116, 32, 108, 111, 111, 112, 46, 101, 120, 97, 109, 112, 108, 101, 47, 103, 48, 49, 51, 50, 48, 47, 108, 97, 119, 115, 46, 70, 110, 69, 120, 97, 99, 116, 80, 97, 112, 101, 114, 73, 110, 32, 108, 111, 111, 112, 46, 101, 120, 97, 109, 112, 108, 101, 47, 103, 48, 49, 51, 50, 48, 47, 108, 97, 119, 115, 46, 70, 110, 69, 120, 97, 99, 116, 82, 97, 116, 101, 65, 116, 32, 108, 111, 111, 112, 46, 101, 120, 97, 109, 112, 108, 101, 47, 103, 48, 49, 51, 50, 48, 47, 108, 97, 119, 115, 46, 70, 110, 69, 120, 97, 99, 116, 83, 108, 97, 99, 107, 83, 112, 97, 110, 115, 32, 108, 111, 111, 112, 46, 101, 120, 97, 109, 112, 108, 101, 47, 103, 48, 49, 51, 50, 48, 47, 108, 97, 119, 115, 46, 70, 110, 69, 120, 97, 99, 116, 83, 112, 101, 101, 100, 115, 70, 111, 114, 32, 108, 111, 111, 112, 46, 101, 120, 97, 109, 112, 108, 101, 47, 103, 48, 49, 51, 50, 48, 47, 108, 97, 119, 115, 46, 70, 110, 69, 120, 97, 99, 116, 87, 105, 116, 104, 83, 112, 101, 101, 100, 32, 108, 111, 111, 112, 46, 101, 120, 97, 109, 112, 108, 101, 47, 103, 48, 49, 51, 50, 48, 47, 108, 97, 119, 115, 46, 70, 110, 69, 120, 97, 99, 116, 87, 105, 116, 104, 84, 101, 110, 115, 105, 111, 110, 32, 108, 111, 111, 112, 46, 101, 120, 97, 109, 112, 108, 101, 47, 103, 48, 49, 51, 50, 48, 47, 108, 97, 119, 115, 46, 70, 110, 69, 120, 97, 99, 116, 83, 116, 101, 97, 100, 121, 84, 101, 110, 115, 105, 111, 110, 115, 32, 108, 111, 111, 112, 46, 101, 120, 97, 109, 112, 108, 101, 47, 103, 48, 49, 51, 50, 48, 47, 108, 97, 119, 115, 46, 70, 110, 69, 120, 97, 99, 116, 70, 105, 114, 115, 116, 66, 114, 101, 97, 107, 32, 108, 111, 111, 112, 46, 101, 120, 97, 109, 112, 108, 101, 47, 103, 48, 49, 51, 50, 48, 47, 108, 97, 119, 115, 46, 70, 110, 69, 120, 97, 99, 116, 83, 116, 101, 112, 87, 101, 98, 32, 108, 111, 111, 112, 46, 101, 120, 97, 109, 112, 108, 101, 47, 103, 48, 49, 51, 50, 48, 47, 108, 97, 119, 115, 46, 70, 110, 69, 120, 97, 99, 116, 83, 116, 101, 97, 100, 121, 87, 101, 98, 32, 108, 111, 111, 112, 46, 101, 120, 97, 109, 112, 108, 101, 47, 103, 48, 49, 51, 50, 48, 47, 108, 97, 119, 115, 46, 70, 110, 69, 120, 97, 99, 116, 83, 116, 101, 112, 115, 79, 102, 87, 101, 98, 32, 108, 111, 111, 112, 46, 101, 120, 97, 109, 112, 108, 101, 47, 103, 48, 49, 51, 50, 48, 47, 108, 97, 119, 115, 46, 70, 110, 69, 120, 97, 99, 116, 68, 97, 110, 99, 101, 114, 83, 116, 101, 112, 32, 108, 111, 111, 112, 46, 101, 120, 97, 109, 112, 108, 101, 47, 103, 48, 49, 51, 50, 48, 47, 108, 97, 119, 115, 46, 70, 110, 69, 120, 97, 99, 116, 68, 97, 110, 99, 101, 114, 82, 117, 110, 32, 108, 111, 111, 112, 46, 101, 120, 97, 109, 112, 108, 101, 47, 103, 48, 49, 51, 50, 48, 47, 108, 97, 119, 115, 46, 70, 110, 69, 120, 97, 99, 116, 83, 101, 116, 116, 108, 101, 87, 101, 98, 32, 108, 111, 111, 112, 46, 101, 120, 97, 109, 112, 108, 101, 47, 103, 48, 49, 51, 50, 48, 47, 108, 97, 119, 115, 46, 70, 110, 66, 114, 101, 97, 107, 115] : List Nat).map Char.ofNat
theorem io1 : Try.prog.initOrder = String.ofList (ioH ++ Char.ofNat 32 :: (ioS ++ Char.ofNat 32 :: (ioC ++ Char.ofNat 32 :: ioR))) := by kernel_rfl
theorem ioW : ∀ (w : List Char) (r : List Char), w.all (fun c => c != Char.ofNat 32) = true → wordsSigns (w ++ Char.ofNat 32 :: r) = w :: wordsSigns r
  | [], r, _ => rfl
  | c :: w, r, h => by
    simp only [List.all_cons, Bool.and_eq_true, bne_iff_ne, ne_eq] at h
    have ih := ioW w r h.2
    rw [List.cons_append]
    conv => lhs; unfold wordsSigns
    split
    · rename_i e; cases e
    · rename_i e; cases e; exact absurd rfl h.1
    · rename_i e; cases e; rw [ih]
theorem io2 : wordsSigns Try.prog.initOrder.toList = ioH :: ioS :: ioC :: wordsSigns ioR := by
  rw [io1, String.toList_ofList, ioW _ _ (by kernel_rfl), ioW _ _ (by kernel_rfl), ioW _ _ (by kernel_rfl)]
theorem io3 (X : List (List Char)) : behindMainWord (ioH :: ioS :: ioC :: X) = ioC :: X := by kernel_rfl
theorem io4 : behindMainWord (wordsSigns Try.prog.initOrder.toList) = ioC :: wordsSigns ioR := by rw [io2, io3]
theorem makeOf {Q : Program} {c : List Char} {X : List (List Char)} (h : behindMainWord (wordsSigns Q.initOrder.toList) = c :: X) (h1 : (c == "gc".toList) = false) (h2 : (c == "spec".toList) = false) (h3 : (c == "cut".toList) = true) : Q.make = some .cut := by
  unfold Program.make
  rw [h]
  simp only [h1, h2, h3, Bool.or_self, Bool.true_or, if_true, Bool.false_eq_true, if_false]
theorem enterOf {Q : Program} {c : List Char} {X : List (List Char)} (h : behindMainWord (wordsSigns Q.initOrder.toList) = c :: X) (h3 : (some c == some "cut".toList) = true)
    (h5 : stripLifts liftWords (c :: X) = ([], c :: X)) (h6 : Q.laysLater = false) (h7 : Q.bearsReflect = false) (h8 : Q.doorFits [] = true) : Q.mayEnter = true := by
  unfold Program.mayEnter
  rw [h]
  simp only [h5, h6, h7, h8, List.head?_cons, h3, Bool.not_false, Bool.or_true, Bool.true_and, Bool.and_true, List.contains_nil, Bool.not_false, Bool.or_false]
theorem liftsOf {Q : Program} {c : List Char} {X : List (List Char)} (h : behindMainWord (wordsSigns Q.initOrder.toList) = c :: X) (h1 : (some c == some "carried".toList) = false) (h5 : stripLifts liftWords (c :: X) = ([], c :: X)) : Q.liftsFinal = false := by
  unfold Program.liftsFinal Program.headLifts
  rw [h]
  simp only [h5, h1, List.head?_cons, Bool.false_and, Bool.false_or, List.contains_nil, ite_self]
theorem ioX (X : List (List Char)) : stripLifts liftWords (ioC :: X) = ([], ioC :: X) := by kernel_rfl
theorem ioE : Try.prog.mayEnter = true := enterOf io4 (by kernel_rfl) (ioX _) (by kernel_rfl) (by kernel_rfl) (by kernel_rfl)
theorem ioF : Try.prog.liftsFinal = false := liftsOf io4 (by kernel_rfl) (ioX _)
theorem ioM : Try.prog.make = some .cut := makeOf io4 (by kernel_rfl) (by kernel_rfl) (by kernel_rfl)
theorem andT {a b : Bool} (h : a = true) (k : b = true) : (a && b) = true := by rw [h, k]; rfl
end Go.Proofs.Ythkjlbggipocdaa.Sh
