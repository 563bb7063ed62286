/- FnExactTallestPile: for every input the law returns true, and the input reads as it did. No condition. -/
import Derived.Test.YtljemkijpbfcaaaRows
import Derived.Test.YtljemkijpbfcaaaFw
set_option linter.unusedVariables false
set_option linter.unusedSimpArgs false
namespace Go.Proofs.Ytljemkijpbfcaaa
open Go Go.Proofs.Ytljemkijpbfcaaa.Sh Go.ChangeShapes Go.WideShapes Go.RowKit
theorem own : ownKnob Try.prog.godebug = none := by kernel_rfl
theorem laid : laidOutB Try.prog = true := by kernel_rfl
theorem k22 : kindsOf Try.prog 22 = some (false, [.f .f32]) := by kernel_rfl
theorem ls10 : LawSpec Rows.fnExactTallestPileSpec Try.f10.params.size := by
  refine ⟨rfl, fun H ds h => ?_⟩
  rw [show Try.f10.params.size = 5 from rfl] at h
  match ds, h with
  | [_, _, _, _, _], _ => exact ⟨rfl, rfl, rfl⟩
theorem lift10 (os : Os) (started : os.Started) (H : Type) (enc : TypeId × Value → H) :
    ReturnsInHanded {} Try.checked os 10 .any (Rows.fnExactTallestPileSpec.pre6 enc Try.prog Try.f10 Rows.fnExactTallestPileRow.domain false) (Rows.fnExactTallestPileSpec.post enc Try.prog Try.f10 false true false false) := by
  refine law_lifted (C := Try.checked) own started (by kernel_rfl) fn10 ls10 (tb := 4) rfl (by kernel_rfl) (by kernel_rfl) laid ok10
    (ChangeSpec.witness6 (enc := enc) (C := Try.checked) false ⟨#[], #[.float .f32 0, .float .f32 0, .float .f32 0, .float .f32 0, .float .f32 0], []⟩ 8 (by kernel_rfl) (by kernel_rfl) (by kernel_rfl) (by kernel_rfl)) ?_
  intro W base args ds p hval hA
  have hl := (trodAll_len hA).2
  rw [show Try.f10.params.toList = [22, 22, 22, 22, 22] from rfl] at hl hval
  match args, hl with
  | [v0, v1, v2, v3, v4], _ =>
    obtain ⟨a0, rfl⟩ := okWide_kinds k22 (hval 0 22 v0 rfl rfl)
    obtain ⟨a1, rfl⟩ := okWide_kinds k22 (hval 1 22 v1 rfl rfl)
    obtain ⟨a2, rfl⟩ := okWide_kinds k22 (hval 2 22 v2 rfl rfl)
    obtain ⟨a3, rfl⟩ := okWide_kinds k22 (hval 3 22 v3 rfl rfl)
    obtain ⟨a4, rfl⟩ := okWide_kinds k22 (hval 4 22 v4 rfl rfl)
    exact ⟨[.c (.f .f32 fun _ => a0), .c (.f .f32 fun _ => a1), .c (.f .f32 fun _ => a2), .c (.f .f32 fun _ => a3), .c (.f .f32 fun _ => a4)], [], [], [], fun _ => ⟨0, 0, 0, 0⟩, rfl, fun q hq => by simp at hq, hrel_nil _ _ _, ⟨⟨_, rfl, .inl rfl⟩, ⟨_, rfl, .inl rfl⟩, ⟨_, rfl, .inl rfl⟩, ⟨_, rfl, .inl rfl⟩, ⟨_, rfl, .inl rfl⟩, trivial⟩⟩
theorem said10 : Rows.FnExactTallestPileSaid :=
  OpenClaim.holds_of_wide 10 Try.f10 rfl rfl rfl rfl rfl rfl rfl ⟨rfl, rfl, rfl, rfl, rfl⟩ rfl rfl rfl rfl rfl (by kernel_rfl) Try.func10 (by kernel_rfl)
    (of_decide_eq_true (by kernel_rfl)) (by unfold Func.isWrapper; rw [if_neg (by decide +kernel)]; exact ⟨rfl, rfl⟩)
    (fun os started H enc _ => lift10 os started H enc)
end Go.Proofs.Ytljemkijpbfcaaa
