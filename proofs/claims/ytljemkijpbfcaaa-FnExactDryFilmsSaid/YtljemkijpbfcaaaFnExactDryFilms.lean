/- FnExactDryFilms: for every input the law returns true, and the input reads as it did. No condition. -/
import Derived.Test.YtljemkijpbfcaaaRows
import Derived.Test.YtljemkijpbfcaaaFo
set_option linter.unusedVariables false
set_option linter.unusedSimpArgs false
namespace Go.Proofs.Ytljemkijpbfcaaa
open Go Go.Proofs.Ytljemkijpbfcaaa.Sh Go.ChangeShapes Go.WideShapes Go.RowKit
theorem own : ownKnob Try.prog.godebug = none := by kernel_rfl
theorem laid : laidOutB Try.prog = true := by kernel_rfl
theorem k22 : kindsOf Try.prog 22 = some (false, [.f .f32]) := by kernel_rfl
theorem k29 : kindsOf Try.prog 29 = some (true, [.f .f32, .f .f32, .f .f32, .f .f32]) := by kernel_rfl
theorem ls12 : LawSpec Rows.fnExactDryFilmsSpec Try.f12.params.size := by
  refine ⟨rfl, fun H ds h => ?_⟩
  rw [show Try.f12.params.size = 3 from rfl] at h
  match ds, h with
  | [_, _, _], _ => exact ⟨rfl, rfl, rfl⟩
theorem lift12 (os : Os) (started : os.Started) (H : Type) (enc : TypeId × Value → H) :
    ReturnsInHanded {} Try.checked os 12 .any (Rows.fnExactDryFilmsSpec.pre6 enc Try.prog Try.f12 Rows.fnExactDryFilmsRow.domain false) (Rows.fnExactDryFilmsSpec.post enc Try.prog Try.f12 false true false false) := by
  refine law_lifted (C := Try.checked) own started (by kernel_rfl) fn12 ls12 (tb := 4) rfl (by kernel_rfl) (by kernel_rfl) laid ok12
    (ChangeSpec.witness6 (enc := enc) (C := Try.checked) false ⟨#[], #[.agg #[.float .f32 0, .float .f32 0, .float .f32 0, .float .f32 0], .float .f32 0, .float .f32 0], []⟩ 8 (by kernel_rfl) (by kernel_rfl) (by kernel_rfl) (by kernel_rfl)) ?_
  intro W base args ds p hval hA
  have hl := (trodAll_len hA).2
  rw [show Try.f12.params.toList = [29, 22, 22] from rfl] at hl hval
  match args, hl with
  | [v0, v1, v2], _ =>
    obtain ⟨cs0, rfl, h0⟩ := okWide_kinds k29 (hval 0 29 v0 rfl rfl)
    match cs0, h0 with
    | [_, _, _, _], ⟨⟨a00, rfl⟩, ⟨a01, rfl⟩, ⟨a02, rfl⟩, ⟨a03, rfl⟩, _⟩ =>
      obtain ⟨a1, rfl⟩ := okWide_kinds k22 (hval 1 22 v1 rfl rfl)
      obtain ⟨a2, rfl⟩ := okWide_kinds k22 (hval 2 22 v2 rfl rfl)
      exact ⟨[.a [.f .f32 fun _ => a00, .f .f32 fun _ => a01, .f .f32 fun _ => a02, .f .f32 fun _ => a03], .c (.f .f32 fun _ => a1), .c (.f .f32 fun _ => a2)], [], [], [], fun _ => ⟨0, 0, 0, 0⟩, rfl, fun q hq => by simp at hq, hrel_nil _ _ _, ⟨⟨_, rfl, ⟨_, rfl, .inl rfl⟩, ⟨_, rfl, .inl rfl⟩, ⟨_, rfl, .inl rfl⟩, ⟨_, rfl, .inl rfl⟩, trivial⟩, ⟨_, rfl, .inl rfl⟩, ⟨_, rfl, .inl rfl⟩, trivial⟩⟩
theorem said12 : Rows.FnExactDryFilmsSaid :=
  OpenClaim.holds_of_wide 12 Try.f12 rfl rfl rfl rfl rfl rfl rfl ⟨rfl, rfl, rfl, rfl, rfl⟩ rfl rfl rfl rfl rfl (by kernel_rfl) Try.func12 (by kernel_rfl)
    (of_decide_eq_true (by kernel_rfl)) (by unfold Func.isWrapper; rw [if_neg (by decide +kernel)]; exact ⟨rfl, rfl⟩)
    (fun os started H enc _ => lift12 os started H enc)
end Go.Proofs.Ytljemkijpbfcaaa
