/- FnExactLayFilm: for every input the law returns true, and the input reads as it did. No condition. -/
import Derived.Test.YtljemkijpbfcaaaRows
import Derived.Test.YtljemkijpbfcaaaFm
set_option linter.unusedVariables false
set_option linter.unusedSimpArgs false
namespace Go.Proofs.Ytljemkijpbfcaaa
open Go Go.Proofs.Ytljemkijpbfcaaa.Sh Go.ChangeShapes Go.WideShapes Go.RowKit
theorem own : ownKnob Try.prog.godebug = none := by kernel_rfl
theorem laid : laidOutB Try.prog = true := by kernel_rfl
theorem k2 : kindsOf Try.prog 2 = some (false, [.i .i64]) := by kernel_rfl
theorem k22 : kindsOf Try.prog 22 = some (false, [.f .f32]) := by kernel_rfl
theorem k29 : kindsOf Try.prog 29 = some (true, [.f .f32, .f .f32, .f .f32, .f .f32]) := by kernel_rfl
theorem ls9 : LawSpec Rows.fnExactLayFilmSpec Try.f9.params.size := by
  refine ⟨rfl, fun H ds h => ?_⟩
  rw [show Try.f9.params.size = 3 from rfl] at h
  match ds, h with
  | [_, _, _], _ => exact ⟨rfl, rfl, rfl⟩
theorem lift9 (os : Os) (started : os.Started) (H : Type) (enc : TypeId × Value → H) :
    ReturnsInHanded {} Try.checked os 9 .any (Rows.fnExactLayFilmSpec.pre6 enc Try.prog Try.f9 Rows.fnExactLayFilmRow.domain false) (Rows.fnExactLayFilmSpec.post enc Try.prog Try.f9 false true false false) := by
  refine law_lifted (C := Try.checked) own started (by kernel_rfl) fn9 ls9 (tb := 4) rfl (by kernel_rfl) (by kernel_rfl) laid ok9
    (ChangeSpec.witness6 (enc := enc) (C := Try.checked) false ⟨#[], #[.agg #[.float .f32 0, .float .f32 0, .float .f32 0, .float .f32 0], .int .i64 0, .float .f32 0], []⟩ 8 (by kernel_rfl) (by kernel_rfl) (by kernel_rfl) (by kernel_rfl)) ?_
  intro W base args ds p hval hA
  have hl := (trodAll_len hA).2
  rw [show Try.f9.params.toList = [29, 2, 22] from rfl] at hl hval
  match args, hl with
  | [v0, v1, v2], _ =>
    obtain ⟨cs0, rfl, h0⟩ := okWide_kinds k29 (hval 0 29 v0 rfl rfl)
    match cs0, h0 with
    | [_, _, _, _], ⟨⟨a00, rfl⟩, ⟨a01, rfl⟩, ⟨a02, rfl⟩, ⟨a03, rfl⟩, _⟩ =>
      obtain ⟨a1, rfl⟩ := okWide_kinds k2 (hval 1 2 v1 rfl rfl)
      obtain ⟨a2, rfl⟩ := okWide_kinds k22 (hval 2 22 v2 rfl rfl)
      exact ⟨[.a [.f .f32 fun _ => a00, .f .f32 fun _ => a01, .f .f32 fun _ => a02, .f .f32 fun _ => a03], .c (.i .i64 (.x fun _ => a1)), .c (.f .f32 fun _ => a2)], [], [], [], fun _ => ⟨0, 0, 0, 0⟩, rfl, fun q hq => by simp at hq, hrel_nil _ _ _, ⟨⟨_, rfl, ⟨_, rfl, .inl rfl⟩, ⟨_, rfl, .inl rfl⟩, ⟨_, rfl, .inl rfl⟩, ⟨_, rfl, .inl rfl⟩, trivial⟩, rfl, ⟨_, rfl, .inl rfl⟩, trivial⟩⟩
theorem said9 : Rows.FnExactLayFilmSaid :=
  OpenClaim.holds_of_wide 9 Try.f9 rfl rfl rfl rfl rfl rfl rfl ⟨rfl, rfl, rfl, rfl, rfl⟩ rfl rfl rfl rfl rfl (by kernel_rfl) Try.func9 (by kernel_rfl)
    (of_decide_eq_true (by kernel_rfl)) (by unfold Func.isWrapper; rw [if_neg (by decide +kernel)]; exact ⟨rfl, rfl⟩)
    (fun os started H enc _ => lift9 os started H enc)
end Go.Proofs.Ytljemkijpbfcaaa
