/- FnExactFastestPress: for every input the law returns true, and the input reads as it did. No condition. -/
import Derived.Test.YtljemkijpbfcaaaRows
import Derived.Test.YtljemkijpbfcaaaFr
set_option linter.unusedVariables false
set_option linter.unusedSimpArgs false
namespace Go.Proofs.Ytljemkijpbfcaaa
open Go Go.Proofs.Ytljemkijpbfcaaa.Sh Go.ChangeShapes Go.WideShapes Go.RowKit
theorem own : ownKnob Try.prog.godebug = none := by kernel_rfl
theorem laid : laidOutB Try.prog = true := by kernel_rfl
theorem k22 : kindsOf Try.prog 22 = some (false, [.f .f32]) := by kernel_rfl
theorem kT24 : kT Try.prog 3 24 = some [.f .f32, .f .f32] := by kernel_rfl
theorem u62 : Try.prog.underlying 62 = some (.slice 24) := by kernel_rfl
theorem c24 : Try.prog.cellsOf 24 = 2 := by kernel_rfl
theorem ls15 : LawSpec Rows.fnExactFastestPressSpec Try.f15.params.size := by
  refine ⟨rfl, fun H ds h => ?_⟩
  rw [show Try.f15.params.size = 3 from rfl] at h
  match ds, h with
  | [_, _, _], _ => exact ⟨rfl, rfl, rfl⟩
theorem lift15 (os : Os) (started : os.Started) (H : Type) (enc : TypeId × Value → H) :
    ReturnsInHanded {} Try.checked os 15 .any (Rows.fnExactFastestPressSpec.pre6 enc Try.prog Try.f15 Rows.fnExactFastestPressRow.domain false) (Rows.fnExactFastestPressSpec.post enc Try.prog Try.f15 false true false false) := by
  refine law_lifted (C := Try.checked) own started (by kernel_rfl) fn15 ls15 (tb := 4) rfl (by kernel_rfl) (by kernel_rfl) laid ok15
    (ChangeSpec.witness6 (enc := enc) (C := Try.checked) false ⟨#[], #[.float .f32 0, .slice none 0 0, .float .f32 0], []⟩ 8 (by kernel_rfl) (by kernel_rfl) (by kernel_rfl) (by kernel_rfl)) ?_
  intro W base args ds p hval hA
  have hl := (trodAll_len hA).2
  rw [show Try.f15.params.toList = [22, 62, 22] from rfl] at hl hval hA
  match args, hl with
  | [v0, v1, v2], _ =>
    obtain ⟨a0, rfl⟩ := okWide_kinds k22 (hval 0 22 v0 rfl rfl)
    obtain ⟨d1, p1, t1⟩ := trodAll_at hA 1 (t := 62) (v := v1) rfl rfl
    obtain ⟨a2, rfl⟩ := okWide_kinds k22 (hval 2 22 v2 rfl rfl)
    rcases floats_open u62 kT24 (fun k hk => by simpa using hk) c24 (hval 1 62 v1 rfl rfl) t1 with rfl | ⟨loc, L, len, hB, hL, hlen, hv⟩
    · exact ⟨[.c (.f .f32 fun _ => a0), .c .sn, .c (.f .f32 fun _ => a2)], [], [], [], fun _ => ⟨0, 0, 0, 0⟩, rfl, fun q hq => by simp at hq, hrel_nil _ _ _, ⟨⟨_, rfl, .inl rfl⟩, rfl, ⟨_, rfl, .inl rfl⟩, trivial⟩⟩
    · exact ⟨[.c (.f .f32 fun _ => a0), .c (.sl 0 (.x fun _ => 0) (.x fun _ => len)), .c (.f .f32 fun _ => a2)], [some ⟨false, 0, .fl fun _ => L⟩], _, _, fun _ => loc, rfl,
        holds_mk ⟨by simp only [List.length_cons, List.length_nil] at hL; show 0 + 2 * len ≤ L.length; omega, hlen⟩, hrel_ro1 hB rfl, ⟨⟨_, rfl, .inl rfl⟩, hv (fun _ => loc) 1 0 (.x fun _ => len) Nat.zero_lt_one rfl rfl, ⟨_, rfl, .inl rfl⟩, trivial⟩⟩
theorem said15 : Rows.FnExactFastestPressSaid :=
  OpenClaim.holds_of_wide 15 Try.f15 rfl rfl rfl rfl rfl rfl rfl ⟨rfl, rfl, rfl, rfl, rfl⟩ rfl rfl rfl rfl rfl (by kernel_rfl) Try.func15 (by kernel_rfl)
    (of_decide_eq_true (by kernel_rfl)) (by unfold Func.isWrapper; rw [if_neg (by decide +kernel)]; exact ⟨rfl, rfl⟩)
    (fun os started H enc _ => lift15 os started H enc)
end Go.Proofs.Ytljemkijpbfcaaa
