/- What the laws of ovens functions of this seat compute, each shown once. No condition. -/
import Derived.Test.YtljemkijpbfcaaaFp
set_option linter.unusedVariables false
set_option linter.unusedSimpArgs false
namespace Go.Proofs.Ytljemkijpbfcaaa.Sh
open Go Go.Proofs
def sLawFSF : Spec := nspec fun args H => match args, H with
  | [.c (.f .f32 _), .c (.sl 0 (.x o) (.x n)), .c (.f .f32 _)], [some ⟨false, 0, x⟩] => match x.toFl with
    | some l => some (.c (.b (.l true)), [none], [fun _ => o () + 2 * n () ≤ (l ()).length ∧ n () ≤ 9223372036854775807])
    | none => none
  | [.c (.f .f32 _), .c .sn, .c (.f .f32 _)], [] => some (.c (.b (.l true)), [], [])
  | _, _ => none
theorem fn14 : FnOk Try.prog 14 Try.f14 (bodyOf Try.f14) := ⟨Try.func14, rfl, by rfl⟩
def E14 : Env := fun g => envGetL [(45, ⟨true, s45, none⟩), (47, ⟨true, s47, none⟩), (46, ⟨true, (sFSF fun w g n s => .t [F (wetAfter (g ()) (w ()) (s ()) (n ())).1, vI (wetAfter (g ()) (w ()) (s ()) (n ())).2]), none⟩), (48, ⟨true, (sFSF fun w g n s => .t [F (wetAfter (g ()) (w ()) (s ()) (n ())).1, vI (wetAfter (g ()) (w ()) (s ()) (n ())).2]), none⟩), (24, ⟨true, (s2D fun a b => vB (sameF a b)), none⟩), (49, ⟨true, s49, none⟩)] g
theorem E14ok : EnvOk Try.prog E14 := envOk_cons ok45 (envOk_cons ok47 (envOk_cons ok46 (envOk_cons ok48 (envOk_cons ok24 (envOk_cons ok49 (envOk_nil _))))))
theorem ok14 : Ok Try.prog 14 (sLawFSF) := ok_of_wpa (E := E14) mixed tts E14ok fn14 fun args H v H' o hs ho => by
  split at hs
  · rename_i w o n s x
    split at hs
    · rename_i l hl
      cases hs
      obtain ⟨hlen, hbig⟩ := ho.one
      refine ⟨_, HLe.cons (BLe.fl hl) HLe.nil, ?_⟩
      cbv
      repeat' first
        | (refine Br.mk (fun h => ?_) (fun h => ?_) <;> cbv)
        | (refine Ob.mk ?_ ?_; rotate_left; cbv)
      all_goals (try simp only [Unit.unit, Int.ofNat_lt, Int.ofNat_le, BE.val, IE.val, NE.val, ltB_iff, ltB_no, leB_iff, leB_no, Int.toNat_natCast, Nat.zero_add, Nat.mul_one, forced, beq_iff_eq, beq_eq_false_iff_ne] at *)
      all_goals (try simp only [mk2_len, same_all, sameF_refl] at *)
      all_goals (first | omega | (simp_all [same_all, sameF_refl, cv]; done) | grind [same_all, sameF_refl])
    · cases hs
  · cases hs
    refine ⟨_, HLe.nil, ?_⟩
    cbv
    repeat' first
      | (refine Br.mk (fun h => ?_) (fun h => ?_) <;> cbv)
      | (refine Ob.mk ?_ ?_; rotate_left; cbv)
    all_goals (try simp only [Unit.unit, Int.ofNat_lt, Int.ofNat_le, BE.val, IE.val, NE.val, ltB_iff, ltB_no, leB_iff, leB_no, Int.toNat_natCast, Nat.zero_add, Nat.mul_one, forced, beq_iff_eq, beq_eq_false_iff_ne] at *)
    all_goals (first | omega | (simp_all [same_all, sameF_refl, cv]; done) | grind [same_all, sameF_refl])
  · cases hs
end Go.Proofs.Ytljemkijpbfcaaa.Sh
