/- What the drying functions of this seat compute, each shown once. No condition. -/
import Derived.Test.YtljemkijpbfcaaaFm
set_option linter.unusedVariables false
set_option linter.unusedSimpArgs false
namespace Go.Proofs.Ytljemkijpbfcaaa.Sh
open Go Go.Proofs
def dr (p x above : Nat) : Nat := fop .quo .f32 x (fop .add .f32 1065353216 (fop .quo .f32 p (fop .add .f32 1065353216 above)))
def driedL (a b d e r t : Nat) : List Nat := [dr (mul r t) a (fop .add .f32 (fop .add .f32 b d) e), dr (mul r t) b (fop .add .f32 d e), dr (mul r t) d e, dr (mul r t) e 0]
def dryL (a b d e r t : Nat) : List Nat × Int := if areWet a b d e then if isRate r && isRate t then (driedL a b d e r t, 0) else ([0, 0, 0, 0], 2) else ([0, 0, 0, 0], 1)
theorem fn71 : FnOk Try.prog 71 Try.f71 (bodyOf Try.f71) := ⟨Try.func71, rfl, by rfl⟩
theorem ok71 : Ok Try.prog 71 (sA4FF fun a b d e r t => vL4 fun _ => driedL a b d e r t) := ok_of_wpa (E := envGetL []) mixed tts (envOk_nil _) fn71 fun args H v H' o hs ho => by
  try dsimp only at hs
  split at hs
  · cases hs
    refine ⟨_, HLe.refl _, ?_⟩
    cbv
    repeat' first
      | (refine Br.mk (fun h => ?_) (fun h => ?_) <;> cbv)
      | (refine Ob.mk ?_ ?_; rotate_left; cbv)
      | (refine Loop.mk 70 ?_; cbv)
      | (refine Gen.same ?_; cbv)
    all_goals (try simp only [Unit.unit, BE.val, IE.val, NE.val, forced, Nat.zero_add, Nat.mul_one] at *)
    all_goals (first | (simp_all [driedL, dr, dryL, mul, seg, sumF, areWetL4, areWetL, areWet]; done) | grind [areWetL4, areWetL, dryL, driedL])
  · cases hs
theorem fn72 : FnOk Try.prog 72 Try.f72 (bodyOf Try.f72) := ⟨Try.func72, rfl, by rfl⟩
def E72 : Env := fun g => envGetL [(66, ⟨true, (sFl fun l => F (sumF (l ()))), none⟩), (59, ⟨true, (s2F fun a b => F (mul a b)), none⟩)] g
theorem E72ok : EnvOk Try.prog E72 := envOk_cons ok66 (envOk_cons ok59 (envOk_nil _))
theorem ok72 : Ok Try.prog 72 (sA4FF fun a b d e r t => vL4 fun _ => driedL a b d e r t) := ok_of_wpa (E := E72) mixed tts E72ok fn72 fun args H v H' o hs ho => by
  try dsimp only at hs
  split at hs
  · cases hs
    refine ⟨_, HLe.refl _, ?_⟩
    cbv
    repeat' first
      | (refine Br.mk (fun h => ?_) (fun h => ?_) <;> cbv)
      | (refine Ob.mk ?_ ?_; rotate_left; cbv)
      | (refine Loop.mk 70 ?_; cbv)
      | (refine Gen.same ?_; cbv)
    all_goals (try simp only [Unit.unit, BE.val, IE.val, NE.val, forced, Nat.zero_add, Nat.mul_one] at *)
    all_goals (first | (simp_all [driedL, dr, dryL, mul, seg, sumF, areWetL4, areWetL, areWet]; done) | grind [areWetL4, areWetL, dryL, driedL])
  · cases hs
theorem fn38 : FnOk Try.prog 38 Try.f38 (bodyOf Try.f38) := ⟨Try.func38, rfl, by rfl⟩
def E38 : Env := fun g => envGetL [(55, ⟨true, (sPfl fun l => vB (areWetL (l ()))), none⟩), (60, ⟨true, (s1F fun a => vB (isRate a)), none⟩), (71, ⟨true, (sA4FF fun a b d e r t => vL4 fun _ => driedL a b d e r t), none⟩)] g
theorem E38ok : EnvOk Try.prog E38 := envOk_cons ok55 (envOk_cons ok60 (envOk_cons ok71 (envOk_nil _)))
theorem ok38 : Ok Try.prog 38 (sA4FF fun a b d e r t => .t [vL4 fun _ => (dryL a b d e r t).1, vI (dryL a b d e r t).2]) := ok_of_wpa (E := E38) mixed tts E38ok fn38 fun args H v H' o hs ho => by
  try dsimp only at hs
  split at hs
  · cases hs
    refine ⟨_, HLe.refl _, ?_⟩
    cbv
    repeat' first
      | (refine Br.mk (fun h => ?_) (fun h => ?_) <;> cbv)
      | (refine Ob.mk ?_ ?_; rotate_left; cbv)
    all_goals (try simp only [Unit.unit, BE.val, IE.val, NE.val, forced, Nat.zero_add, Nat.mul_one] at *)
    all_goals (first | (simp_all [dryL, areWetL4]; done) | (simp_all [dryL, areWetL4]; grind))
  · cases hs
theorem fn39 : FnOk Try.prog 39 Try.f39 (bodyOf Try.f39) := ⟨Try.func39, rfl, by rfl⟩
def E39 : Env := fun g => envGetL [(21, ⟨true, (sA4 fun a b d e => vB (areWet a b d e)), none⟩), (62, ⟨true, (s2F fun r t => vB (isRate r && isRate t)), none⟩), (72, ⟨true, (sA4FF fun a b d e r t => vL4 fun _ => driedL a b d e r t), none⟩)] g
theorem E39ok : EnvOk Try.prog E39 := envOk_cons ok21 (envOk_cons ok62 (envOk_cons ok72 (envOk_nil _)))
theorem ok39 : Ok Try.prog 39 (sA4FF fun a b d e r t => .t [vL4 fun _ => (dryL a b d e r t).1, vI (dryL a b d e r t).2]) := ok_of_wpa (E := E39) mixed tts E39ok fn39 fun args H v H' o hs ho => by
  try dsimp only at hs
  split at hs
  · cases hs
    refine ⟨_, HLe.refl _, ?_⟩
    cbv
    repeat' first
      | (refine Br.mk (fun h => ?_) (fun h => ?_) <;> cbv)
      | (refine Ob.mk ?_ ?_; rotate_left; cbv)
    all_goals (try simp only [Unit.unit, BE.val, IE.val, NE.val, forced, Nat.zero_add, Nat.mul_one] at *)
    all_goals (first | (simp_all [dryL, areWetL4]; done) | (simp_all [dryL, areWetL4]; grind))
  · cases hs
theorem fn12 : FnOk Try.prog 12 Try.f12 (bodyOf Try.f12) := ⟨Try.func12, rfl, by rfl⟩
def E12 : Env := fun g => envGetL [(20, ⟨true, (sA4 fun a b d e => .a [.f .f32 fun _ => a, .f .f32 fun _ => b, .f .f32 fun _ => d, .f .f32 fun _ => e]), none⟩), (38, ⟨true, (sA4FF fun a b d e r t => .t [vL4 fun _ => (dryL a b d e r t).1, vI (dryL a b d e r t).2]), none⟩), (39, ⟨true, (sA4FF fun a b d e r t => .t [vL4 fun _ => (dryL a b d e r t).1, vI (dryL a b d e r t).2]), none⟩), (33, ⟨true, (sA4A4 fun a b d e a' b' d' e' => vB (sameF (cv a) (cv a') && sameF (cv b) (cv b') && sameF (cv d) (cv d') && sameF (cv e) (cv e'))), none⟩)] g
theorem E12ok : EnvOk Try.prog E12 := envOk_cons ok20 (envOk_cons ok38 (envOk_cons ok39 (envOk_cons ok33 (envOk_nil _))))
theorem ok12 : Ok Try.prog 12 (sA4FF fun _ _ _ _ _ _ => .c (.b (.l true))) := ok_of_wpa (E := E12) mixed tts E12ok fn12 fun args H v H' o hs ho => by
  try dsimp only at hs
  split at hs
  · cases hs
    refine ⟨_, HLe.refl _, ?_⟩
    cbv
    repeat' first
      | (refine Br.mk (fun h => ?_) (fun h => ?_) <;> cbv)
      | (refine Ob.mk ?_ ?_; rotate_left; cbv)
    all_goals simp_all [BE.val, IE.val, NE.val, sameF_refl, cv, beq_iff_eq]
  · cases hs
end Go.Proofs.Ytljemkijpbfcaaa.Sh
