/- What more functions of this seat compute, each shown once. No condition. -/
import Derived.Test.YtljemkijpbfcaaaFn
set_option linter.unusedVariables false
set_option linter.unusedSimpArgs false
namespace Go.Proofs.Ytljemkijpbfcaaa.Sh
open Go Go.Proofs
def sumF : List Nat → Nat
  | [] => 0
  | a :: r => r.foldl (fop .add .f32) a
def seg {α : Type} (l : List α) (o n : Nat) : List α := (l.drop o).take n
theorem sumF_step (l : List Nat) (i : Nat) (h : i < l.length) : sumF (l.take (i + 1)) = if i = 0 then l.getD i 0 else fop .add .f32 (sumF (l.take i)) (l.getD i 0) := by
  cases l with
  | nil => simp at h
  | cons a l =>
    cases i with
    | zero => simp [sumF]
    | succ i =>
      simp only [List.take_succ_cons, sumF, Nat.succ_ne_zero, if_false, List.getD_cons_succ]
      have hi : i < l.length := by simpa using h
      rw [List.take_succ_eq_append_getElem hi, List.foldl_append]
      simp [hi]
theorem seg_get {α : Type} (l : List α) (o n i : Nat) (d : α) (h : i < n) : (seg l o n).getD i d = l.getD (o + i) d := by
  simp [seg, List.getD_eq_getElem?_getD, List.getElem?_take, h]
theorem seg_len {α : Type} (l : List α) (o n : Nat) (h : o + n ≤ l.length) : (seg l o n).length = n := by
  simp [seg]; omega
theorem sumF_seg {l : List Nat} {o n i : Nat} (h : o + n ≤ l.length) (hi : i < n) : sumF ((seg l o n).take (i + 1)) = if i = 0 then l.getD (o + i) 0 else fop .add .f32 (sumF ((seg l o n).take i)) (l.getD (o + i) 0) := by
  rw [sumF_step _ _ (by rw [seg_len _ _ _ h]; exact hi), seg_get _ _ _ _ _ hi]
theorem sumF_all {l : List Nat} {o n : Nat} (h : o + n ≤ l.length) : (seg l o n).take n = seg l o n := List.take_of_length_le (by rw [seg_len _ _ _ h]; exact Nat.le_refl _)
def sFl (f : (Unit → List Nat) → V) : Spec := nspec fun args H => match args, H with
  | [.c (.sl 0 (.x o) (.x n))], [some ⟨false, 0, x⟩] => match x.toFl with
    | some l => some (f (fun _ => seg (l ()) (o ()) (n ())), [none], [fun _ => o () + n () ≤ (l ()).length ∧ n () < 4294967296])
    | none => none
  | _, _ => none
def cv (a : Nat) : Nat := (floatToFloatBits .f32 a .f64).getD (qn .f64)
def sA4A4 (f : Nat → Nat → Nat → Nat → Nat → Nat → Nat → Nat → V) : Spec := nspec fun args H => match args, H with
  | [.a [.f .f32 a, .f .f32 b, .f .f32 d, .f .f32 e], .a [.f .f32 a', .f .f32 b', .f .f32 d', .f .f32 e']], [] => some (f (a ()) (b ()) (d ()) (e ()) (a' ()) (b' ()) (d' ()) (e' ()), [], [])
  | _, _ => none
theorem fn65 : FnOk Try.prog 65 Try.f65 (bodyOf Try.f65) := ⟨Try.func65, rfl, by rfl⟩
theorem ok65 : Ok Try.prog 65 (sA4 fun a b d e => F (sum4 a b d e)) := ok_of_wpa (E := envGetL []) mixed tts (envOk_nil _) fn65 fun args H v H' o hs ho => by
  try dsimp only at hs
  split at hs
  · cases hs
    refine ⟨_, HLe.refl _, ?_⟩
    cbv
    repeat' first
      | (refine Br.mk (fun h => ?_) (fun h => ?_) <;> cbv)
      | (refine Ob.mk ?_ ?_; rotate_left; cbv)
    all_goals simp_all [BE.val, IE.val, NE.val, sum4]
    all_goals grind
  · cases hs
theorem fn29 : FnOk Try.prog 29 Try.f29 (bodyOf Try.f29) := ⟨Try.func29, rfl, by rfl⟩
def E29 : Env := fun g => envGetL [(55, ⟨true, (sPfl fun l => vB (areWetL (l ()))), none⟩), (65, ⟨true, (sA4 fun a b d e => F (sum4 a b d e)), none⟩)] g
theorem E29ok : EnvOk Try.prog E29 := envOk_cons ok55 (envOk_cons ok65 (envOk_nil _))
theorem ok29 : Ok Try.prog 29 (sA4 totalWet) := ok_of_wpa (E := E29) mixed tts E29ok fn29 fun args H v H' o hs ho => by
  try dsimp only at hs
  split at hs
  · cases hs
    refine ⟨_, HLe.refl _, ?_⟩
    cbv
    repeat' first
      | (refine Br.mk (fun h => ?_) (fun h => ?_) <;> cbv)
      | (refine Ob.mk ?_ ?_; rotate_left; cbv)
    all_goals simp_all [BE.val, IE.val, NE.val, totalWet, areWetL, areWet, forced, sum4]
    all_goals grind
  · cases hs
theorem fn66 : FnOk Try.prog 66 Try.f66 (bodyOf Try.f66) := ⟨Try.func66, rfl, by rfl⟩
theorem ok66 : Ok Try.prog 66 (sFl fun l => F (sumF (l ()))) := ok_of_wpa (E := envGetL []) mixed tts (envOk_nil _) fn66 fun args H v H' o hs ho => by
  split at hs
  · rename_i o n x
    split at hs
    · rename_i l hl
      cases hs
      obtain ⟨hlen, hbig⟩ := ho.one
      have hsl := seg_len _ _ _ hlen
      refine ⟨_, HLe.cons (BLe.fl hl) HLe.nil, ?_⟩
      cbv
      refine loop_rule (α := Unit → Nat) (c := ⟨tt, envGetL [], 1⟩)
        (fun s => fr 21 [(3, .c (.f .f32 fun _ => sumF ((seg (l ()) (o ()) (n ())).take (s ())))), (6, .c (.sl 0 (.x o) (.x n))), (7, .c (.i .i64 (.x fun _ => n ()))), (8, .c (.i .i64 (.x fun _ => s ())))]) (fun _ => [some ⟨false, 0, .fl l⟩])
        (fun s => s () ≤ n ()) (fun s => n () - s ()) (fun _ => n () + 1) ?_ ?_
      · refine .mk (fun _ => 0) (Nat.zero_le _) (by dsimp only; omega) ?_
        cbv
        repeat' (refine Ob.mk ?_ ?_; rotate_left)
        all_goals first | rfl | trivial
      · intro i k1
        cbv
        repeat' first
          | (refine Br.mk (fun h => ?_) (fun h => ?_) <;> cbv)
          | (refine Ob.mk ?_ ?_; rotate_left; cbv)
          | (refine Next.mk (fun _ => i () + 1) ?_ ?_ ?_)
        all_goals simp only [Unit.unit, Int.ofNat_lt, Int.ofNat_le, BE.val, IE.val, NE.val, ltB_iff, ltB_no, Int.toNat_natCast, Nat.mul_one, beq_iff_eq, beq_eq_false_iff_ne, Int.natCast_eq_zero] at *
        all_goals first | rfl | omega | exact wrap64_nat (by omega) | (refine ⟨Int.natCast_nonneg _, ?_⟩; omega) | (rw [sumF_seg hlen (by omega)]; simp_all; done) | (rw [show i ⟨⟩ = n ⟨⟩ by omega, sumF_all hlen])
    · cases hs
  · cases hs
theorem fn30 : FnOk Try.prog 30 Try.f30 (bodyOf Try.f30) := ⟨Try.func30, rfl, by rfl⟩
def E30 : Env := fun g => envGetL [(21, ⟨true, (sA4 fun a b d e => vB (areWet a b d e)), none⟩), (66, ⟨true, (sFl fun l => F (sumF (l ()))), none⟩)] g
theorem E30ok : EnvOk Try.prog E30 := envOk_cons ok21 (envOk_cons ok66 (envOk_nil _))
theorem ok30 : Ok Try.prog 30 (sA4 totalWet) := ok_of_wpa (E := E30) mixed tts E30ok fn30 fun args H v H' o hs ho => by
  try dsimp only at hs
  split at hs
  · cases hs
    refine ⟨_, HLe.refl _, ?_⟩
    cbv
    repeat' first
      | (refine Br.mk (fun h => ?_) (fun h => ?_) <;> cbv)
      | (refine Ob.mk ?_ ?_; rotate_left; cbv)
    all_goals (simp_all [BE.val, IE.val, NE.val, totalWet, seg, forced, List.getD, areWetL, areWet, sumF, sum4]; try grind)
  · cases hs
theorem fn33 : FnOk Try.prog 33 Try.f33 (bodyOf Try.f33) := ⟨Try.func33, rfl, by rfl⟩
def E33 : Env := fun g => envGetL [(24, ⟨true, (s2D fun a b => vB (sameF a b)), none⟩)] g
theorem E33ok : EnvOk Try.prog E33 := envOk_cons ok24 (envOk_nil _)
theorem ok33 : Ok Try.prog 33 (sA4A4 fun a b d e a' b' d' e' => vB (sameF (cv a) (cv a') && sameF (cv b) (cv b') && sameF (cv d) (cv d') && sameF (cv e) (cv e'))) := ok_of_wpa (E := E33) mixed tts E33ok fn33 fun args H v H' o hs ho => by
  try dsimp only at hs
  split at hs
  · cases hs
    refine ⟨_, HLe.refl _, ?_⟩
    cbv
    repeat' first
      | (refine Br.mk (fun h => ?_) (fun h => ?_) <;> cbv)
      | (refine Ob.mk ?_ ?_; rotate_left; cbv)
      | (refine Loop.mk 70 ?_; cbv)
      | (refine Gen.same ?_; cbv)
      | (refine Lex.mk (by kernel_rfl) ?_; cbv)
    all_goals (simp_all [BE.val, IE.val, NE.val, cv, forced])
  · cases hs
theorem fn8 : FnOk Try.prog 8 Try.f8 (bodyOf Try.f8) := ⟨Try.func8, rfl, by rfl⟩
def E8 : Env := fun g => envGetL [(20, ⟨true, (sA4 fun a b d e => .a [.f .f32 fun _ => a, .f .f32 fun _ => b, .f .f32 fun _ => d, .f .f32 fun _ => e]), none⟩), (29, ⟨true, (sA4 totalWet), none⟩), (30, ⟨true, (sA4 totalWet), none⟩), (24, ⟨true, (s2D fun a b => vB (sameF a b)), none⟩)] g
theorem E8ok : EnvOk Try.prog E8 := envOk_cons ok20 (envOk_cons ok29 (envOk_cons ok30 (envOk_cons ok24 (envOk_nil _))))
theorem ok8 : Ok Try.prog 8 (sA4 fun _ _ _ _ => .c (.b (.l true))) := ok_of_wpa (E := E8) mixed tts E8ok fn8 fun args H v H' o hs ho => by
  try dsimp only at hs
  split at hs
  · cases hs
    refine ⟨_, HLe.refl _, ?_⟩
    cbv
    repeat' first
      | (refine Br.mk (fun h => ?_) (fun h => ?_) <;> cbv)
      | (refine Ob.mk ?_ ?_; rotate_left; cbv)
    all_goals simp_all [BE.val, IE.val, NE.val, sameF_refl, cv]
  · cases hs
theorem BLe.i1 {r : Bool} {s : Nat} {k : IntKind} {e : IE} {w : Unit → Int} (h : e.val = w ()) : BLe (some ⟨r, s, .lit [.i k e]⟩) (some ⟨r, s, .lit [.i k (.x w)]⟩) := ⟨rfl, rfl, fun j z hz => by
  cases j with
  | zero =>
    have hz : some (C.i k (.x w)) = some z := hz
    cases hz
    exact ⟨_, rfl, fun _ _ v hr => hr.trans (by rw [h]; rfl)⟩
  | succ j => simp [Cells.at] at hz⟩
theorem areWetL4 (a b d e : Nat) : areWetL [a, b, d, e] = areWet a b d e := rfl
def s67 : Spec := fun args H => match args, H with
  | [.c (.sl 0 (.l 0) (.l 1))], [some ⟨false, 0, .lit [.i .i64 e]⟩] => some (vB (inI e.val 0 3), [none], [])
  | _, _ => none
def layL (a b d e : Nat) (c : Int) (k : Nat) : List Nat := [a, b, d, e].set c.toNat (fop .add .f32 ([a, b, d, e].getD c.toNat 0) k)
def layFilm (a b d e : Nat) (c : Int) (k : Nat) : List Nat × Int :=
  if areWet a b d e then if inI c 0 3 && isWet k then if areWetL (layL a b d e c k) then (layL a b d e c k, 0) else ([0, 0, 0, 0], 4) else ([0, 0, 0, 0], 2) else ([0, 0, 0, 0], 1)
def vL4 (l : Unit → List Nat) : V := .a [.f .f32 fun _ => (l ()).getD 0 0, .f .f32 fun _ => (l ()).getD 1 0, .f .f32 fun _ => (l ()).getD 2 0, .f .f32 fun _ => (l ()).getD 3 0]
def sA4IF (f : Nat → Nat → Nat → Nat → Int → Nat → V) : Spec := nspec fun args H => match args, H with
  | [.a [.f .f32 a, .f .f32 b, .f .f32 d, .f .f32 e], .c (.i .i64 (.x c)), .c (.f .f32 k)], [] => some (f (a ()) (b ()) (d ()) (e ()) (c ()) (k ()), [], [])
  | _, _ => none
def sA4FF (f : Nat → Nat → Nat → Nat → Nat → Nat → V) : Spec := nspec fun args H => match args, H with
  | [.a [.f .f32 a, .f .f32 b, .f .f32 d, .f .f32 e], .c (.f .f32 r), .c (.f .f32 t)], [] => some (f (a ()) (b ()) (d ()) (e ()) (r ()) (t ()), [], [])
  | _, _ => none
theorem fn67 : FnOk Try.prog 67 Try.f67 (bodyOf Try.f67) := ⟨Try.func67, rfl, by rfl⟩
theorem ok67 : Ok Try.prog 67 (s67) := ok_of_wpaR (E := envGetL []) mixed tts (envOk_nil _) fn67 fun args H v H' o hs ho => by
  unfold s67 at hs
  split at hs
  · rename_i e
    cases hs
    obtain ⟨w, hw⟩ : ∃ w : Unit → Int, e.val = w () := ⟨fun _ => e.val, rfl⟩
    refine ⟨_, HLe.cons (BLe.i1 hw) HLe.nil, ?_⟩
    rw [hw]
    cbv
    repeat' first
      | (refine Br.mk (fun h => ?_) (fun h => ?_) <;> cbv)
      | (refine Ob.mk ?_ ?_; rotate_left; cbv)
      | (refine Loop.mk 5 ?_; cbv)
      | (refine Gen.same ?_; cbv)
    all_goals (simp_all [BE.val, IE.val, NE.val, inI, leB, ltB, forced]; try grind)
  · cases hs
theorem fn31 : FnOk Try.prog 31 Try.f31 (bodyOf Try.f31) := ⟨Try.func31, rfl, by rfl⟩
def E31 : Env := fun g => envGetL [(55, ⟨true, (sPfl fun l => vB (areWetL (l ()))), none⟩), (64, ⟨true, (s3I fun n lo hi => vB (inI n lo hi)), none⟩), (56, ⟨true, (s1F fun a => vB (isWet a)), none⟩)] g
theorem E31ok : EnvOk Try.prog E31 := envOk_cons ok55 (envOk_cons ok64 (envOk_cons ok56 (envOk_nil _)))
theorem ok31 : Ok Try.prog 31 (sA4IF fun a b d e c k => .t [vL4 fun _ => (layFilm a b d e c k).1, vI (layFilm a b d e c k).2]) := ok_of_wpa (E := E31) mixed tts E31ok fn31 fun args H v H' o hs ho => by
  try dsimp only at hs
  split at hs
  · cases hs
    refine ⟨_, HLe.refl _, ?_⟩
    cbv
    repeat' first
      | (refine Br.mk (fun h => ?_) (fun h => ?_) <;> cbv)
      | (refine Ob.mk ?_ ?_; rotate_left; cbv)
    all_goals (try simp only [Unit.unit, BE.val, IE.val, NE.val, forced, Nat.zero_add, Nat.mul_one] at *)
    all_goals (first | (simp_all [layFilm, layL, areWetL4]; done) | grind [inI, leB, ltB, areWetL4])
  · cases hs
theorem fn32 : FnOk Try.prog 32 Try.f32 (bodyOf Try.f32) := ⟨Try.func32, rfl, by rfl⟩
def E32 : Env := fun g => envGetL [(21, ⟨true, (sA4 fun a b d e => vB (areWet a b d e)), none⟩), (67, ⟨true, s67, none⟩), (54, ⟨true, (s1F fun a => vB (isWet a)), none⟩)] g
theorem E32ok : EnvOk Try.prog E32 := envOk_cons ok21 (envOk_cons ok67 (envOk_cons ok54 (envOk_nil _)))
theorem ok32 : Ok Try.prog 32 (sA4IF fun a b d e c k => .t [vL4 fun _ => (layFilm a b d e c k).1, vI (layFilm a b d e c k).2]) := ok_of_wpa (E := E32) mixed tts E32ok fn32 fun args H v H' o hs ho => by
  try dsimp only at hs
  split at hs
  · cases hs
    refine ⟨_, HLe.refl _, ?_⟩
    cbv
    repeat' first
      | (refine Br.mk (fun h => ?_) (fun h => ?_) <;> cbv)
      | (refine Ob.mk ?_ ?_; rotate_left; cbv)
    all_goals (try simp only [Unit.unit, BE.val, IE.val, NE.val, forced, Nat.zero_add, Nat.mul_one] at *)
    all_goals (first | (simp_all [layFilm, layL, areWetL4, areWetL]; done) | grind [inI, leB, ltB, areWetL4])
  · cases hs
theorem fn9 : FnOk Try.prog 9 Try.f9 (bodyOf Try.f9) := ⟨Try.func9, rfl, by rfl⟩
def E9 : Env := fun g => envGetL [(20, ⟨true, (sA4 fun a b d e => .a [.f .f32 fun _ => a, .f .f32 fun _ => b, .f .f32 fun _ => d, .f .f32 fun _ => e]), none⟩), (31, ⟨true, (sA4IF fun a b d e c k => .t [vL4 fun _ => (layFilm a b d e c k).1, vI (layFilm a b d e c k).2]), none⟩), (32, ⟨true, (sA4IF fun a b d e c k => .t [vL4 fun _ => (layFilm a b d e c k).1, vI (layFilm a b d e c k).2]), none⟩), (33, ⟨true, (sA4A4 fun a b d e a' b' d' e' => vB (sameF (cv a) (cv a') && sameF (cv b) (cv b') && sameF (cv d) (cv d') && sameF (cv e) (cv e'))), none⟩)] g
theorem E9ok : EnvOk Try.prog E9 := envOk_cons ok20 (envOk_cons ok31 (envOk_cons ok32 (envOk_cons ok33 (envOk_nil _))))
theorem ok9 : Ok Try.prog 9 (sA4IF fun _ _ _ _ _ _ => .c (.b (.l true))) := ok_of_wpa (E := E9) mixed tts E9ok fn9 fun args H v H' o hs ho => by
  try dsimp only at hs
  split at hs
  · cases hs
    refine ⟨_, HLe.refl _, ?_⟩
    cbv
    repeat' first
      | (refine Br.mk (fun h => ?_) (fun h => ?_) <;> cbv)
      | (refine Ob.mk ?_ ?_; rotate_left; cbv)
    all_goals simp_all [BE.val, IE.val, NE.val, sameF_refl, cv, beq_iff_eq]
  · cases hs
end Go.Proofs.Ytljemkijpbfcaaa.Sh
