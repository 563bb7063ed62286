/- The functions of marks and sheets; drawn sheets. No condition. -/
import Derived.Test.YteifneielgnniaaGreatDoorMc
import Derived.Test.YteifneielgnniaaGreatDoorMd
set_option linter.unusedVariables false
set_option linter.unusedSimpArgs false
set_option linter.unusedSectionVars false
section
namespace Go.Proofs.YteifneielgnniaaGreatDoor.Sh
namespace Rg
open Go Go.Proofs
abbrev Zm (m : M) : V := .c (.z .f32 (fun _ => m.1) (fun _ => m.2))
theorem cx_cons {cs : List C} {q : List (Unit → Nat × Nat)} {n : Nat} (h : cxsOf cs = some q) (hl : q.length = n + 1) : ∃ a b r q', cs = .z .f32 a b :: r ∧ q = (fun _ => (a (), b ())) :: q' ∧ cxsOf r = some q' ∧ q'.length = n := by
  unfold cxsOf at h
  split at h
  · cases h; simp at hl
  · rename_i a b r
    split at h
    · rename_i q' hq
      cases h
      exact ⟨a, b, r, q', rfl, rfl, hq, by simpa using hl⟩
    · cases h
  · cases h
theorem cx_nil {cs : List C} {q : List (Unit → Nat × Nat)} (h : cxsOf cs = some q) (hl : q.length = 0) : cs = [] ∧ q = [] := by
  have : q = [] := List.length_eq_zero_iff.1 hl
  subst this
  unfold cxsOf at h
  split at h
  · exact ⟨rfl, rfl⟩
  · split at h <;> cases h
  · cases h
theorem cx4 {cs : List C} {q : List (Unit → Nat × Nat)} (h : cxsOf cs = some q) (hl : q.length = 4) : ∃ e m : Nat → Unit → Nat, cs = [.z .f32 (e 0) (m 0), .z .f32 (e 1) (m 1), .z .f32 (e 2) (m 2), .z .f32 (e 3) (m 3)] ∧ q = [fun _ => (e 0 (), m 0 ()), fun _ => (e 1 (), m 1 ()), fun _ => (e 2 (), m 2 ()), fun _ => (e 3 (), m 3 ())] := by
  obtain ⟨a0, b0, cs, q, rfl, rfl, h, hl⟩ := cx_cons h hl
  obtain ⟨a1, b1, cs, q, rfl, rfl, h, hl⟩ := cx_cons h hl
  obtain ⟨a2, b2, cs, q, rfl, rfl, h, hl⟩ := cx_cons h hl
  obtain ⟨a3, b3, cs, q, rfl, rfl, h, hl⟩ := cx_cons h hl
  obtain ⟨rfl, rfl⟩ := cx_nil h hl
  exact ⟨fun i => [a0, a1, a2, a3].getD i a0, fun i => [b0, b1, b2, b3].getD i b0, rfl, rfl⟩
theorem cx16 {cs : List C} {q : List (Unit → Nat × Nat)} (h : cxsOf cs = some q) (hl : q.length = 16) : ∃ e m : Nat → Unit → Nat, cs = [.z .f32 (e 0) (m 0), .z .f32 (e 1) (m 1), .z .f32 (e 2) (m 2), .z .f32 (e 3) (m 3), .z .f32 (e 4) (m 4), .z .f32 (e 5) (m 5), .z .f32 (e 6) (m 6), .z .f32 (e 7) (m 7), .z .f32 (e 8) (m 8), .z .f32 (e 9) (m 9), .z .f32 (e 10) (m 10), .z .f32 (e 11) (m 11), .z .f32 (e 12) (m 12), .z .f32 (e 13) (m 13), .z .f32 (e 14) (m 14), .z .f32 (e 15) (m 15)] ∧ q = [fun _ => (e 0 (), m 0 ()), fun _ => (e 1 (), m 1 ()), fun _ => (e 2 (), m 2 ()), fun _ => (e 3 (), m 3 ()), fun _ => (e 4 (), m 4 ()), fun _ => (e 5 (), m 5 ()), fun _ => (e 6 (), m 6 ()), fun _ => (e 7 (), m 7 ()), fun _ => (e 8 (), m 8 ()), fun _ => (e 9 (), m 9 ()), fun _ => (e 10 (), m 10 ()), fun _ => (e 11 (), m 11 ()), fun _ => (e 12 (), m 12 ()), fun _ => (e 13 (), m 13 ()), fun _ => (e 14 (), m 14 ()), fun _ => (e 15 (), m 15 ())] := by
  obtain ⟨a0, b0, cs, q, rfl, rfl, h, hl⟩ := cx_cons h hl
  obtain ⟨a1, b1, cs, q, rfl, rfl, h, hl⟩ := cx_cons h hl
  obtain ⟨a2, b2, cs, q, rfl, rfl, h, hl⟩ := cx_cons h hl
  obtain ⟨a3, b3, cs, q, rfl, rfl, h, hl⟩ := cx_cons h hl
  obtain ⟨a4, b4, cs, q, rfl, rfl, h, hl⟩ := cx_cons h hl
  obtain ⟨a5, b5, cs, q, rfl, rfl, h, hl⟩ := cx_cons h hl
  obtain ⟨a6, b6, cs, q, rfl, rfl, h, hl⟩ := cx_cons h hl
  obtain ⟨a7, b7, cs, q, rfl, rfl, h, hl⟩ := cx_cons h hl
  obtain ⟨a8, b8, cs, q, rfl, rfl, h, hl⟩ := cx_cons h hl
  obtain ⟨a9, b9, cs, q, rfl, rfl, h, hl⟩ := cx_cons h hl
  obtain ⟨a10, b10, cs, q, rfl, rfl, h, hl⟩ := cx_cons h hl
  obtain ⟨a11, b11, cs, q, rfl, rfl, h, hl⟩ := cx_cons h hl
  obtain ⟨a12, b12, cs, q, rfl, rfl, h, hl⟩ := cx_cons h hl
  obtain ⟨a13, b13, cs, q, rfl, rfl, h, hl⟩ := cx_cons h hl
  obtain ⟨a14, b14, cs, q, rfl, rfl, h, hl⟩ := cx_cons h hl
  obtain ⟨a15, b15, cs, q, rfl, rfl, h, hl⟩ := cx_cons h hl
  obtain ⟨rfl, rfl⟩ := cx_nil h hl
  exact ⟨fun i => [a0, a1, a2, a3, a4, a5, a6, a7, a8, a9, a10, a11, a12, a13, a14, a15].getD i a0, fun i => [b0, b1, b2, b3, b4, b5, b6, b7, b8, b9, b10, b11, b12, b13, b14, b15].getD i b0, rfl, rfl⟩
end Rg
end Go.Proofs.YteifneielgnniaaGreatDoor.Sh
end
section
namespace Go.Proofs.YteifneielgnniaaGreatDoor.Sh
namespace Rg
open Go Go.Proofs
theorem fn87 : FnOk Tryz.prog 87 Tryz.f87 (bodyOf Tryz.f87) := ⟨Tryz.func87, rfl, by rfl⟩
def s87 : Spec := hspec fun args H => match args, H with
  | [.c (.f .f32 a), .c (.f .f32 b)], [] => some (Zm (a (), b ()), [], [])
  | _, _ => none
theorem ok87 : Ok Tryz.prog 87 (s87) := ok_of_wpaH (E := envGetL []) mixed tts (envOk_nil _) fn87 fun args H v H' o hs ho => by
  split at hs
  · rename_i a b
    cases hs
    refine ⟨_, HLe.refl _, ?_⟩
    cbv
    repeat' first
      | (refine Br.mk (fun h => ?_) (fun h => ?_) <;> cbv)
      | (refine Ob.mk ?_ ?_; rotate_left; cbv)
      | (refine Lex.mk (by decide +kernel) ?_; cbv)
    all_goals (try simp only [Unit.unit, Int.ofNat_lt, Int.ofNat_le, BE.val, IE.val, NE.val, ltB_iff, ltB_no, leB_iff, leB_no, Int.toNat_natCast, Nat.zero_add, Nat.add_zero, Nat.mul_one, forced, beq_iff_eq, beq_eq_false_iff_ne, bne_iff_ne, bne_eq_false_iff_eq] at *)
    all_goals first | with_reducible rfl | rfl
  · cases hs
theorem fn82 : FnOk Tryz.prog 82 Tryz.f82 (bodyOf Tryz.f82) := ⟨Tryz.func82, rfl, by rfl⟩
def s82 : Spec := hspec fun args H => match args, H with
  | [.c (.f .f32 a), .c (.f .f32 b)], [] => some (Zm (a (), b ()), [], [])
  | _, _ => none
theorem ok82 : Ok Tryz.prog 82 (s82) := ok_of_wpaH (E := envGetL []) mixed tts (envOk_nil _) fn82 fun args H v H' o hs ho => by
  split at hs
  · rename_i a b
    cases hs
    refine ⟨_, HLe.refl _, ?_⟩
    cbv
    repeat' first
      | (refine Br.mk (fun h => ?_) (fun h => ?_) <;> cbv)
      | (refine Ob.mk ?_ ?_; rotate_left; cbv)
      | (refine Lex.mk (by decide +kernel) ?_; cbv)
    all_goals (try simp only [Unit.unit, Int.ofNat_lt, Int.ofNat_le, BE.val, IE.val, NE.val, ltB_iff, ltB_no, leB_iff, leB_no, Int.toNat_natCast, Nat.zero_add, Nat.add_zero, Nat.mul_one, forced, beq_iff_eq, beq_eq_false_iff_ne, bne_iff_ne, bne_eq_false_iff_eq] at *)
    all_goals first | with_reducible rfl | rfl
  · cases hs
theorem fn126 : FnOk Tryz.prog 126 Tryz.f126 (bodyOf Tryz.f126) := ⟨Tryz.func126, rfl, by rfl⟩
def s126 : Spec := hspec fun args H => match args, H with
  | [.c (.z .f32 a1 a2)], [] => some (F (a1 ()), [], [])
  | _, _ => none
theorem ok126 : Ok Tryz.prog 126 (s126) := ok_of_wpaH (E := envGetL []) mixed tts (envOk_nil _) fn126 fun args H v H' o hs ho => by
  split at hs
  · rename_i a1 a2
    cases hs
    refine ⟨_, HLe.refl _, ?_⟩
    cbv
    repeat' first
      | (refine Br.mk (fun h => ?_) (fun h => ?_) <;> cbv)
      | (refine Ob.mk ?_ ?_; rotate_left; cbv)
      | (refine Lex.mk (by decide +kernel) ?_; cbv)
    all_goals (try simp only [Unit.unit, Int.ofNat_lt, Int.ofNat_le, BE.val, IE.val, NE.val, ltB_iff, ltB_no, leB_iff, leB_no, Int.toNat_natCast, Nat.zero_add, Nat.add_zero, Nat.mul_one, forced, beq_iff_eq, beq_eq_false_iff_ne, bne_iff_ne, bne_eq_false_iff_eq] at *)
    all_goals first | with_reducible rfl | rfl
  · cases hs
theorem fn83 : FnOk Tryz.prog 83 Tryz.f83 (bodyOf Tryz.f83) := ⟨Tryz.func83, rfl, by rfl⟩
def s83 : Spec := hspec fun args H => match args, H with
  | [.c (.z .f32 a1 a2)], [] => some (F (a1 ()), [], [])
  | _, _ => none
theorem ok83 : Ok Tryz.prog 83 (s83) := ok_of_wpaH (E := envGetL []) mixed tts (envOk_nil _) fn83 fun args H v H' o hs ho => by
  split at hs
  · rename_i a1 a2
    cases hs
    refine ⟨_, HLe.refl _, ?_⟩
    cbv
    repeat' first
      | (refine Br.mk (fun h => ?_) (fun h => ?_) <;> cbv)
      | (refine Ob.mk ?_ ?_; rotate_left; cbv)
      | (refine Lex.mk (by decide +kernel) ?_; cbv)
    all_goals (try simp only [Unit.unit, Int.ofNat_lt, Int.ofNat_le, BE.val, IE.val, NE.val, ltB_iff, ltB_no, leB_iff, leB_no, Int.toNat_natCast, Nat.zero_add, Nat.add_zero, Nat.mul_one, forced, beq_iff_eq, beq_eq_false_iff_ne, bne_iff_ne, bne_eq_false_iff_eq] at *)
    all_goals first | with_reducible rfl | rfl
  · cases hs
theorem fn127 : FnOk Tryz.prog 127 Tryz.f127 (bodyOf Tryz.f127) := ⟨Tryz.func127, rfl, by rfl⟩
def s127 : Spec := hspec fun args H => match args, H with
  | [.c (.z .f32 a1 a2)], [] => some (F (a2 ()), [], [])
  | _, _ => none
theorem ok127 : Ok Tryz.prog 127 (s127) := ok_of_wpaH (E := envGetL []) mixed tts (envOk_nil _) fn127 fun args H v H' o hs ho => by
  split at hs
  · rename_i a1 a2
    cases hs
    refine ⟨_, HLe.refl _, ?_⟩
    cbv
    repeat' first
      | (refine Br.mk (fun h => ?_) (fun h => ?_) <;> cbv)
      | (refine Ob.mk ?_ ?_; rotate_left; cbv)
      | (refine Lex.mk (by decide +kernel) ?_; cbv)
    all_goals (try simp only [Unit.unit, Int.ofNat_lt, Int.ofNat_le, BE.val, IE.val, NE.val, ltB_iff, ltB_no, leB_iff, leB_no, Int.toNat_natCast, Nat.zero_add, Nat.add_zero, Nat.mul_one, forced, beq_iff_eq, beq_eq_false_iff_ne, bne_iff_ne, bne_eq_false_iff_eq] at *)
    all_goals first | with_reducible rfl | rfl
  · cases hs
theorem fn84 : FnOk Tryz.prog 84 Tryz.f84 (bodyOf Tryz.f84) := ⟨Tryz.func84, rfl, by rfl⟩
def s84 : Spec := hspec fun args H => match args, H with
  | [.c (.z .f32 a1 a2)], [] => some (F (a2 ()), [], [])
  | _, _ => none
theorem ok84 : Ok Tryz.prog 84 (s84) := ok_of_wpaH (E := envGetL []) mixed tts (envOk_nil _) fn84 fun args H v H' o hs ho => by
  split at hs
  · rename_i a1 a2
    cases hs
    refine ⟨_, HLe.refl _, ?_⟩
    cbv
    repeat' first
      | (refine Br.mk (fun h => ?_) (fun h => ?_) <;> cbv)
      | (refine Ob.mk ?_ ?_; rotate_left; cbv)
      | (refine Lex.mk (by decide +kernel) ?_; cbv)
    all_goals (try simp only [Unit.unit, Int.ofNat_lt, Int.ofNat_le, BE.val, IE.val, NE.val, ltB_iff, ltB_no, leB_iff, leB_no, Int.toNat_natCast, Nat.zero_add, Nat.add_zero, Nat.mul_one, forced, beq_iff_eq, beq_eq_false_iff_ne, bne_iff_ne, bne_eq_false_iff_eq] at *)
    all_goals first | with_reducible rfl | rfl
  · cases hs
theorem fn92 : FnOk Tryz.prog 92 Tryz.f92 (bodyOf Tryz.f92) := ⟨Tryz.func92, rfl, by rfl⟩
def s92 : Spec := hspec fun args H => match args, H with
  | [.c (.f .f32 a), .c (.f .f32 b)], [] => some (F (fop .mul .f32 (a ()) (b ())), [], [])
  | _, _ => none
theorem ok92 : Ok Tryz.prog 92 (s92) := ok_of_wpaH (E := envGetL []) mixed tts (envOk_nil _) fn92 fun args H v H' o hs ho => by
  split at hs
  · rename_i a b
    cases hs
    refine ⟨_, HLe.refl _, ?_⟩
    cbv
    repeat' first
      | (refine Br.mk (fun h => ?_) (fun h => ?_) <;> cbv)
      | (refine Ob.mk ?_ ?_; rotate_left; cbv)
      | (refine Lex.mk (by decide +kernel) ?_; cbv)
    all_goals (try simp only [Unit.unit, Int.ofNat_lt, Int.ofNat_le, BE.val, IE.val, NE.val, ltB_iff, ltB_no, leB_iff, leB_no, Int.toNat_natCast, Nat.zero_add, Nat.add_zero, Nat.mul_one, forced, beq_iff_eq, beq_eq_false_iff_ne, bne_iff_ne, bne_eq_false_iff_eq] at *)
    all_goals first | with_reducible rfl | rfl
  · cases hs
theorem fn131 : FnOk Tryz.prog 131 Tryz.f131 (bodyOf Tryz.f131) := ⟨Tryz.func131, rfl, by rfl⟩
def s131 : Spec := hspec fun args H => match args, H with
  | [.c (.f .f32 a)], [] => some (vB (okX (a ())), [], [])
  | _, _ => none
theorem ok131 : Ok Tryz.prog 131 (s131) := ok_of_wpaH (E := envGetL []) mixed tts (envOk_nil _) fn131 fun args H v H' o hs ho => by
  split at hs
  · rename_i a
    cases hs
    refine ⟨_, HLe.refl _, ?_⟩
    cbv
    repeat' first
      | (refine Br.mk (fun h => ?_) (fun h => ?_) <;> cbv)
      | (refine Ob.mk ?_ ?_; rotate_left; cbv)
      | (refine Lex.mk (by decide +kernel) ?_; cbv)
    all_goals (try simp only [Unit.unit, Int.ofNat_lt, Int.ofNat_le, BE.val, IE.val, NE.val, ltB_iff, ltB_no, leB_iff, leB_no, Int.toNat_natCast, Nat.zero_add, Nat.add_zero, Nat.mul_one, forced, beq_iff_eq, beq_eq_false_iff_ne, bne_iff_ne, bne_eq_false_iff_eq] at *)
    all_goals first | with_reducible rfl | (simp_all [okX, isIn, okM]; done)
  · cases hs
theorem fn60 : FnOk Tryz.prog 60 Tryz.f60 (bodyOf Tryz.f60) := ⟨Tryz.func60, rfl, by rfl⟩
def s60 : Spec := hspec fun args H => match args, H with
  | [.c (.f .f32 a), .c (.f .f32 lo), .c (.f .f32 hi)], [] => some (vB (isIn (a ()) (lo ()) (hi ())), [], [])
  | _, _ => none
theorem ok60 : Ok Tryz.prog 60 (s60) := ok_of_wpaH (E := envGetL []) mixed tts (envOk_nil _) fn60 fun args H v H' o hs ho => by
  split at hs
  · rename_i a lo hi
    cases hs
    refine ⟨_, HLe.refl _, ?_⟩
    cbv
    repeat' first
      | (refine Br.mk (fun h => ?_) (fun h => ?_) <;> cbv)
      | (refine Ob.mk ?_ ?_; rotate_left; cbv)
      | (refine Lex.mk (by decide +kernel) ?_; cbv)
    all_goals (try simp only [Unit.unit, Int.ofNat_lt, Int.ofNat_le, BE.val, IE.val, NE.val, ltB_iff, ltB_no, leB_iff, leB_no, Int.toNat_natCast, Nat.zero_add, Nat.add_zero, Nat.mul_one, forced, beq_iff_eq, beq_eq_false_iff_ne, bne_iff_ne, bne_eq_false_iff_eq] at *)
    all_goals first | with_reducible rfl | (simp_all [okX, isIn, okM]; done)
  · cases hs
theorem fn98 : FnOk Tryz.prog 98 Tryz.f98 (bodyOf Tryz.f98) := ⟨Tryz.func98, rfl, by rfl⟩
def s98 : Spec := hspec fun args H => match args, H with
  | [.c (.z .f32 a1 a2)], [] => some (vB (okM (a1 (), a2 ())), [], [])
  | _, _ => none
def E98 : Env := fun g => envGetL [(126, ⟨true, s126, none⟩), (127, ⟨true, s127, none⟩), (131, ⟨true, s131, none⟩)] g
theorem E98ok : EnvOk Tryz.prog E98 := envOk_cons ok126 (envOk_cons ok127 (envOk_cons ok131 (envOk_nil _)))
theorem ok98 : Ok Tryz.prog 98 (s98) := ok_of_wpaH (E := E98) mixed tts E98ok fn98 fun args H v H' o hs ho => by
  split at hs
  · rename_i a1 a2
    cases hs
    refine ⟨_, HLe.refl _, ?_⟩
    cbv
    repeat' first
      | (refine Br.mk (fun h => ?_) (fun h => ?_) <;> cbv)
      | (refine Ob.mk ?_ ?_; rotate_left; cbv)
      | (refine Lex.mk (by decide +kernel) ?_; cbv)
    all_goals (try simp only [Unit.unit, Int.ofNat_lt, Int.ofNat_le, BE.val, IE.val, NE.val, ltB_iff, ltB_no, leB_iff, leB_no, Int.toNat_natCast, Nat.zero_add, Nat.add_zero, Nat.mul_one, forced, beq_iff_eq, beq_eq_false_iff_ne, bne_iff_ne, bne_eq_false_iff_eq] at *)
    all_goals first | with_reducible rfl | (simp_all [okX, isIn, okM]; done)
  · cases hs
theorem fn39 : FnOk Tryz.prog 39 Tryz.f39 (bodyOf Tryz.f39) := ⟨Tryz.func39, rfl, by rfl⟩
def s39 : Spec := hspec fun args H => match args, H with
  | [.c (.z .f32 a1 a2)], [] => some (vB (okM (a1 (), a2 ())), [], [])
  | _, _ => none
def E39 : Env := fun g => envGetL [(83, ⟨true, s83, none⟩), (84, ⟨true, s84, none⟩), (60, ⟨true, s60, none⟩)] g
theorem E39ok : EnvOk Tryz.prog E39 := envOk_cons ok83 (envOk_cons ok84 (envOk_cons ok60 (envOk_nil _)))
theorem ok39 : Ok Tryz.prog 39 (s39) := ok_of_wpaH (E := E39) mixed tts E39ok fn39 fun args H v H' o hs ho => by
  split at hs
  · rename_i a1 a2
    cases hs
    refine ⟨_, HLe.refl _, ?_⟩
    cbv
    repeat' first
      | (refine Br.mk (fun h => ?_) (fun h => ?_) <;> cbv)
      | (refine Ob.mk ?_ ?_; rotate_left; cbv)
      | (refine Lex.mk (by decide +kernel) ?_; cbv)
    all_goals (try simp only [Unit.unit, Int.ofNat_lt, Int.ofNat_le, BE.val, IE.val, NE.val, ltB_iff, ltB_no, leB_iff, leB_no, Int.toNat_natCast, Nat.zero_add, Nat.add_zero, Nat.mul_one, forced, beq_iff_eq, beq_eq_false_iff_ne, bne_iff_ne, bne_eq_false_iff_eq] at *)
    all_goals first | with_reducible rfl | (simp_all [okX, isIn, okM]; done)
  · cases hs
theorem fn100 : FnOk Tryz.prog 100 Tryz.f100 (bodyOf Tryz.f100) := ⟨Tryz.func100, rfl, by rfl⟩
def s100 : Spec := hspec fun args H => match args, H with
  | [.c (.f .f32 a)], [] => some (vB (isIn (a ()) 0 1166016512), [], [])
  | _, _ => none
def E100 : Env := fun g => envGetL [(60, ⟨true, s60, none⟩)] g
theorem E100ok : EnvOk Tryz.prog E100 := envOk_cons ok60 (envOk_nil _)
theorem ok100 : Ok Tryz.prog 100 (s100) := ok_of_wpaH (E := E100) mixed tts E100ok fn100 fun args H v H' o hs ho => by
  split at hs
  · rename_i a
    cases hs
    refine ⟨_, HLe.refl _, ?_⟩
    cbv
    repeat' first
      | (refine Br.mk (fun h => ?_) (fun h => ?_) <;> cbv)
      | (refine Ob.mk ?_ ?_; rotate_left; cbv)
      | (refine Lex.mk (by decide +kernel) ?_; cbv)
    all_goals (try simp only [Unit.unit, Int.ofNat_lt, Int.ofNat_le, BE.val, IE.val, NE.val, ltB_iff, ltB_no, leB_iff, leB_no, Int.toNat_natCast, Nat.zero_add, Nat.add_zero, Nat.mul_one, forced, beq_iff_eq, beq_eq_false_iff_ne, bne_iff_ne, bne_eq_false_iff_eq] at *)
    all_goals first | with_reducible rfl | rfl
  · cases hs
theorem fn91 : FnOk Tryz.prog 91 Tryz.f91 (bodyOf Tryz.f91) := ⟨Tryz.func91, rfl, by rfl⟩
def s91 : Spec := hspec fun args H => match args, H with
  | [.c (.z .f32 a1 a2), .c (.z .f32 b1 b2)], [] => some (Zm (minusM (a1 (), a2 ()) (b1 (), b2 ())), [], [])
  | _, _ => none
def E91 : Env := fun g => envGetL [(126, ⟨true, s126, none⟩), (127, ⟨true, s127, none⟩), (87, ⟨true, s87, none⟩)] g
theorem E91ok : EnvOk Tryz.prog E91 := envOk_cons ok126 (envOk_cons ok127 (envOk_cons ok87 (envOk_nil _)))
theorem ok91 : Ok Tryz.prog 91 (s91) := ok_of_wpaH (E := E91) mixed tts E91ok fn91 fun args H v H' o hs ho => by
  split at hs
  · rename_i a1 a2 b1 b2
    cases hs
    refine ⟨_, HLe.refl _, ?_⟩
    cbv
    repeat' first
      | (refine Br.mk (fun h => ?_) (fun h => ?_) <;> cbv)
      | (refine Ob.mk ?_ ?_; rotate_left; cbv)
      | (refine Lex.mk (by decide +kernel) ?_; cbv)
    all_goals (try simp only [Unit.unit, Int.ofNat_lt, Int.ofNat_le, BE.val, IE.val, NE.val, ltB_iff, ltB_no, leB_iff, leB_no, Int.toNat_natCast, Nat.zero_add, Nat.add_zero, Nat.mul_one, forced, beq_iff_eq, beq_eq_false_iff_ne, bne_iff_ne, bne_eq_false_iff_eq] at *)
    all_goals first | with_reducible rfl | rfl
  · cases hs
theorem fn32 : FnOk Tryz.prog 32 Tryz.f32 (bodyOf Tryz.f32) := ⟨Tryz.func32, rfl, by rfl⟩
def s32 : Spec := hspec fun args H => match args, H with
  | [.c (.z .f32 a1 a2), .c (.z .f32 b1 b2)], [] => some (Zm (minusM (a1 (), a2 ()) (b1 (), b2 ())), [], [])
  | _, _ => none
def E32 : Env := fun g => envGetL [(83, ⟨true, s83, none⟩), (84, ⟨true, s84, none⟩), (82, ⟨true, s82, none⟩)] g
theorem E32ok : EnvOk Tryz.prog E32 := envOk_cons ok83 (envOk_cons ok84 (envOk_cons ok82 (envOk_nil _)))
theorem ok32 : Ok Tryz.prog 32 (s32) := ok_of_wpaH (E := E32) mixed tts E32ok fn32 fun args H v H' o hs ho => by
  split at hs
  · rename_i a1 a2 b1 b2
    cases hs
    refine ⟨_, HLe.refl _, ?_⟩
    cbv
    repeat' first
      | (refine Br.mk (fun h => ?_) (fun h => ?_) <;> cbv)
      | (refine Ob.mk ?_ ?_; rotate_left; cbv)
      | (refine Lex.mk (by decide +kernel) ?_; cbv)
    all_goals (try simp only [Unit.unit, Int.ofNat_lt, Int.ofNat_le, BE.val, IE.val, NE.val, ltB_iff, ltB_no, leB_iff, leB_no, Int.toNat_natCast, Nat.zero_add, Nat.add_zero, Nat.mul_one, forced, beq_iff_eq, beq_eq_false_iff_ne, bne_iff_ne, bne_eq_false_iff_eq] at *)
    all_goals first | with_reducible rfl | rfl
  · cases hs
theorem fn90 : FnOk Tryz.prog 90 Tryz.f90 (bodyOf Tryz.f90) := ⟨Tryz.func90, rfl, by rfl⟩
def s90 : Spec := hspec fun args H => match args, H with
  | [.c (.z .f32 a1 a2), .c (.z .f32 b1 b2)], [] => some (Zm (plusM (a1 (), a2 ()) (b1 (), b2 ())), [], [])
  | _, _ => none
def E90 : Env := fun g => envGetL [(126, ⟨true, s126, none⟩), (127, ⟨true, s127, none⟩), (87, ⟨true, s87, none⟩)] g
theorem E90ok : EnvOk Tryz.prog E90 := envOk_cons ok126 (envOk_cons ok127 (envOk_cons ok87 (envOk_nil _)))
theorem ok90 : Ok Tryz.prog 90 (s90) := ok_of_wpaH (E := E90) mixed tts E90ok fn90 fun args H v H' o hs ho => by
  split at hs
  · rename_i a1 a2 b1 b2
    cases hs
    refine ⟨_, HLe.refl _, ?_⟩
    cbv
    repeat' first
      | (refine Br.mk (fun h => ?_) (fun h => ?_) <;> cbv)
      | (refine Ob.mk ?_ ?_; rotate_left; cbv)
      | (refine Lex.mk (by decide +kernel) ?_; cbv)
    all_goals (try simp only [Unit.unit, Int.ofNat_lt, Int.ofNat_le, BE.val, IE.val, NE.val, ltB_iff, ltB_no, leB_iff, leB_no, Int.toNat_natCast, Nat.zero_add, Nat.add_zero, Nat.mul_one, forced, beq_iff_eq, beq_eq_false_iff_ne, bne_iff_ne, bne_eq_false_iff_eq] at *)
    all_goals first | with_reducible rfl | rfl
  · cases hs
theorem fn30 : FnOk Tryz.prog 30 Tryz.f30 (bodyOf Tryz.f30) := ⟨Tryz.func30, rfl, by rfl⟩
def s30 : Spec := hspec fun args H => match args, H with
  | [.c (.z .f32 a1 a2), .c (.z .f32 b1 b2)], [] => some (Zm (plusM (a1 (), a2 ()) (b1 (), b2 ())), [], [])
  | _, _ => none
def E30 : Env := fun g => envGetL [(83, ⟨true, s83, none⟩), (84, ⟨true, s84, none⟩), (82, ⟨true, s82, none⟩)] g
theorem E30ok : EnvOk Tryz.prog E30 := envOk_cons ok83 (envOk_cons ok84 (envOk_cons ok82 (envOk_nil _)))
theorem ok30 : Ok Tryz.prog 30 (s30) := ok_of_wpaH (E := E30) mixed tts E30ok fn30 fun args H v H' o hs ho => by
  split at hs
  · rename_i a1 a2 b1 b2
    cases hs
    refine ⟨_, HLe.refl _, ?_⟩
    cbv
    repeat' first
      | (refine Br.mk (fun h => ?_) (fun h => ?_) <;> cbv)
      | (refine Ob.mk ?_ ?_; rotate_left; cbv)
      | (refine Lex.mk (by decide +kernel) ?_; cbv)
    all_goals (try simp only [Unit.unit, Int.ofNat_lt, Int.ofNat_le, BE.val, IE.val, NE.val, ltB_iff, ltB_no, leB_iff, leB_no, Int.toNat_natCast, Nat.zero_add, Nat.add_zero, Nat.mul_one, forced, beq_iff_eq, beq_eq_false_iff_ne, bne_iff_ne, bne_eq_false_iff_eq] at *)
    all_goals first | with_reducible rfl | rfl
  · cases hs
theorem fn156 : FnOk Tryz.prog 156 Tryz.f156 (bodyOf Tryz.f156) := ⟨Tryz.func156, rfl, by rfl⟩
def s156 : Spec := hspec fun args H => match args, H with
  | [.c (.z .f32 a1 a2), .c (.f .f32 d)], [] => some (Zm (overM (a1 (), a2 ()) (d ())), [], [])
  | _, _ => none
def E156 : Env := fun g => envGetL [(126, ⟨true, s126, none⟩), (127, ⟨true, s127, none⟩), (87, ⟨true, s87, none⟩)] g
theorem E156ok : EnvOk Tryz.prog E156 := envOk_cons ok126 (envOk_cons ok127 (envOk_cons ok87 (envOk_nil _)))
theorem ok156 : Ok Tryz.prog 156 (s156) := ok_of_wpaH (E := E156) mixed tts E156ok fn156 fun args H v H' o hs ho => by
  split at hs
  · rename_i a1 a2 d
    cases hs
    refine ⟨_, HLe.refl _, ?_⟩
    cbv
    repeat' first
      | (refine Br.mk (fun h => ?_) (fun h => ?_) <;> cbv)
      | (refine Ob.mk ?_ ?_; rotate_left; cbv)
      | (refine Lex.mk (by decide +kernel) ?_; cbv)
    all_goals (try simp only [Unit.unit, Int.ofNat_lt, Int.ofNat_le, BE.val, IE.val, NE.val, ltB_iff, ltB_no, leB_iff, leB_no, Int.toNat_natCast, Nat.zero_add, Nat.add_zero, Nat.mul_one, forced, beq_iff_eq, beq_eq_false_iff_ne, bne_iff_ne, bne_eq_false_iff_eq] at *)
    all_goals first | with_reducible rfl | rfl
  · cases hs
theorem fn155 : FnOk Tryz.prog 155 Tryz.f155 (bodyOf Tryz.f155) := ⟨Tryz.func155, rfl, by rfl⟩
def s155 : Spec := hspec fun args H => match args, H with
  | [.c (.z .f32 a1 a2), .c (.f .f32 d)], [] => some (Zm (overM (a1 (), a2 ()) (d ())), [], [])
  | _, _ => none
def E155 : Env := fun g => envGetL [(83, ⟨true, s83, none⟩), (84, ⟨true, s84, none⟩), (82, ⟨true, s82, none⟩)] g
theorem E155ok : EnvOk Tryz.prog E155 := envOk_cons ok83 (envOk_cons ok84 (envOk_cons ok82 (envOk_nil _)))
theorem ok155 : Ok Tryz.prog 155 (s155) := ok_of_wpaH (E := E155) mixed tts E155ok fn155 fun args H v H' o hs ho => by
  split at hs
  · rename_i a1 a2 d
    cases hs
    refine ⟨_, HLe.refl _, ?_⟩
    cbv
    repeat' first
      | (refine Br.mk (fun h => ?_) (fun h => ?_) <;> cbv)
      | (refine Ob.mk ?_ ?_; rotate_left; cbv)
      | (refine Lex.mk (by decide +kernel) ?_; cbv)
    all_goals (try simp only [Unit.unit, Int.ofNat_lt, Int.ofNat_le, BE.val, IE.val, NE.val, ltB_iff, ltB_no, leB_iff, leB_no, Int.toNat_natCast, Nat.zero_add, Nat.add_zero, Nat.mul_one, forced, beq_iff_eq, beq_eq_false_iff_ne, bne_iff_ne, bne_eq_false_iff_eq] at *)
    all_goals first | with_reducible rfl | rfl
  · cases hs
theorem fn129 : FnOk Tryz.prog 129 Tryz.f129 (bodyOf Tryz.f129) := ⟨Tryz.func129, rfl, by rfl⟩
def s129 : Spec := hspec fun args H => match args, H with
  | [.c (.z .f32 a1 a2)], [] => some (F (sqM (a1 (), a2 ())), [], [])
  | _, _ => none
def E129 : Env := fun g => envGetL [(126, ⟨true, s126, none⟩), (127, ⟨true, s127, none⟩)] g
theorem E129ok : EnvOk Tryz.prog E129 := envOk_cons ok126 (envOk_cons ok127 (envOk_nil _))
theorem ok129 : Ok Tryz.prog 129 (s129) := ok_of_wpaH (E := E129) mixed tts E129ok fn129 fun args H v H' o hs ho => by
  split at hs
  · rename_i a1 a2
    cases hs
    refine ⟨_, HLe.refl _, ?_⟩
    cbv
    repeat' first
      | (refine Br.mk (fun h => ?_) (fun h => ?_) <;> cbv)
      | (refine Ob.mk ?_ ?_; rotate_left; cbv)
      | (refine Lex.mk (by decide +kernel) ?_; cbv)
    all_goals (try simp only [Unit.unit, Int.ofNat_lt, Int.ofNat_le, BE.val, IE.val, NE.val, ltB_iff, ltB_no, leB_iff, leB_no, Int.toNat_natCast, Nat.zero_add, Nat.add_zero, Nat.mul_one, forced, beq_iff_eq, beq_eq_false_iff_ne, bne_iff_ne, bne_eq_false_iff_eq] at *)
    all_goals first | with_reducible rfl | rfl
  · cases hs
theorem fn95 : FnOk Tryz.prog 95 Tryz.f95 (bodyOf Tryz.f95) := ⟨Tryz.func95, rfl, by rfl⟩
def s95 : Spec := hspec fun args H => match args, H with
  | [.c (.z .f32 a1 a2)], [] => some (F (sqM (a1 (), a2 ())), [], [])
  | _, _ => none
def E95 : Env := fun g => envGetL [(92, ⟨true, s92, none⟩), (83, ⟨true, s83, none⟩), (84, ⟨true, s84, none⟩)] g
theorem E95ok : EnvOk Tryz.prog E95 := envOk_cons ok92 (envOk_cons ok83 (envOk_cons ok84 (envOk_nil _)))
theorem ok95 : Ok Tryz.prog 95 (s95) := ok_of_wpaH (E := E95) mixed tts E95ok fn95 fun args H v H' o hs ho => by
  split at hs
  · rename_i a1 a2
    cases hs
    refine ⟨_, HLe.refl _, ?_⟩
    cbv
    repeat' first
      | (refine Br.mk (fun h => ?_) (fun h => ?_) <;> cbv)
      | (refine Ob.mk ?_ ?_; rotate_left; cbv)
      | (refine Lex.mk (by decide +kernel) ?_; cbv)
    all_goals (try simp only [Unit.unit, Int.ofNat_lt, Int.ofNat_le, BE.val, IE.val, NE.val, ltB_iff, ltB_no, leB_iff, leB_no, Int.toNat_natCast, Nat.zero_add, Nat.add_zero, Nat.mul_one, forced, beq_iff_eq, beq_eq_false_iff_ne, bne_iff_ne, bne_eq_false_iff_eq] at *)
    all_goals first | with_reducible rfl | rfl
  · cases hs
end Rg
end Go.Proofs.YteifneielgnniaaGreatDoor.Sh
end
section
namespace Go.Proofs.YteifneielgnniaaGreatDoor.Sh
namespace Rg
open Go Go.Proofs
theorem e104a : Extern.findNext Tryz.f128 = none := by rfl
theorem e104b : Extern.find Tryz.f128 = some Extern.MathSqrt.sqrt := by rfl
theorem sqrt_at (b : Nat) : Extern.MathSqrt.sqrt #[.float .f64 b] = (match FloatKind.f64.format.sqrt b with | some r => pure (.float .f64 r) | none => do pure (.float .f64 (← choose (.nanBits .f64 b b)))) := rfl
def s128 : Spec := fun args H => match args with
  | [.c (.f .f64 e)] => some (.c (.f .f64 fun _ => sqrtB (e ())), H, [])
  | _ => none
theorem ok128 : Ok Tryz.prog 128 s128 := by
  intro args H v H' o hs ho μ W w vs hW hH hr
  unfold s128 at hs
  split at hs
  · rename_i e
    cases hs
    match vs, hr with
    | [x], hr =>
      obtain ⟨⟨b, rfl, hb⟩, _⟩ := hr
      have hrun := run_callFunc_extern (P := Tryz.prog) (f := 128) Tryz.func128 (by rfl) (by rfl) e104a e104b #[.float .f64 b] w
      have hsame : FloatKind.f64.format.sqrt b = FloatKind.f64.format.sqrt (e ()) := by
        rcases hb with rfl | ⟨h1, h2⟩
        · rfl
        · obtain ⟨s, t, h1⟩ := isNaN_iff h1
          obtain ⟨s', t', h2⟩ := isNaN_iff h2
          unfold Ieee.Format.sqrt
          rw [h1, h2]; rfl
      cases hf : FloatKind.f64.format.sqrt b with
      | some r =>
        refine .inr ⟨.float .f64 r, w, ?_, μ, agree.refl _ _, Nat.le_refl _, hH, ⟨r, rfl, ?_⟩, Fr.refl _ _⟩
        · rw [hrun, sqrt_at, hf]
          simp
        · unfold sqrtB; rw [← hsame, hf]; exact .inl rfl
      | none =>
        refine .inr ⟨.float .f64 (nanOf .f64 (w.tape w.drawn (.nanBits .f64 b b))), w.drewN 1, ?_, μ, agree.refl _ _, Nat.le_refl _, hH.quiet (Fr.drewN _ _ _), ⟨_, rfl, ?_⟩, Fr.drewN _ _ _⟩
        · rw [hrun, sqrt_at, hf]
          simp [choose, Sem.run, Question.forced, Question.cut, nanOf] <;> rfl
        · exact .inr ⟨nan_nanOf _ _, by unfold sqrtB; rw [← hsame, hf]; exact nan_qn .f64⟩
  · cases hs
theorem fn94 : FnOk Tryz.prog 94 Tryz.f94 (bodyOf Tryz.f94) := ⟨Tryz.func94, rfl, by rfl⟩
def s94 : Spec := hspec fun args H => match args, H with
  | [.c (.f .f64 a)], [] => some (.c (.f .f64 fun _ => sqrtB (a ())), [], [])
  | _, _ => none
def E94 : Env := fun g => envGetL [(128, ⟨true, s128, none⟩)] g
theorem E94ok : EnvOk Tryz.prog E94 := envOk_cons ok128 (envOk_nil _)
theorem ok94 : Ok Tryz.prog 94 (s94) := ok_of_wpaH (E := E94) mixed tts E94ok fn94 fun args H v H' o hs ho => by
  split at hs
  · rename_i a
    cases hs
    refine ⟨_, HLe.refl _, ?_⟩
    cbv
    repeat' first
      | (refine Br.mk (fun h => ?_) (fun h => ?_) <;> cbv)
      | (refine Ob.mk ?_ ?_; rotate_left; cbv)
      | (refine Lex.mk (by decide +kernel) ?_; cbv)
    all_goals (try simp only [Unit.unit, Int.ofNat_lt, Int.ofNat_le, BE.val, IE.val, NE.val, ltB_iff, ltB_no, leB_iff, leB_no, Int.toNat_natCast, Nat.zero_add, Nat.add_zero, Nat.mul_one, forced, beq_iff_eq, beq_eq_false_iff_ne, bne_iff_ne, bne_eq_false_iff_eq] at *)
    all_goals first | with_reducible rfl | rfl
  · cases hs
theorem fn96 : FnOk Tryz.prog 96 Tryz.f96 (bodyOf Tryz.f96) := ⟨Tryz.func96, rfl, by rfl⟩
def s96 : Spec := hspec fun args H => match args, H with
  | [.c (.z .f32 a1 a2)], [] => some (F (sizeM (a1 (), a2 ())), [], [])
  | _, _ => none
def E96 : Env := fun g => envGetL [(129, ⟨true, s129, none⟩), (94, ⟨true, s94, none⟩)] g
theorem E96ok : EnvOk Tryz.prog E96 := envOk_cons ok129 (envOk_cons ok94 (envOk_nil _))
theorem ok96 : Ok Tryz.prog 96 (s96) := ok_of_wpaH (E := E96) mixed tts E96ok fn96 fun args H v H' o hs ho => by
  split at hs
  · rename_i a1 a2
    cases hs
    refine ⟨_, HLe.refl _, ?_⟩
    cbv
    repeat' first
      | (refine Br.mk (fun h => ?_) (fun h => ?_) <;> cbv)
      | (refine Ob.mk ?_ ?_; rotate_left; cbv)
      | (refine Lex.mk (by decide +kernel) ?_; cbv)
    all_goals (try simp only [Unit.unit, Int.ofNat_lt, Int.ofNat_le, BE.val, IE.val, NE.val, ltB_iff, ltB_no, leB_iff, leB_no, Int.toNat_natCast, Nat.zero_add, Nat.add_zero, Nat.mul_one, forced, beq_iff_eq, beq_eq_false_iff_ne, bne_iff_ne, bne_eq_false_iff_eq] at *)
    all_goals first | with_reducible rfl | rfl | exact sqrt_some _ (by assumption) | (intro h; exact sqrt_some _ h) | exact sqrt_some _
  · cases hs
theorem fn36 : FnOk Tryz.prog 36 Tryz.f36 (bodyOf Tryz.f36) := ⟨Tryz.func36, rfl, by rfl⟩
def s36 : Spec := hspec fun args H => match args, H with
  | [.c (.z .f32 a1 a2)], [] => some (F (sizeM (a1 (), a2 ())), [], [])
  | _, _ => none
def E36 : Env := fun g => envGetL [(95, ⟨true, s95, none⟩), (94, ⟨true, s94, none⟩)] g
theorem E36ok : EnvOk Tryz.prog E36 := envOk_cons ok95 (envOk_cons ok94 (envOk_nil _))
theorem ok36 : Ok Tryz.prog 36 (s36) := ok_of_wpaH (E := E36) mixed tts E36ok fn36 fun args H v H' o hs ho => by
  split at hs
  · rename_i a1 a2
    cases hs
    refine ⟨_, HLe.refl _, ?_⟩
    cbv
    repeat' first
      | (refine Br.mk (fun h => ?_) (fun h => ?_) <;> cbv)
      | (refine Ob.mk ?_ ?_; rotate_left; cbv)
      | (refine Lex.mk (by decide +kernel) ?_; cbv)
    all_goals (try simp only [Unit.unit, Int.ofNat_lt, Int.ofNat_le, BE.val, IE.val, NE.val, ltB_iff, ltB_no, leB_iff, leB_no, Int.toNat_natCast, Nat.zero_add, Nat.add_zero, Nat.mul_one, forced, beq_iff_eq, beq_eq_false_iff_ne, bne_iff_ne, bne_eq_false_iff_eq] at *)
    all_goals first | with_reducible rfl | rfl | exact sqrt_some _ (by assumption) | (intro h; exact sqrt_some _ h) | exact sqrt_some _
  · cases hs
theorem fn37 : FnOk Tryz.prog 37 Tryz.f37 (bodyOf Tryz.f37) := ⟨Tryz.func37, rfl, by rfl⟩
def s37 : Spec := hspec fun args H => match args, H with
  | [.c (.z .f32 a1 a2)], [] => some (F (sizeM (a1 (), a2 ())), [], [])
  | _, _ => none
def E37 : Env := fun g => envGetL [(96, ⟨true, s96, none⟩)] g
theorem E37ok : EnvOk Tryz.prog E37 := envOk_cons ok96 (envOk_nil _)
theorem ok37 : Ok Tryz.prog 37 (s37) := ok_of_wpaH (E := E37) mixed tts E37ok fn37 fun args H v H' o hs ho => by
  split at hs
  · rename_i a1 a2
    cases hs
    refine ⟨_, HLe.refl _, ?_⟩
    cbv
    repeat' first
      | (refine Br.mk (fun h => ?_) (fun h => ?_) <;> cbv)
      | (refine Ob.mk ?_ ?_; rotate_left; cbv)
      | (refine Lex.mk (by decide +kernel) ?_; cbv)
    all_goals (try simp only [Unit.unit, Int.ofNat_lt, Int.ofNat_le, BE.val, IE.val, NE.val, ltB_iff, ltB_no, leB_iff, leB_no, Int.toNat_natCast, Nat.zero_add, Nat.add_zero, Nat.mul_one, forced, beq_iff_eq, beq_eq_false_iff_ne, bne_iff_ne, bne_eq_false_iff_eq] at *)
    all_goals first | with_reducible rfl | rfl
  · cases hs
end Rg
end Go.Proofs.YteifneielgnniaaGreatDoor.Sh
end
section
namespace Go.Proofs.YteifneielgnniaaGreatDoor.Sh
namespace Rg
open Go Go.Proofs
theorem fn110 : FnOk Tryz.prog 110 Tryz.f110 (bodyOf Tryz.f110) := ⟨Tryz.func110, rfl, by rfl⟩
def s110 : Spec := hspec fun args H => match args, H with
  | [.a cs, .c (.i .i64 (.x c)), .c (.i .i64 (.x k))], [] => match cxsOf cs with
    | some q => some (Zm (offM (forced q) (c ()).toNat (k ()).toNat), [], [fun _ => q.length = 16 ∧ 0 ≤ c () ∧ c () ≤ 3 ∧ 0 ≤ k () ∧ k () ≤ 3])
    | none => none
  | _, _ => none
def E110 : Env := fun g => envGetL [(32, ⟨true, s32, none⟩)] g
theorem E110ok : EnvOk Tryz.prog E110 := envOk_cons ok32 (envOk_nil _)
set_option maxRecDepth 100000 in
set_option maxHeartbeats 1000000 in
theorem ok110 : Ok Tryz.prog 110 (s110) := ok_of_wpaH (E := E110) mixed tts E110ok fn110 fun args H v H' o hs ho => by
  split at hs
  · rename_i cs c k
    split at hs
    · rename_i q hq
      cases hs
      obtain ⟨hlen, hx0, hx1⟩ := ho.one
      obtain ⟨e, m, rfl, rfl⟩ := cx16 hq hlen
      clear hq hlen
      try simp only [Unit.unit] at hx0 hx1
      have hc4 : 0 ≤ c ⟨⟩ ∧ c ⟨⟩ < ((4 : Nat) : Int) := by omega
      have hk4 : 0 ≤ k ⟨⟩ ∧ k ⟨⟩ < ((4 : Nat) : Int) := by omega
      refine ⟨_, HLe.refl _, ?_⟩
      cbv
      repeat' first
        | (refine Br.mk (fun h => ?_) (fun h => ?_) <;> cbv)
        | (refine Ob.mk ?_ ?_; rotate_left; cbv)
        | (refine Lex.mk (by decide +kernel) ?_; cbv)
      all_goals try (first | exact hc4 | exact hk4)
      all_goals (try simp only [Unit.unit, Int.ofNat_lt, Int.ofNat_le, BE.val, IE.val, NE.val, ltB_iff, ltB_no, leB_iff, leB_no, Int.toNat_natCast, Nat.zero_add, Nat.add_zero, Nat.mul_one, forced, beq_iff_eq, beq_eq_false_iff_ne, bne_iff_ne, bne_eq_false_iff_eq] at *)
      all_goals first | with_reducible rfl | rfl | omega | exact ⟨by omega, by omega⟩ | (simp only [List.length_cons, List.length_nil]; omega) | (simp [offM, minusM, Nat.add_assoc]; done)
    · cases hs
  · cases hs
theorem fn134 : FnOk Tryz.prog 134 Tryz.f134 (bodyOf Tryz.f134) := ⟨Tryz.func134, rfl, by rfl⟩
def s134 : Spec := hspec fun args H => match args, H with
  | [.c (.p 0 (.l 0)), .c (.i .i64 (.x c)), .c (.i .i64 (.x k))], [some ⟨false, 0, x⟩] => match x.toCx with
    | some l => some (Zm (offM (l ()) (c ()).toNat (k ()).toNat), [none], [fun _ => (l ()).length = 16 ∧ 0 ≤ c () ∧ c () ≤ 3 ∧ 0 ≤ k () ∧ k () ≤ 3])
    | none => none
  | _, _ => none
def E134 : Env := fun g => envGetL [(91, ⟨true, s91, none⟩)] g
theorem E134ok : EnvOk Tryz.prog E134 := envOk_cons ok91 (envOk_nil _)
set_option maxRecDepth 100000 in
set_option maxHeartbeats 1000000 in
theorem ok134 : Ok Tryz.prog 134 (s134) := ok_of_wpaH (E := E134) mixed tts E134ok fn134 fun args H v H' o hs ho => by
  split at hs
  · rename_i c k x
    split at hs
    · rename_i l hl
      cases hs
      obtain ⟨hlen, hx0, hx1⟩ := ho.one
      try simp only [Unit.unit] at hlen hx0 hx1
      have hc4 : 0 ≤ c ⟨⟩ ∧ c ⟨⟩ < ((4 : Nat) : Int) := by omega
      have hk4 : 0 ≤ k ⟨⟩ ∧ k ⟨⟩ < ((4 : Nat) : Int) := by omega
      refine ⟨_, HLe.cons (BLe.cx hl) HLe.nil, ?_⟩
      cbv
      repeat' first
        | (refine Br.mk (fun h => ?_) (fun h => ?_) <;> cbv)
        | (refine Ob.mk ?_ ?_; rotate_left; cbv)
        | (refine Lex.mk (by decide +kernel) ?_; cbv)
      all_goals try (first | exact hc4 | exact hk4)
      all_goals (try simp only [Unit.unit, Int.ofNat_lt, Int.ofNat_le, BE.val, IE.val, NE.val, ltB_iff, ltB_no, leB_iff, leB_no, Int.toNat_natCast, Nat.zero_add, Nat.add_zero, Nat.mul_one, forced, beq_iff_eq, beq_eq_false_iff_ne, bne_iff_ne, bne_eq_false_iff_eq] at *)
      all_goals first | with_reducible rfl | rfl | omega | exact ⟨by omega, by omega⟩ | (rw [hlen]; omega) | (simp [offM, minusM, Nat.add_assoc]; done)
    · cases hs
  · cases hs
theorem fn136 : FnOk Tryz.prog 136 Tryz.f136 (bodyOf Tryz.f136) := ⟨Tryz.func136, rfl, by rfl⟩
def s136 : Spec := hspec fun args H => match args, H with
  | [.a cs], [] => match cxsOf cs with
    | some q => some (Zm (meanM ((forced q).getD 0 (0, 0)) ((forced q).getD 1 (0, 0)) ((forced q).getD 2 (0, 0)) ((forced q).getD 3 (0, 0))), [], [fun _ => q.length = 4])
    | none => none
  | _, _ => none
def E136 : Env := fun g => envGetL [(30, ⟨true, s30, none⟩), (155, ⟨true, s155, none⟩)] g
theorem E136ok : EnvOk Tryz.prog E136 := envOk_cons ok30 (envOk_cons ok155 (envOk_nil _))
set_option maxRecDepth 100000 in
set_option maxHeartbeats 1000000 in
theorem ok136 : Ok Tryz.prog 136 (s136) := ok_of_wpaH (E := E136) mixed tts E136ok fn136 fun args H v H' o hs ho => by
  split at hs
  · rename_i cs
    split at hs
    · rename_i q hq
      cases hs
      obtain hlen := ho.one
      obtain ⟨e, m, rfl, rfl⟩ := cx4 hq hlen
      clear hq hlen
      refine ⟨_, HLe.refl _, ?_⟩
      cbv
      repeat' first
        | (refine Br.mk (fun h => ?_) (fun h => ?_) <;> cbv)
        | (refine Ob.mk ?_ ?_; rotate_left; cbv)
        | (refine Lex.mk (by decide +kernel) ?_; cbv)
      all_goals (try simp only [Unit.unit, Int.ofNat_lt, Int.ofNat_le, BE.val, IE.val, NE.val, ltB_iff, ltB_no, leB_iff, leB_no, Int.toNat_natCast, Nat.zero_add, Nat.add_zero, Nat.mul_one, forced, beq_iff_eq, beq_eq_false_iff_ne, bne_iff_ne, bne_eq_false_iff_eq] at *)
      all_goals first | with_reducible rfl | rfl
    · cases hs
  · cases hs
theorem fn137 : FnOk Tryz.prog 137 Tryz.f137 (bodyOf Tryz.f137) := ⟨Tryz.func137, rfl, by rfl⟩
def s137 : Spec := hspec fun args H => match args, H with
  | [.a cs], [] => match cxsOf cs with
    | some q => some (Zm (meanM ((forced q).getD 0 (0, 0)) ((forced q).getD 1 (0, 0)) ((forced q).getD 2 (0, 0)) ((forced q).getD 3 (0, 0))), [], [fun _ => q.length = 4])
    | none => none
  | _, _ => none
def E137 : Env := fun g => envGetL [(90, ⟨true, s90, none⟩), (156, ⟨true, s156, none⟩)] g
theorem E137ok : EnvOk Tryz.prog E137 := envOk_cons ok90 (envOk_cons ok156 (envOk_nil _))
set_option maxRecDepth 100000 in
set_option maxHeartbeats 1000000 in
theorem ok137 : Ok Tryz.prog 137 (s137) := ok_of_wpaH (E := E137) mixed tts E137ok fn137 fun args H v H' o hs ho => by
  split at hs
  · rename_i cs
    split at hs
    · rename_i q hq
      cases hs
      obtain hlen := ho.one
      obtain ⟨e, m, rfl, rfl⟩ := cx4 hq hlen
      clear hq hlen
      refine ⟨_, HLe.refl _, ?_⟩
      cbv
      repeat' first
        | (refine Br.mk (fun h => ?_) (fun h => ?_) <;> cbv)
        | (refine Ob.mk ?_ ?_; rotate_left; cbv)
        | (refine Lex.mk (by decide +kernel) ?_; cbv)
        | (refine Loop.mk 70 ?_; cbv)
        | (refine Gen.same ?_; cbv)
      all_goals (try simp only [Unit.unit, Int.ofNat_lt, Int.ofNat_le, BE.val, IE.val, NE.val, ltB_iff, ltB_no, leB_iff, leB_no, Int.toNat_natCast, Nat.zero_add, Nat.add_zero, Nat.mul_one, forced, beq_iff_eq, beq_eq_false_iff_ne, bne_iff_ne, bne_eq_false_iff_eq] at *)
      all_goals first | with_reducible rfl | rfl
    · cases hs
  · cases hs
end Rg
end Go.Proofs.YteifneielgnniaaGreatDoor.Sh
end
section
namespace Go.Proofs.YteifneielgnniaaGreatDoor.Sh
namespace Rg
open Go Go.Proofs
theorem fn107 : FnOk Tryz.prog 107 Tryz.f107 (bodyOf Tryz.f107) := ⟨Tryz.func107, rfl, by rfl⟩
def s107 : Spec := hspec fun args H => match args, H with
  | [.a cs, .c (.i .i64 (.x c))], [] => match cxsOf cs with
    | some q => some (Zm (meanO (forced q) (c ()).toNat), [], [fun _ => q.length = 16 ∧ 0 ≤ c () ∧ c () ≤ 3])
    | none => none
  | _, _ => none
def E107 : Env := fun g => envGetL [(110, ⟨true, s110, none⟩), (136, ⟨true, s136, none⟩)] g
theorem E107ok : EnvOk Tryz.prog E107 := envOk_cons ok110 (envOk_cons ok136 (envOk_nil _))
set_option maxRecDepth 100000 in
set_option maxHeartbeats 1000000 in
theorem ok107 : Ok Tryz.prog 107 (s107) := ok_of_wpaH (E := E107) mixed tts E107ok fn107 fun args H v H' o hs ho => by
  split at hs
  · rename_i cs c
    split at hs
    · rename_i q hq
      cases hs
      obtain ⟨hlen, hx0⟩ := ho.one
      obtain ⟨e, m, rfl, rfl⟩ := cx16 hq hlen
      clear hq hlen
      try simp only [Unit.unit] at hx0
      have hc : 0 ≤ c ⟨⟩ ∧ c ⟨⟩ ≤ 3 := by omega
      refine ⟨_, HLe.refl _, ?_⟩
      cbv
      repeat' first
        | (refine Br.mk (fun h => ?_) (fun h => ?_) <;> cbv)
        | (refine Ob.mk ?_ ?_; rotate_left; cbv)
        | (refine Lex.mk (by decide +kernel) ?_; cbv)
        | (refine Loop.mk 70 ?_; cbv)
        | (refine Gen.same ?_; cbv)
      all_goals try (first | exact ⟨rfl, hc.1, hc.2, by decide, by decide⟩ | exact ⟨hlen, hc.1, hc.2, by decide, by decide⟩ | exact hlen | exact ⟨rfl, hc.1, hc.2⟩)
      all_goals (try simp only [Unit.unit, Int.ofNat_lt, Int.ofNat_le, BE.val, IE.val, NE.val, ltB_iff, ltB_no, leB_iff, leB_no, Int.toNat_natCast, Nat.zero_add, Nat.add_zero, Nat.mul_one, forced, beq_iff_eq, beq_eq_false_iff_ne, bne_iff_ne, bne_eq_false_iff_eq] at *)
      all_goals first | with_reducible rfl | rfl | omega | decide
    · cases hs
  · cases hs
theorem fn108 : FnOk Tryz.prog 108 Tryz.f108 (bodyOf Tryz.f108) := ⟨Tryz.func108, rfl, by rfl⟩
def s108 : Spec := hspec fun args H => match args, H with
  | [.c (.p 0 (.l 0)), .c (.i .i64 (.x c))], [some ⟨false, 0, x⟩] => match x.toCx with
    | some l => some (Zm (meanO (l ()) (c ()).toNat), [none], [fun _ => (l ()).length = 16 ∧ 0 ≤ c () ∧ c () ≤ 3])
    | none => none
  | _, _ => none
def E108 : Env := fun g => envGetL [(134, ⟨true, s134, none⟩), (137, ⟨true, s137, none⟩)] g
theorem E108ok : EnvOk Tryz.prog E108 := envOk_cons ok134 (envOk_cons ok137 (envOk_nil _))
set_option maxRecDepth 100000 in
set_option maxHeartbeats 1000000 in
theorem ok108 : Ok Tryz.prog 108 (s108) := ok_of_wpaH (E := E108) mixed tts E108ok fn108 fun args H v H' o hs ho => by
  split at hs
  · rename_i c x
    split at hs
    · rename_i l hl
      cases hs
      obtain ⟨hlen, hx0⟩ := ho.one
      try simp only [Unit.unit] at hlen hx0
      have hc : 0 ≤ c ⟨⟩ ∧ c ⟨⟩ ≤ 3 := by omega
      refine ⟨_, HLe.cons (BLe.cx hl) HLe.nil, ?_⟩
      cbv
      repeat' first
        | (refine Br.mk (fun h => ?_) (fun h => ?_) <;> cbv)
        | (refine Ob.mk ?_ ?_; rotate_left; cbv)
        | (refine Lex.mk (by decide +kernel) ?_; cbv)
        | (refine Loop.mk 70 ?_; cbv)
        | (refine Gen.same ?_; cbv)
      all_goals try (first | exact ⟨rfl, hc.1, hc.2, by decide, by decide⟩ | exact ⟨hlen, hc.1, hc.2, by decide, by decide⟩ | exact hlen | exact ⟨rfl, hc.1, hc.2⟩)
      all_goals (try simp only [Unit.unit, Int.ofNat_lt, Int.ofNat_le, BE.val, IE.val, NE.val, ltB_iff, ltB_no, leB_iff, leB_no, Int.toNat_natCast, Nat.zero_add, Nat.add_zero, Nat.mul_one, forced, beq_iff_eq, beq_eq_false_iff_ne, bne_iff_ne, bne_eq_false_iff_eq] at *)
      all_goals first | with_reducible rfl | rfl | omega | decide
    · cases hs
  · cases hs
end Rg
end Go.Proofs.YteifneielgnniaaGreatDoor.Sh
end
section
namespace Go.Proofs.YteifneielgnniaaGreatDoor.Sh
namespace Rg
open Go Go.Proofs
theorem fn101 : FnOk Tryz.prog 101 Tryz.f101 (bodyOf Tryz.f101) := ⟨Tryz.func101, rfl, by rfl⟩
def s101 : Spec := hspec fun args H => match args, H with
  | [.a cs, .c (.i .i64 (.x c))], [] => match cxsOf cs with
    | some q => some (.t [vI ((grS (forced q) (c ()).toNat 3).1 : Nat), F (grS (forced q) (c ()).toNat 3).2], [], [fun _ => q.length = 16 ∧ 0 ≤ c () ∧ c () ≤ 3])
    | none => none
  | _, _ => none
def E101 : Env := fun g => envGetL [(110, ⟨true, s110, none⟩), (36, ⟨true, s36, none⟩)] g
theorem E101ok : EnvOk Tryz.prog E101 := envOk_cons ok110 (envOk_cons ok36 (envOk_nil _))
set_option maxRecDepth 100000 in
set_option maxHeartbeats 1000000 in
theorem ok101 : Ok Tryz.prog 101 (s101) := ok_of_wpaH (E := E101) mixed tts E101ok fn101 fun args H v H' o hs ho => by
  split at hs
  · rename_i cs c
    split at hs
    · rename_i q hq
      cases hs
      obtain ⟨hlen, hx0⟩ := ho.one
      obtain ⟨e, m, rfl, rfl⟩ := cx16 hq hlen
      clear hq hlen
      try simp only [Unit.unit] at hx0
      have hc : 0 ≤ c ⟨⟩ ∧ c ⟨⟩ ≤ 3 := by omega
      refine ⟨_, HLe.refl _, ?_⟩
      cbv
      repeat' first
        | (refine Br.mk (fun h => ?_) (fun h => ?_) <;> cbv)
        | (refine Ob.mk ?_ ?_; rotate_left; cbv)
        | (refine Lex.mk (by decide +kernel) ?_; cbv)
        | (refine Loop.mk 70 ?_; cbv)
        | (refine Gen.same ?_; cbv)
      all_goals try (first | exact ⟨rfl, hc.1, hc.2, by decide, by decide⟩ | exact ⟨hlen, hc.1, hc.2, by decide, by decide⟩ | exact hlen | exact ⟨rfl, hc.1, hc.2⟩)
      all_goals (try simp only [Unit.unit, Int.ofNat_lt, Int.ofNat_le, BE.val, IE.val, NE.val, ltB_iff, ltB_no, leB_iff, leB_no, Int.toNat_natCast, Nat.zero_add, Nat.add_zero, Nat.mul_one, forced, beq_iff_eq, beq_eq_false_iff_ne, bne_iff_ne, bne_eq_false_iff_eq] at *)
      all_goals first | with_reducible rfl | (simp_all [grS, forced]; done)
    · cases hs
  · cases hs
theorem fn104 : FnOk Tryz.prog 104 Tryz.f104 (bodyOf Tryz.f104) := ⟨Tryz.func104, rfl, by rfl⟩
def s104 : Spec := hspec fun args H => match args, H with
  | [.c (.p 0 (.l 0)), .c (.i .i64 (.x c))], [some ⟨false, 0, x⟩] => match x.toCx with
    | some l => some (.t [vI ((grS (l ()) (c ()).toNat 3).1 : Nat), F (grS (l ()) (c ()).toNat 3).2], [none], [fun _ => (l ()).length = 16 ∧ 0 ≤ c () ∧ c () ≤ 3])
    | none => none
  | _, _ => none
def E104 : Env := fun g => envGetL [(134, ⟨true, s134, none⟩), (96, ⟨true, s96, none⟩)] g
theorem E104ok : EnvOk Tryz.prog E104 := envOk_cons ok134 (envOk_cons ok96 (envOk_nil _))
set_option maxRecDepth 100000 in
set_option maxHeartbeats 1000000 in
theorem ok104 : Ok Tryz.prog 104 (s104) := ok_of_wpaH (E := E104) mixed tts E104ok fn104 fun args H v H' o hs ho => by
  split at hs
  · rename_i c x
    split at hs
    · rename_i l hl
      cases hs
      obtain ⟨hlen, hx0⟩ := ho.one
      try simp only [Unit.unit] at hlen hx0
      have hc : 0 ≤ c ⟨⟩ ∧ c ⟨⟩ ≤ 3 := by omega
      refine ⟨_, HLe.cons (BLe.cx hl) HLe.nil, ?_⟩
      cbv
      repeat' first
        | (refine Br.mk (fun h => ?_) (fun h => ?_) <;> cbv)
        | (refine Ob.mk ?_ ?_; rotate_left; cbv)
        | (refine Lex.mk (by decide +kernel) ?_; cbv)
        | (refine Loop.mk 70 ?_; cbv)
        | (refine Gen.same ?_; cbv)
      all_goals try (first | exact ⟨rfl, hc.1, hc.2, by decide, by decide⟩ | exact ⟨hlen, hc.1, hc.2, by decide, by decide⟩ | exact hlen | exact ⟨rfl, hc.1, hc.2⟩)
      all_goals (try simp only [Unit.unit, Int.ofNat_lt, Int.ofNat_le, BE.val, IE.val, NE.val, ltB_iff, ltB_no, leB_iff, leB_no, Int.toNat_natCast, Nat.zero_add, Nat.add_zero, Nat.mul_one, forced, beq_iff_eq, beq_eq_false_iff_ne, bne_iff_ne, bne_eq_false_iff_eq] at *)
      all_goals first | with_reducible rfl | (simp_all [grS]; done)
    · cases hs
  · cases hs
end Rg
end Go.Proofs.YteifneielgnniaaGreatDoor.Sh
end
section
namespace Go.Proofs.YteifneielgnniaaGreatDoor.Sh
namespace Rg
open Go Go.Proofs
theorem fn45 : FnOk Tryz.prog 45 Tryz.f45 (bodyOf Tryz.f45) := ⟨Tryz.func45, rfl, by rfl⟩
def s45 : Spec := hspec fun args H => match args, H with
  | [.a cs], [] => match cxsOf cs with
    | some q => some (vB (okS (forced q)), [], [fun _ => q.length = 16])
    | none => none
  | _, _ => none
def E45 : Env := fun g => envGetL [(39, ⟨true, s39, none⟩)] g
theorem E45ok : EnvOk Tryz.prog E45 := envOk_cons ok39 (envOk_nil _)
set_option maxRecDepth 100000 in
set_option maxHeartbeats 4000000 in
theorem ok45 : Ok Tryz.prog 45 (s45) := ok_of_wpaH (E := E45) mixed tts E45ok fn45 fun args H v H' o hs ho => by
  split at hs
  · rename_i cs
    split at hs
    · rename_i q hq
      cases hs
      obtain hlen := ho.one
      obtain ⟨e, m, rfl, rfl⟩ := cx16 hq hlen
      clear hq hlen
      refine ⟨_, HLe.refl _, ?_⟩
      cbv
      repeat' first
        | (refine Br.mk (fun h => ?_) (fun h => ?_) <;> cbv)
        | (refine Ob.mk ?_ ?_; rotate_left; cbv)
        | (refine Lex.mk (by decide +kernel) ?_; cbv)
        | (refine Loop.mk 70 ?_; cbv)
        | (refine Gen.same ?_; cbv)
      all_goals (try simp only [Unit.unit, Int.ofNat_lt, Int.ofNat_le, BE.val, IE.val, NE.val, ltB_iff, ltB_no, leB_iff, leB_no, Int.toNat_natCast, Nat.zero_add, Nat.add_zero, Nat.mul_one, forced, beq_iff_eq, beq_eq_false_iff_ne, bne_iff_ne, bne_eq_false_iff_eq] at *)
      all_goals first | with_reducible rfl | (simp_all [okS, allI, forced]; done)
    · cases hs
  · cases hs
theorem fn132 : FnOk Tryz.prog 132 Tryz.f132 (bodyOf Tryz.f132) := ⟨Tryz.func132, rfl, by rfl⟩
def s132 : Spec := hspec fun args H => match args, H with
  | [.c (.p 0 (.l 0))], [some ⟨false, 0, x⟩] => match x.toCx with
    | some l => some (vB (okS (l ())), [none], [fun _ => (l ()).length = 16])
    | none => none
  | _, _ => none
def E132 : Env := fun g => envGetL [(98, ⟨true, s98, none⟩)] g
theorem E132ok : EnvOk Tryz.prog E132 := envOk_cons ok98 (envOk_nil _)
set_option maxRecDepth 100000 in
set_option maxHeartbeats 4000000 in
theorem ok132 : Ok Tryz.prog 132 (s132) := ok_of_wpaH (E := E132) mixed tts E132ok fn132 fun args H v H' o hs ho => by
  split at hs
  · rename_i x
    split at hs
    · rename_i l hl
      cases hs
      obtain hlen := ho.one
      try simp only [Unit.unit] at hlen 
      refine ⟨_, HLe.cons (BLe.cx hl) HLe.nil, ?_⟩
      cbv
      repeat' first
        | (refine Br.mk (fun h => ?_) (fun h => ?_) <;> cbv)
        | (refine Ob.mk ?_ ?_; rotate_left; cbv)
        | (refine Lex.mk (by decide +kernel) ?_; cbv)
        | (refine Loop.mk 70 ?_; cbv)
        | (refine Gen.same ?_; cbv)
      all_goals (try simp only [Unit.unit, Int.ofNat_lt, Int.ofNat_le, BE.val, IE.val, NE.val, ltB_iff, ltB_no, leB_iff, leB_no, Int.toNat_natCast, Nat.zero_add, Nat.add_zero, Nat.mul_one, forced, beq_iff_eq, beq_eq_false_iff_ne, bne_iff_ne, bne_eq_false_iff_eq] at *)
      all_goals first | with_reducible rfl | omega | (simp_all [okS, allI]; done)
    · cases hs
  · cases hs
end Rg
end Go.Proofs.YteifneielgnniaaGreatDoor.Sh
end
section
namespace Go.Proofs.YteifneielgnniaaGreatDoor.Sh
namespace Rg
open Go Go.Proofs
theorem fn120 : FnOk Tryz.prog 120 Tryz.f120 (bodyOf Tryz.f120) := ⟨Tryz.func120, rfl, by rfl⟩
def s120 : Spec := hspec fun args H => match args, H with
  | [.c (.i .i64 (.x a)), .c (.i .i64 (.x lo)), .c (.i .i64 (.x hi))], [] => some (vB (inI (a ()) (lo ()) (hi ())), [], [])
  | _, _ => none
theorem ok120 : Ok Tryz.prog 120 (s120) := ok_of_wpaH (E := envGetL []) mixed tts (envOk_nil _) fn120 fun args H v H' o hs ho => by
  split at hs
  · rename_i a lo hi
    cases hs
    refine ⟨_, HLe.refl _, ?_⟩
    cbv
    repeat' first
      | (refine Br.mk (fun h => ?_) (fun h => ?_) <;> cbv)
      | (refine Ob.mk ?_ ?_; rotate_left; cbv)
      | (refine Lex.mk (by decide +kernel) ?_; cbv)
    all_goals (try simp only [Unit.unit, Int.ofNat_lt, Int.ofNat_le, BE.val, IE.val, NE.val, ltB_iff, ltB_no, leB_iff, leB_no, Int.toNat_natCast, Nat.zero_add, Nat.add_zero, Nat.mul_one, forced, beq_iff_eq, beq_eq_false_iff_ne, bne_iff_ne, bne_eq_false_iff_eq] at *)
    all_goals first | with_reducible rfl | (simp_all [inI, leB]; done) | (simp_all [inI, leB]; omega)
  · cases hs
theorem fn133 : FnOk Tryz.prog 133 Tryz.f133 (bodyOf Tryz.f133) := ⟨Tryz.func133, rfl, by rfl⟩
def s133 : Spec := hspec fun args H => match args, H with
  | [.c (.i .i64 (.x a))], [] => some (vB (inI (a ()) 0 3), [], [])
  | _, _ => none
def E133 : Env := fun g => envGetL [(120, ⟨true, s120, none⟩)] g
theorem E133ok : EnvOk Tryz.prog E133 := envOk_cons ok120 (envOk_nil _)
theorem ok133 : Ok Tryz.prog 133 (s133) := ok_of_wpaH (E := E133) mixed tts E133ok fn133 fun args H v H' o hs ho => by
  split at hs
  · rename_i a
    cases hs
    refine ⟨_, HLe.refl _, ?_⟩
    cbv
    repeat' first
      | (refine Br.mk (fun h => ?_) (fun h => ?_) <;> cbv)
      | (refine Ob.mk ?_ ?_; rotate_left; cbv)
      | (refine Lex.mk (by decide +kernel) ?_; cbv)
    all_goals (try simp only [Unit.unit, Int.ofNat_lt, Int.ofNat_le, BE.val, IE.val, NE.val, ltB_iff, ltB_no, leB_iff, leB_no, Int.toNat_natCast, Nat.zero_add, Nat.add_zero, Nat.mul_one, forced, beq_iff_eq, beq_eq_false_iff_ne, bne_iff_ne, bne_eq_false_iff_eq] at *)
    all_goals first | with_reducible rfl | rfl
  · cases hs
theorem fn103 : FnOk Tryz.prog 103 Tryz.f103 (bodyOf Tryz.f103) := ⟨Tryz.func103, rfl, by rfl⟩
def s103 : Spec := hspec fun args H => match args, H with
  | [.c (.f .f32 a)], [] => some (vB (isIn (a ()) 0 1166016512), [], [])
  | _, _ => none
theorem ok103 : Ok Tryz.prog 103 (s103) := ok_of_wpaH (E := envGetL []) mixed tts (envOk_nil _) fn103 fun args H v H' o hs ho => by
  split at hs
  · rename_i a
    cases hs
    refine ⟨_, HLe.refl _, ?_⟩
    cbv
    repeat' first
      | (refine Br.mk (fun h => ?_) (fun h => ?_) <;> cbv)
      | (refine Ob.mk ?_ ?_; rotate_left; cbv)
      | (refine Lex.mk (by decide +kernel) ?_; cbv)
    all_goals (try simp only [Unit.unit, Int.ofNat_lt, Int.ofNat_le, BE.val, IE.val, NE.val, ltB_iff, ltB_no, leB_iff, leB_no, Int.toNat_natCast, Nat.zero_add, Nat.add_zero, Nat.mul_one, forced, beq_iff_eq, beq_eq_false_iff_ne, bne_iff_ne, bne_eq_false_iff_eq] at *)
    all_goals first | with_reducible rfl | (simp_all [isIn]; done)
  · cases hs
theorem fn135 : FnOk Tryz.prog 135 Tryz.f135 (bodyOf Tryz.f135) := ⟨Tryz.func135, rfl, by rfl⟩
def s135 : Spec := hspec fun args H => match args, H with
  | [.c (.sl 0 (.x o) (.x n))], [some ⟨false, 0, x⟩] => match x.toIt .i64 with
    | some l => some (.c (.b (.l true)), [none], [fun _ => o () = 0 ∧ n () = 1 ∧ (l ()).length = 1 ∧ 0 ≤ (l ()).getD 0 0 ∧ (l ()).getD 0 0 ≤ 3])
    | none => none
  | _, _ => none
set_option maxRecDepth 100000 in
set_option maxHeartbeats 1000000 in
theorem ok135 : Ok Tryz.prog 135 (s135) := ok_of_wpaH (E := envGetL []) mixed tts (envOk_nil _) fn135 fun args H v H' o hs ho => by
  split at hs
  · rename_i o n x
    split at hs
    · rename_i l hl
      cases hs
      obtain ⟨ho, hn, hlen, h0, h3⟩ := ho.one
      try simp only [Unit.unit] at ho hn hlen h0 h3
      have t1 : ltB 0 (n ⟨⟩ : Int) = true := by rw [ltB_iff, hn]; decide
      have t2 : ltB 1 (n ⟨⟩ : Int) = false := by rw [ltB_no, hn]; decide
      have t3 : ltB ((l ⟨⟩).getD (o ⟨⟩ + 0) 0) 0 = false := by rw [ho, ltB_no]; exact Int.not_lt.2 h0
      have t4 : ltB 3 ((l ⟨⟩).getD (o ⟨⟩ + 0) 0) = false := by rw [ho, ltB_no]; exact Int.not_lt.2 h3
      have t5 : (0 : Int) ≤ 0 ∧ (0 : Int) < (n ⟨⟩ : Int) := by rw [hn]; decide
      have t6 : o ⟨⟩ + 0 < (l ⟨⟩).length := by rw [ho, hlen]; decide
      refine ⟨_, HLe.cons (BLe.it hl) HLe.nil, ?_⟩
      cbv
      refine Loop.mk 70 ?_
      cbv
      refine Gen.same ?_
      cbv
      refine Br.t t1 ?_
      cbv
      repeat' (refine Ob.mk ?_ ?_; (focus (first | exact t5 | exact t6)); cbv)
      refine Br.f t3 ?_
      cbv
      refine Br.f t4 ?_
      cbv
      refine Gen.same ?_
      cbv
      refine Br.f t2 ?_
      cbv
      repeat' (refine Ob.mk ?_ ?_; rotate_left; cbv)
      all_goals (try simp only [Unit.unit, Int.ofNat_lt, Int.ofNat_le, BE.val, IE.val, NE.val, ltB_iff, ltB_no, leB_iff, leB_no, Int.toNat_natCast, Nat.zero_add, Nat.add_zero, Nat.mul_one, forced, beq_iff_eq, beq_eq_false_iff_ne, bne_iff_ne, bne_eq_false_iff_eq] at *)
      all_goals first | with_reducible rfl | rfl
    · cases hs
  · cases hs
theorem fn106 : FnOk Tryz.prog 106 Tryz.f106 (bodyOf Tryz.f106) := ⟨Tryz.func106, rfl, by rfl⟩
def s106 : Spec := hspec fun args H => match args, H with
  | [.a cs, .c (.sl 0 (.x o) (.x n))], [some ⟨false, 0, x⟩] => match cxsOf cs, x.toIt .i64 with
    | some q, some l => some (vI (if okS (forced q) = true then 0 else 1), [none], [fun _ => q.length = 16, fun _ => o () = 0 ∧ n () = 1 ∧ (l ()).length = 1 ∧ 0 ≤ (l ()).getD 0 0 ∧ (l ()).getD 0 0 ≤ 3])
    | _, _ => none
  | _, _ => none
def E106 : Env := fun g => envGetL [(45, ⟨true, s45, none⟩), (135, ⟨true, s135, none⟩)] g
theorem E106ok : EnvOk Tryz.prog E106 := envOk_cons ok45 (envOk_cons ok135 (envOk_nil _))
set_option maxRecDepth 100000 in
set_option maxHeartbeats 1000000 in
theorem ok106 : Ok Tryz.prog 106 (s106) := ok_of_wpaH (E := E106) mixed tts E106ok fn106 fun args H v H' o hs ho => by
  split at hs
  · rename_i cs o n x
    split at hs
    · rename_i q l hq hl
      cases hs
      obtain ⟨hlen, hw⟩ := ho.two
      obtain ⟨e, m, rfl, rfl⟩ := cx16 hq hlen
      clear hq hlen
      refine ⟨_, HLe.cons (BLe.it hl) HLe.nil, ?_⟩
      cbv
      repeat' first
        | (refine Br.mk (fun h => ?_) (fun h => ?_) <;> cbv)
        | (refine Ob.mk ?_ ?_; rotate_left; cbv)
        | (refine Lex.mk (by decide +kernel) ?_; cbv)
      all_goals try (first | exact hw | exact rfl)
      all_goals (try simp only [Unit.unit, Int.ofNat_lt, Int.ofNat_le, BE.val, IE.val, NE.val, ltB_iff, ltB_no, leB_iff, leB_no, Int.toNat_natCast, Nat.zero_add, Nat.add_zero, Nat.mul_one, forced, beq_iff_eq, beq_eq_false_iff_ne, bne_iff_ne, bne_eq_false_iff_eq] at *)
      all_goals first | with_reducible rfl | (simp_all; done)
    · cases hs
  · cases hs
theorem fn102 : FnOk Tryz.prog 102 Tryz.f102 (bodyOf Tryz.f102) := ⟨Tryz.func102, rfl, by rfl⟩
def s102 : Spec := hspec fun args H => match args, H with
  | [.c (.p 0 (.l 0)), .c (.i .i64 (.x c)), .c (.b (.x fine))], [some ⟨false, 0, x⟩] => match x.toCx with
    | some l => some (vI (if okS (l ()) = true then if inI (c ()) 0 3 = true ∧ fine () = true then 0 else 2 else 1), [none], [fun _ => (l ()).length = 16])
    | none => none
  | _, _ => none
def E102 : Env := fun g => envGetL [(132, ⟨true, s132, none⟩), (133, ⟨true, s133, none⟩)] g
theorem E102ok : EnvOk Tryz.prog E102 := envOk_cons ok132 (envOk_cons ok133 (envOk_nil _))
set_option maxRecDepth 100000 in
set_option maxHeartbeats 1000000 in
theorem ok102 : Ok Tryz.prog 102 (s102) := ok_of_wpaH (E := E102) mixed tts E102ok fn102 fun args H v H' o hs ho => by
  split at hs
  · rename_i c fine x
    split at hs
    · rename_i l hl
      cases hs
      have hlen := ho.one
      refine ⟨_, HLe.cons (BLe.cx hl) HLe.nil, ?_⟩
      cbv
      repeat' first
        | (refine Br.mk (fun h => ?_) (fun h => ?_) <;> cbv)
        | (refine Ob.mk ?_ ?_; rotate_left; cbv)
        | (refine Lex.mk (by decide +kernel) ?_; cbv)
      all_goals try (first | exact hlen)
      all_goals (try simp only [Unit.unit, Int.ofNat_lt, Int.ofNat_le, BE.val, IE.val, NE.val, ltB_iff, ltB_no, leB_iff, leB_no, Int.toNat_natCast, Nat.zero_add, Nat.add_zero, Nat.mul_one, forced, beq_iff_eq, beq_eq_false_iff_ne, bne_iff_ne, bne_eq_false_iff_eq] at *)
      all_goals first | with_reducible rfl | (simp_all; done)
    · cases hs
  · cases hs
end Rg
end Go.Proofs.YteifneielgnniaaGreatDoor.Sh
end
section
namespace Go.Proofs.YteifneielgnniaaGreatDoor.Sh
namespace Rg
open Go Go.Proofs
theorem eta16 {l : List M} (h : l.length = 16) : [((l.getD 0 (0, 0)).1, (l.getD 0 (0, 0)).2), ((l.getD 1 (0, 0)).1, (l.getD 1 (0, 0)).2), ((l.getD 2 (0, 0)).1, (l.getD 2 (0, 0)).2), ((l.getD 3 (0, 0)).1, (l.getD 3 (0, 0)).2), ((l.getD 4 (0, 0)).1, (l.getD 4 (0, 0)).2), ((l.getD 5 (0, 0)).1, (l.getD 5 (0, 0)).2), ((l.getD 6 (0, 0)).1, (l.getD 6 (0, 0)).2), ((l.getD 7 (0, 0)).1, (l.getD 7 (0, 0)).2), ((l.getD 8 (0, 0)).1, (l.getD 8 (0, 0)).2), ((l.getD 9 (0, 0)).1, (l.getD 9 (0, 0)).2), ((l.getD 10 (0, 0)).1, (l.getD 10 (0, 0)).2), ((l.getD 11 (0, 0)).1, (l.getD 11 (0, 0)).2), ((l.getD 12 (0, 0)).1, (l.getD 12 (0, 0)).2), ((l.getD 13 (0, 0)).1, (l.getD 13 (0, 0)).2), ((l.getD 14 (0, 0)).1, (l.getD 14 (0, 0)).2), ((l.getD 15 (0, 0)).1, (l.getD 15 (0, 0)).2)] = l := by
  match l, h with
  | [a0, a1, a2, a3, a4, a5, a6, a7, a8, a9, a10, a11, a12, a13, a14, a15], _ => rfl
theorem noS_get (i : Nat) : noS.getD i (0, 0) = ((0 : Nat), (0 : Nat)) := by
  unfold noS
  rw [List.getD_eq_getElem?_getD, List.getElem?_replicate]
  split <;> rfl
end Rg
end Go.Proofs.YteifneielgnniaaGreatDoor.Sh
end
section
namespace Go.Proofs.YteifneielgnniaaGreatDoor.Sh
namespace Rg
open Go Go.Proofs
theorem fn49 : FnOk Tryz.prog 49 Tryz.f49 (bodyOf Tryz.f49) := ⟨Tryz.func49, rfl, by rfl⟩
def s49 : Spec := hspec fun args H => match args, H with
  | [.a cs, .c (.i .i64 (.x c))], [] => match cxsOf cs with
    | some q => some (.t [vI ((grS (forced q) (c ()).toNat 3).1 : Nat), F (grS (forced q) (c ()).toNat 3).2, vI 0], [], [fun _ => q.length = 16 ∧ okS (forced q) = true ∧ 0 ≤ c () ∧ c () ≤ 3])
    | none => none
  | _, _ => none
def E49 : Env := fun g => envGetL [(106, ⟨true, s106, none⟩), (101, ⟨true, s101, none⟩)] g
theorem E49ok : EnvOk Tryz.prog E49 := envOk_cons ok106 (envOk_cons ok101 (envOk_nil _))
set_option maxRecDepth 100000 in
set_option maxHeartbeats 1000000 in
theorem ok49 : Ok Tryz.prog 49 (s49) := ok_of_wpaH (E := E49) mixed tts E49ok fn49 fun args H v H' o hs ho => by
  split at hs
  · rename_i cs c
    split at hs
    · rename_i q hq
      cases hs
      obtain ⟨hlen, hok, hc⟩ := ho.one
      obtain ⟨e, m, rfl, rfl⟩ := cx16 hq hlen
      clear hq hlen
      have hok : okS [(e 0 ⟨⟩, m 0 ⟨⟩), (e 1 ⟨⟩, m 1 ⟨⟩), (e 2 ⟨⟩, m 2 ⟨⟩), (e 3 ⟨⟩, m 3 ⟨⟩), (e 4 ⟨⟩, m 4 ⟨⟩), (e 5 ⟨⟩, m 5 ⟨⟩), (e 6 ⟨⟩, m 6 ⟨⟩), (e 7 ⟨⟩, m 7 ⟨⟩), (e 8 ⟨⟩, m 8 ⟨⟩), (e 9 ⟨⟩, m 9 ⟨⟩), (e 10 ⟨⟩, m 10 ⟨⟩), (e 11 ⟨⟩, m 11 ⟨⟩), (e 12 ⟨⟩, m 12 ⟨⟩), (e 13 ⟨⟩, m 13 ⟨⟩), (e 14 ⟨⟩, m 14 ⟨⟩), (e 15 ⟨⟩, m 15 ⟨⟩)] = true := hok
      have hcode : ((if okS [(e 0 ⟨⟩, m 0 ⟨⟩), (e 1 ⟨⟩, m 1 ⟨⟩), (e 2 ⟨⟩, m 2 ⟨⟩), (e 3 ⟨⟩, m 3 ⟨⟩), (e 4 ⟨⟩, m 4 ⟨⟩), (e 5 ⟨⟩, m 5 ⟨⟩), (e 6 ⟨⟩, m 6 ⟨⟩), (e 7 ⟨⟩, m 7 ⟨⟩), (e 8 ⟨⟩, m 8 ⟨⟩), (e 9 ⟨⟩, m 9 ⟨⟩), (e 10 ⟨⟩, m 10 ⟨⟩), (e 11 ⟨⟩, m 11 ⟨⟩), (e 12 ⟨⟩, m 12 ⟨⟩), (e 13 ⟨⟩, m 13 ⟨⟩), (e 14 ⟨⟩, m 14 ⟨⟩), (e 15 ⟨⟩, m 15 ⟨⟩)] = true then (0 : Int) else 1) != 0) = false := by rw [if_pos hok]; rfl
      refine ⟨_, HLe.refl _, ?_⟩
      cbv
      repeat' (refine Ob.mk ?_ ?_; (focus (first | exact rfl | exact ⟨rfl, rfl, rfl, hc.1, hc.2⟩)); cbv)
      refine Br.f hcode ?_
      cbv
      repeat' (refine Ob.mk ?_ ?_; (focus (first | exact ⟨rfl, hc⟩ | exact rfl)); cbv)
    · cases hs
  · cases hs
end Rg
end Go.Proofs.YteifneielgnniaaGreatDoor.Sh
end
section
namespace Go.Proofs.YteifneielgnniaaGreatDoor.Sh
namespace Rg
open Go Go.Proofs
def qIn (N : Int) (q : Int × Int) : Prop := 0 ≤ q.1 ∧ q.1 ≤ N
theorem qIn_pk {N : Int} {L : List Int} {k : Int} {q : Int × Int} (h : qIn N q) : qIn (N + 2) (pkQ L k q) := by
  have := pkQ_bd (L := L) (k := k) (q := q)
  unfold qIn at *
  omega
theorem qIn_le {N M : Int} {q : Int × Int} (h : qIn N q) (hM : N ≤ M) : qIn M q := ⟨h.1, Int.le_trans h.2 hM⟩
def dmX (L : List Int) (q : Int × Int) : Nat := fop .quo .f32 (floatOfInt .f32 (IntKind.wrap .i64 (pkV L 801 q - 400))) 1098907648
def dmM (L : List Int) (q : Int × Int) : M := (dmX L q, dmX L (pkQ L 801 q))
def dmQ (L : List Int) (q : Int × Int) : Int × Int := pkQ L 801 (pkQ L 801 q)
theorem dmQ_in {N : Int} {L : List Int} {q : Int × Int} (h : qIn N q) : qIn (N + 4) (dmQ L q) := qIn_le (qIn_pk (qIn_pk h)) (by omega)
theorem fn122 : FnOk Tryz.prog 122 Tryz.f122 (bodyOf Tryz.f122) := ⟨Tryz.func122, rfl, by rfl⟩
def s122 : Spec := hspec fun args H => match args, H with
  | [.c (.p 0 (.l 0))], [some ⟨true, 0, .lit [.sl 1 (.x o) (.x n), .i .i64 (.x a), .i .u64 (.x s)]⟩, some ⟨false, 0, .it .u8 L⟩] => some (Zm (dmM (L ()) (a (), s ())), [some ⟨true, 0, .lit [.sl 1 (.x o) (.x n), .i .i64 (.x fun _ => (dmQ (L ()) (a (), s ())).1), .i .u64 (.x fun _ => (dmQ (L ()) (a (), s ())).2)]⟩, some ⟨false, 0, .it .u8 L⟩], [fun _ => 0 ≤ a () ∧ a () ≤ 100000, fun _ => o () = 0 ∧ (L ()).length = n () ∧ n () ≤ 4096 ∧ bytesOk (L ()), fun _ => a () ≤ 40000])
  | [.c (.p 0 (.l 0))], [some ⟨true, 0, .lit [.sn, .i .i64 (.x a), .i .u64 (.x s)]⟩] => some (Zm (dmM [] (a (), s ())), [some ⟨true, 0, .lit [.sn, .i .i64 (.x fun _ => (dmQ [] (a (), s ())).1), .i .u64 (.x fun _ => (dmQ [] (a (), s ())).2)]⟩], [fun _ => 0 ≤ a () ∧ a () ≤ 100000, fun _ => a () ≤ 40000])
  | _, _ => none
def E122 : Env := fun g => envGetL [(55, ⟨false, s55, none⟩), (87, ⟨true, s87, none⟩)] g
theorem E122ok : EnvOk Tryz.prog E122 := envOk_cons ok55 (envOk_cons ok87 (envOk_nil _))
set_option maxRecDepth 100000 in
set_option maxHeartbeats 1000000 in
theorem ok122 : Ok Tryz.prog 122 (s122) := ok_of_wpaH (E := E122) mixed tts E122ok fn122 fun args H v H' o hs ho => by
  split at hs
  · rename_i o n a s L
    cases hs
    obtain ⟨⟨ha0, ha1⟩, ⟨ho0, hlen, hbig, hby⟩, hx0⟩ := ho.three
    try simp only [Unit.unit] at ha0 ha1 ho0 hlen hbig hx0
    refine ⟨_, HLe.refl _, ?_⟩
    cbv
    have hq0 : qIn 40000 (a ⟨⟩, s ⟨⟩) := ⟨ha0, hx0⟩
    have hq1 : qIn 40002 (pkQ (L ⟨⟩) 801 (a ⟨⟩, s ⟨⟩)) := qIn_pk hq0
    repeat' (refine Ob.mk ?_ ?_; rotate_left; cbv)
    all_goals try (first | exact ⟨hq0.1, Int.le_trans hq0.2 (by decide)⟩ | exact Int.le_trans hq0.2 (by decide) | exact ⟨hq1.1, Int.le_trans hq1.2 (by decide)⟩ | exact Int.le_trans hq1.2 (by decide) | exact ⟨ho0, hlen, hbig, hby⟩ | exact ⟨by trivial, hlen, hbig, hby⟩)
    all_goals (try simp only [Unit.unit, Int.ofNat_lt, Int.ofNat_le, BE.val, IE.val, NE.val, ltB_iff, ltB_no, leB_iff, leB_no, Int.toNat_natCast, Nat.zero_add, Nat.add_zero, Nat.mul_one, forced, beq_iff_eq, beq_eq_false_iff_ne, bne_iff_ne, bne_eq_false_iff_eq] at *)
    all_goals first | with_reducible rfl | rfl
  · rename_i a s
    cases hs
    obtain ⟨⟨ha0, ha1⟩, hx0⟩ := ho.two
    have hby := bytes_nil
    try simp only [Unit.unit] at ha0 ha1 hx0
    refine ⟨_, HLe.refl _, ?_⟩
    cbv
    have hq0 : qIn 40000 (a ⟨⟩, s ⟨⟩) := ⟨ha0, hx0⟩
    have hq1 : qIn 40002 (pkQ [] 801 (a ⟨⟩, s ⟨⟩)) := qIn_pk hq0
    repeat' (refine Ob.mk ?_ ?_; rotate_left; cbv)
    all_goals try (first | exact ⟨hq0.1, Int.le_trans hq0.2 (by decide)⟩ | exact Int.le_trans hq0.2 (by decide) | exact ⟨hq1.1, Int.le_trans hq1.2 (by decide)⟩ | exact Int.le_trans hq1.2 (by decide))
    all_goals (try simp only [Unit.unit, Int.ofNat_lt, Int.ofNat_le, BE.val, IE.val, NE.val, ltB_iff, ltB_no, leB_iff, leB_no, Int.toNat_natCast, Nat.zero_add, Nat.add_zero, Nat.mul_one, forced, beq_iff_eq, beq_eq_false_iff_ne, bne_iff_ne, bne_eq_false_iff_eq] at *)
    all_goals first | with_reducible rfl | rfl
  · cases hs
end Rg
end Go.Proofs.YteifneielgnniaaGreatDoor.Sh
end
section
namespace Go.Proofs.YteifneielgnniaaGreatDoor.Sh
namespace Rg
open Go Go.Proofs
end Rg
end Go.Proofs.YteifneielgnniaaGreatDoor.Sh
end
section
namespace Go.Proofs.YteifneielgnniaaGreatDoor.Sh
namespace Rg
open Go Go.Proofs
def sameM (a b : M) : Bool := eqW a.1 b.1 && eqW a.2 b.2
theorem fn89 : FnOk Tryz.prog 89 Tryz.f89 (bodyOf Tryz.f89) := ⟨Tryz.func89, rfl, by rfl⟩
def s89 : Spec := hspec fun args H => match args, H with
  | [.c (.z .f32 a1 a2), .c (.z .f32 b1 b2)], [] => some (vB (sameM (a1 (), a2 ()) (b1 (), b2 ())), [], [])
  | _, _ => none
def E89 : Env := fun g => envGetL [(126, ⟨true, s126, none⟩), (127, ⟨true, s127, none⟩), (58, ⟨true, s58, none⟩)] g
theorem E89ok : EnvOk Tryz.prog E89 := envOk_cons ok126 (envOk_cons ok127 (envOk_cons ok58 (envOk_nil _)))
theorem ok89 : Ok Tryz.prog 89 (s89) := ok_of_wpaH (E := E89) mixed tts E89ok fn89 fun args H v H' o hs ho => by
  split at hs
  · rename_i a1 a2 b1 b2
    cases hs
    refine ⟨_, HLe.refl _, ?_⟩
    cbv
    repeat' first
      | (refine Br.mk (fun h => ?_) (fun h => ?_) <;> cbv)
      | (refine Ob.mk ?_ ?_; rotate_left; cbv)
      | (refine Lex.mk (by decide +kernel) ?_; cbv)
    all_goals (try simp only [Unit.unit, Int.ofNat_lt, Int.ofNat_le, BE.val, IE.val, NE.val, ltB_iff, ltB_no, leB_iff, leB_no, Int.toNat_natCast, Nat.zero_add, Nat.add_zero, Nat.mul_one, forced, beq_iff_eq, beq_eq_false_iff_ne, bne_iff_ne, bne_eq_false_iff_eq] at *)
    all_goals first | with_reducible rfl | (simp_all [sameM]; done)
  · cases hs
theorem fn29 : FnOk Tryz.prog 29 Tryz.f29 (bodyOf Tryz.f29) := ⟨Tryz.func29, rfl, by rfl⟩
def s29 : Spec := hspec fun args H => match args, H with
  | [.c (.z .f32 a1 a2), .c (.z .f32 b1 b2)], [] => some (vB (sameM (a1 (), a2 ()) (b1 (), b2 ())), [], [])
  | _, _ => none
def E29 : Env := fun g => envGetL [(89, ⟨true, s89, none⟩)] g
theorem E29ok : EnvOk Tryz.prog E29 := envOk_cons ok89 (envOk_nil _)
theorem ok29 : Ok Tryz.prog 29 (s29) := ok_of_wpaH (E := E29) mixed tts E29ok fn29 fun args H v H' o hs ho => by
  split at hs
  · rename_i a1 a2 b1 b2
    cases hs
    refine ⟨_, HLe.refl _, ?_⟩
    cbv
    repeat' first
      | (refine Br.mk (fun h => ?_) (fun h => ?_) <;> cbv)
      | (refine Ob.mk ?_ ?_; rotate_left; cbv)
      | (refine Lex.mk (by decide +kernel) ?_; cbv)
    all_goals (try simp only [Unit.unit, Int.ofNat_lt, Int.ofNat_le, BE.val, IE.val, NE.val, ltB_iff, ltB_no, leB_iff, leB_no, Int.toNat_natCast, Nat.zero_add, Nat.add_zero, Nat.mul_one, forced, beq_iff_eq, beq_eq_false_iff_ne, bne_iff_ne, bne_eq_false_iff_eq] at *)
    all_goals first | with_reducible rfl | (simp_all [sameM]; done)
  · cases hs
end Rg
end Go.Proofs.YteifneielgnniaaGreatDoor.Sh
end
section
namespace Go.Proofs.YteifneielgnniaaGreatDoor.Sh
namespace Rg
open Go Go.Proofs
def cellB (off : M) (c k : Nat) : M := if 0 < c then plusM (cnr k) off else cnr k
def cellV (L : List Int) (q : Int × Int) (b : M) : M := if pkV L 4 q == 0 then dmM L (pkQ L 4 q) else b
def cellQ (L : List Int) (q : Int × Int) : Int × Int := if pkV L 4 q == 0 then dmQ L (pkQ L 4 q) else pkQ L 4 q
/-- a row: so many of its cells -/
def rowI (L : List Int) (off : M) (c : Nat) (q : Int × Int) (l : List M) : Nat → (Int × Int) × List M
  | 0 => (q, l)
  | k + 1 => (cellQ L (rowI L off c q l k).1, (rowI L off c q l k).2.set (c * 4 + k) (cellV L (rowI L off c q l k).1 (cellB off c k)))
def shI (L : List Int) (q : Int × Int) : Nat → (Int × Int) × List M
  | 0 => (q, noS)
  | c + 1 => rowI L (dmM L (shI L q c).1) c (dmQ L (shI L q c).1) (shI L q c).2 4
def shQ (L : List Int) (q : Int × Int) : Int × Int := pkQ L 12 (shI L q 4).1
def same4 (l : List M) : List M := (((l.set 4 (at2 l 4)).set 5 (at2 l 4)).set 6 (at2 l 4)).set 7 (at2 l 4)
def shL (L : List Int) (q : Int × Int) : List M := if pkV L 12 (shI L q 4).1 == 0 then same4 (shI L q 4).2 else (shI L q 4).2
theorem rowI_len (L : List Int) (off : M) (c : Nat) (q : Int × Int) (l : List M) : ∀ k, (rowI L off c q l k).2.length = l.length
  | 0 => rfl
  | k + 1 => by unfold rowI; rw [List.length_set, rowI_len L off c q l k]
theorem shI_len (L : List Int) (q : Int × Int) : ∀ c, (shI L q c).2.length = 16
  | 0 => rfl
  | c + 1 => by unfold shI; rw [rowI_len, shI_len L q c]
theorem shL_len (L : List Int) (q : Int × Int) : (shL L q).length = 16 := by
  unfold shL same4
  split
  · simp only [List.length_set]; exact shI_len L q 4
  · exact shI_len L q 4
theorem cellQ_in {N : Int} {L : List Int} {q : Int × Int} (h : qIn N q) : qIn (N + 6) (cellQ L q) := by
  unfold cellQ
  split
  · exact qIn_le (dmQ_in (qIn_pk h)) (by omega)
  · exact qIn_le (qIn_pk h) (by omega)
theorem rowI_in {N : Int} {L : List Int} {off : M} {c : Nat} {q : Int × Int} {l : List M} (h : qIn N q) : ∀ k : Nat, qIn (N + 6 * (k : Int)) (rowI L off c q l k).1
  | 0 => qIn_le h (by omega)
  | k + 1 => qIn_le (cellQ_in (rowI_in h k)) (by omega)
theorem shI_in {N : Int} {L : List Int} {q : Int × Int} (h : qIn N q) : ∀ c : Nat, qIn (N + 28 * (c : Int)) (shI L q c).1
  | 0 => qIn_le h (by omega)
  | c + 1 => qIn_le (rowI_in (dmQ_in (shI_in h c)) 4) (by omega)
/-! ## drawn sheets are valid -/
theorem dm_drawn {L : List Int} (h : bytesOk L) (q : Int × Int) : drawnM (dmM L q) := by
  have h1 := pkV_bd h (k := 801) (by decide) q
  have h2 := pkV_bd h (k := 801) (by decide) (pkQ L 801 q)
  have key : ∀ x : Int, 0 ≤ x → x < 801 → fop .quo .f32 (floatOfInt .f32 (IntKind.wrap .i64 (x - 400))) 1098907648 = q16 x.toNat := by
    intro x h0 h8
    unfold q16
    rw [wrap64 (by omega) (by omega), Int.toNat_of_nonneg h0]
  exact ⟨(pkV L 801 q).toNat, (pkV L 801 (pkQ L 801 q)).toNat, by omega, by omega, by
    show (dmX L q, dmX L (pkQ L 801 q)) = _
    unfold dmX
    rw [key _ h1.1 h1.2, key _ h2.1 h2.2]⟩
theorem drawn_ok {m : M} (h : drawnM m) : okM m = true := by
  obtain ⟨a, b, ha, hb, rfl⟩ := h
  show (okX (q16 a) && okX (q16 b)) = true
  rw [allR_at d_okq ha, allR_at d_okq hb]; rfl
theorem cnr_ok (k : Nat) : okM (cnr k) = true := by
  match k with
  | 0 => decide +kernel
  | 1 => decide +kernel
  | 2 => decide +kernel
  | 3 => decide +kernel
  | k + 4 => exact (by decide +kernel : okM (0, 0) = true)
theorem cell_ok {L : List Int} (h : bytesOk L) {off : M} (ho : drawnM off) {c k : Nat} (hk : k < 4) (q : Int × Int) : okM (cellV L q (cellB off c k)) = true := by
  unfold cellV cellB
  split
  · exact drawn_ok (dm_drawn h _)
  · split
    · exact (mv_cnr ho k hk).2.2
    · exact cnr_ok k
theorem set_ok {l : List M} {i : Nat} {m : M} (h : ∀ j, okM (at2 l j) = true) (hm : okM m = true) : ∀ j, okM (at2 (l.set i m) j) = true := by
  intro j
  show okM ((l.set i m).getD j (0, 0)) = true
  rw [List.getD_eq_getElem?_getD, List.getElem?_set]
  split
  · rename_i e
    subst e
    split
    · exact hm
    · exact (by decide +kernel : okM (0, 0) = true)
  · rw [← List.getD_eq_getElem?_getD]; exact h j
theorem rowI_ok {L : List Int} (h : bytesOk L) {off : M} (ho : drawnM off) {c : Nat} {q : Int × Int} {l : List M} (hl : ∀ j, okM (at2 l j) = true) : ∀ k, k ≤ 4 → ∀ j, okM (at2 (rowI L off c q l k).2 j) = true
  | 0, _ => hl
  | k + 1, hk => set_ok (rowI_ok h ho hl k (by omega)) (cell_ok h ho (by omega) _)
theorem shI_ok {L : List Int} (h : bytesOk L) (q : Int × Int) : ∀ c, ∀ j, okM (at2 (shI L q c).2 j) = true
  | 0 => fun j => by
    show okM (noS.getD j (0, 0)) = true
    rw [noS_get]; decide +kernel
  | c + 1 => rowI_ok h (dm_drawn h _) (shI_ok h q c) 4 (Nat.le_refl _)
theorem shL_ok {L : List Int} (h : bytesOk L) (q : Int × Int) : okS (shL L q) = true := by
  refine allI_all fun i _ => ?_
  unfold shL same4
  split
  · have h4 := shI_ok h q 4
    exact set_ok (set_ok (set_ok (set_ok h4 (h4 4)) (h4 4)) (h4 4)) (h4 4) i
  · exact shI_ok h q 4 i
end Rg
end Go.Proofs.YteifneielgnniaaGreatDoor.Sh
end
section
namespace Go.Proofs.YteifneielgnniaaGreatDoor.Sh
namespace Rg
open Go Go.Proofs
theorem kj_lt4 {k : Nat} (h : k < 4) : ltB (k : Int) 4 = true := by rw [ltB_iff]; omega
theorem kj_ge4 {k : Nat} (h : ¬ k < 4) : ltB (k : Int) 4 = false := by rw [ltB_no]; omega
theorem fn99 : FnOk Tryz.prog 99 Tryz.f99 (bodyOf Tryz.f99) := ⟨Tryz.func99, rfl, by rfl⟩
def s99 : Spec := hspec fun args H => match args, H with
  | [.c (.p 0 (.l 0))], [some ⟨true, 0, .lit [.sl 1 (.x o) (.x n), .i .i64 (.x a), .i .u64 (.x s)]⟩, some ⟨false, 0, .it .u8 L⟩] => some (.a [.z .f32 (fun _ => ((shL (L ()) (a (), s ())).getD 0 (0, 0)).1) (fun _ => ((shL (L ()) (a (), s ())).getD 0 (0, 0)).2), .z .f32 (fun _ => ((shL (L ()) (a (), s ())).getD 1 (0, 0)).1) (fun _ => ((shL (L ()) (a (), s ())).getD 1 (0, 0)).2), .z .f32 (fun _ => ((shL (L ()) (a (), s ())).getD 2 (0, 0)).1) (fun _ => ((shL (L ()) (a (), s ())).getD 2 (0, 0)).2), .z .f32 (fun _ => ((shL (L ()) (a (), s ())).getD 3 (0, 0)).1) (fun _ => ((shL (L ()) (a (), s ())).getD 3 (0, 0)).2), .z .f32 (fun _ => ((shL (L ()) (a (), s ())).getD 4 (0, 0)).1) (fun _ => ((shL (L ()) (a (), s ())).getD 4 (0, 0)).2), .z .f32 (fun _ => ((shL (L ()) (a (), s ())).getD 5 (0, 0)).1) (fun _ => ((shL (L ()) (a (), s ())).getD 5 (0, 0)).2), .z .f32 (fun _ => ((shL (L ()) (a (), s ())).getD 6 (0, 0)).1) (fun _ => ((shL (L ()) (a (), s ())).getD 6 (0, 0)).2), .z .f32 (fun _ => ((shL (L ()) (a (), s ())).getD 7 (0, 0)).1) (fun _ => ((shL (L ()) (a (), s ())).getD 7 (0, 0)).2), .z .f32 (fun _ => ((shL (L ()) (a (), s ())).getD 8 (0, 0)).1) (fun _ => ((shL (L ()) (a (), s ())).getD 8 (0, 0)).2), .z .f32 (fun _ => ((shL (L ()) (a (), s ())).getD 9 (0, 0)).1) (fun _ => ((shL (L ()) (a (), s ())).getD 9 (0, 0)).2), .z .f32 (fun _ => ((shL (L ()) (a (), s ())).getD 10 (0, 0)).1) (fun _ => ((shL (L ()) (a (), s ())).getD 10 (0, 0)).2), .z .f32 (fun _ => ((shL (L ()) (a (), s ())).getD 11 (0, 0)).1) (fun _ => ((shL (L ()) (a (), s ())).getD 11 (0, 0)).2), .z .f32 (fun _ => ((shL (L ()) (a (), s ())).getD 12 (0, 0)).1) (fun _ => ((shL (L ()) (a (), s ())).getD 12 (0, 0)).2), .z .f32 (fun _ => ((shL (L ()) (a (), s ())).getD 13 (0, 0)).1) (fun _ => ((shL (L ()) (a (), s ())).getD 13 (0, 0)).2), .z .f32 (fun _ => ((shL (L ()) (a (), s ())).getD 14 (0, 0)).1) (fun _ => ((shL (L ()) (a (), s ())).getD 14 (0, 0)).2), .z .f32 (fun _ => ((shL (L ()) (a (), s ())).getD 15 (0, 0)).1) (fun _ => ((shL (L ()) (a (), s ())).getD 15 (0, 0)).2)], [some ⟨true, 0, .lit [.sl 1 (.x o) (.x n), .i .i64 (.x fun _ => (shQ (L ()) (a (), s ())).1), .i .u64 (.x fun _ => (shQ (L ()) (a (), s ())).2)]⟩, some ⟨false, 0, .it .u8 L⟩], [fun _ => 0 ≤ a () ∧ a () ≤ 100000, fun _ => o () = 0 ∧ (L ()).length = n () ∧ n () ≤ 4096 ∧ bytesOk (L ()), fun _ => a () ≤ 1000])
  | [.c (.p 0 (.l 0))], [some ⟨true, 0, .lit [.sn, .i .i64 (.x a), .i .u64 (.x s)]⟩] => some (.a [.z .f32 (fun _ => ((shL [] (a (), s ())).getD 0 (0, 0)).1) (fun _ => ((shL [] (a (), s ())).getD 0 (0, 0)).2), .z .f32 (fun _ => ((shL [] (a (), s ())).getD 1 (0, 0)).1) (fun _ => ((shL [] (a (), s ())).getD 1 (0, 0)).2), .z .f32 (fun _ => ((shL [] (a (), s ())).getD 2 (0, 0)).1) (fun _ => ((shL [] (a (), s ())).getD 2 (0, 0)).2), .z .f32 (fun _ => ((shL [] (a (), s ())).getD 3 (0, 0)).1) (fun _ => ((shL [] (a (), s ())).getD 3 (0, 0)).2), .z .f32 (fun _ => ((shL [] (a (), s ())).getD 4 (0, 0)).1) (fun _ => ((shL [] (a (), s ())).getD 4 (0, 0)).2), .z .f32 (fun _ => ((shL [] (a (), s ())).getD 5 (0, 0)).1) (fun _ => ((shL [] (a (), s ())).getD 5 (0, 0)).2), .z .f32 (fun _ => ((shL [] (a (), s ())).getD 6 (0, 0)).1) (fun _ => ((shL [] (a (), s ())).getD 6 (0, 0)).2), .z .f32 (fun _ => ((shL [] (a (), s ())).getD 7 (0, 0)).1) (fun _ => ((shL [] (a (), s ())).getD 7 (0, 0)).2), .z .f32 (fun _ => ((shL [] (a (), s ())).getD 8 (0, 0)).1) (fun _ => ((shL [] (a (), s ())).getD 8 (0, 0)).2), .z .f32 (fun _ => ((shL [] (a (), s ())).getD 9 (0, 0)).1) (fun _ => ((shL [] (a (), s ())).getD 9 (0, 0)).2), .z .f32 (fun _ => ((shL [] (a (), s ())).getD 10 (0, 0)).1) (fun _ => ((shL [] (a (), s ())).getD 10 (0, 0)).2), .z .f32 (fun _ => ((shL [] (a (), s ())).getD 11 (0, 0)).1) (fun _ => ((shL [] (a (), s ())).getD 11 (0, 0)).2), .z .f32 (fun _ => ((shL [] (a (), s ())).getD 12 (0, 0)).1) (fun _ => ((shL [] (a (), s ())).getD 12 (0, 0)).2), .z .f32 (fun _ => ((shL [] (a (), s ())).getD 13 (0, 0)).1) (fun _ => ((shL [] (a (), s ())).getD 13 (0, 0)).2), .z .f32 (fun _ => ((shL [] (a (), s ())).getD 14 (0, 0)).1) (fun _ => ((shL [] (a (), s ())).getD 14 (0, 0)).2), .z .f32 (fun _ => ((shL [] (a (), s ())).getD 15 (0, 0)).1) (fun _ => ((shL [] (a (), s ())).getD 15 (0, 0)).2)], [some ⟨true, 0, .lit [.sn, .i .i64 (.x fun _ => (shQ [] (a (), s ())).1), .i .u64 (.x fun _ => (shQ [] (a (), s ())).2)]⟩], [fun _ => 0 ≤ a () ∧ a () ≤ 100000, fun _ => a () ≤ 1000])
  | _, _ => none
def E99 : Env := fun g => envGetL [(87, ⟨true, s87, none⟩), (122, ⟨false, s122, none⟩), (90, ⟨true, s90, none⟩), (112, ⟨false, s112, none⟩)] g
theorem E99ok : EnvOk Tryz.prog E99 := envOk_cons ok87 (envOk_cons ok122 (envOk_cons ok90 (envOk_cons ok112 (envOk_nil _))))
set_option maxRecDepth 100000 in
set_option maxHeartbeats 4000000 in
theorem ok99 : Ok Tryz.prog 99 (s99) := ok_of_wpaH (E := E99) mixed tts E99ok fn99 fun args H v H' o hs ho => by
  split at hs
  · rename_i o n a s L
    cases hs
    obtain ⟨⟨ha0, ha1⟩, ⟨ho0, hlen, hbig, hby⟩, hx0⟩ := ho.three
    try simp only [Unit.unit] at ha0 ha1 ho0 hlen hbig hx0
    refine ⟨_, HLe.refl _, ?_⟩
    cbv
    have hq0 : qIn 1000 (a ⟨⟩, s ⟨⟩) := ⟨ha0, hx0⟩
    repeat' (refine Ob.mk ?_ ?_; rotate_left; cbv)
    refine loop_rule (α := Unit → Nat) (c := ⟨tt, E99, 2⟩) (fun c => fr 67 [(0, .c (.p 0 (.l 0))), (2, .c (.p 2 (.l 0))), (3, .c (.p 3 (.l 0))), (4, .c (.p 4 (.l 0))), (5, .c (.i .i64 (.x fun _ => (c () : Int))))]) (fun c => [some ⟨true, 0, .lit [.sl 1 (.x o) (.x n), .i .i64 (.x fun _ => ((shI (L ()) (a (), s ()) (c ())).1).1), .i .u64 (.x fun _ => ((shI (L ()) (a (), s ()) (c ())).1).2)]⟩, some ⟨false, 0, .it .u8 L⟩, some ⟨true, 0, .lit [.z .f32 (fun _ => 0) (fun _ => 0), .z .f32 (fun _ => 0) (fun _ => 0), .z .f32 (fun _ => 0) (fun _ => 0), .z .f32 (fun _ => 0) (fun _ => 0), .z .f32 (fun _ => 0) (fun _ => 0), .z .f32 (fun _ => 0) (fun _ => 0), .z .f32 (fun _ => 0) (fun _ => 0), .z .f32 (fun _ => 0) (fun _ => 0), .z .f32 (fun _ => 0) (fun _ => 0), .z .f32 (fun _ => 0) (fun _ => 0), .z .f32 (fun _ => 0) (fun _ => 0), .z .f32 (fun _ => 0) (fun _ => 0), .z .f32 (fun _ => 0) (fun _ => 0), .z .f32 (fun _ => 0) (fun _ => 0), .z .f32 (fun _ => 0) (fun _ => 0), .z .f32 (fun _ => 0) (fun _ => 0)]⟩, some ⟨true, 0, .cx fun _ => (shI (L ()) (a (), s ()) (c ())).2⟩, some ⟨true, 0, .lit [.z .f32 (fun _ => 0) (fun _ => 0), .z .f32 (fun _ => 1120403456) (fun _ => 0), .z .f32 (fun _ => 1120403456) (fun _ => 1117782016), .z .f32 (fun _ => 0) (fun _ => 1117782016)]⟩])
        (fun c => c () ≤ 4) (fun c => 4 - c ()) (fun _ => 5) ?_ ?_
    · refine .mk (fun _ => 0) (Nat.zero_le _) (by decide) ?_
      cbv
      repeat' (refine Ob.mk ?_ ?_; rotate_left)
      all_goals first | exact rfl | exact True.intro | rfl
    · intro c hc
      have hc : c ⟨⟩ ≤ 4 := hc
      have hq1 : qIn 1112 (shI (L ⟨⟩) (a ⟨⟩, s ⟨⟩) (c ⟨⟩)).1 := qIn_le (shI_in hq0 (c ⟨⟩)) (by omega)
      have hls := shI_len (L ⟨⟩) (a ⟨⟩, s ⟨⟩) (c ⟨⟩)
      cbv
      by_cases hc4 : c ⟨⟩ < 4
      · have hci : 0 ≤ ((c ⟨⟩ : Nat) : Int) ∧ ((c ⟨⟩ : Nat) : Int) < ((4 : Nat) : Int) := by omega
        refine Br.t (kj_lt4 hc4) ?_
        cbv
        repeat' (refine Ob.mk ?_ ?_; (focus (first | exact rfl | exact ⟨hq1.1, Int.le_trans hq1.2 (by decide)⟩ | exact Int.le_trans hq1.2 (by decide) | exact ⟨ho0, hlen, hbig, hby⟩ | exact ⟨by trivial, hlen, hbig, hby⟩)); cbv)
        refine loop_rule (α := Unit → Nat) (c := ⟨tt, E99, 2⟩) (fun k => fr 67 [(0, .c (.p 0 (.l 0))), (2, .c (.p 2 (.l 0))), (3, .c (.p 3 (.l 0))), (4, .c (.p 4 (.l 0))), (5, .c (.i .i64 (.x fun _ => (c () : Int)))), (6, Zm (dmM (L ()) (shI (L ()) (a (), s ()) (c ())).1)), (7, .c (.i .i64 (.x fun _ => (k () : Int))))]) (fun k => [some ⟨true, 0, .lit [.sl 1 (.x o) (.x n), .i .i64 (.x fun _ => ((rowI (L ()) (dmM (L ()) (shI (L ()) (a (), s ()) (c ())).1) (c ()) (dmQ (L ()) (shI (L ()) (a (), s ()) (c ())).1) (shI (L ()) (a (), s ()) (c ())).2 (k ())).1).1), .i .u64 (.x fun _ => ((rowI (L ()) (dmM (L ()) (shI (L ()) (a (), s ()) (c ())).1) (c ()) (dmQ (L ()) (shI (L ()) (a (), s ()) (c ())).1) (shI (L ()) (a (), s ()) (c ())).2 (k ())).1).2)]⟩, some ⟨false, 0, .it .u8 L⟩, some ⟨true, 0, .lit [.z .f32 (fun _ => 0) (fun _ => 0), .z .f32 (fun _ => 0) (fun _ => 0), .z .f32 (fun _ => 0) (fun _ => 0), .z .f32 (fun _ => 0) (fun _ => 0), .z .f32 (fun _ => 0) (fun _ => 0), .z .f32 (fun _ => 0) (fun _ => 0), .z .f32 (fun _ => 0) (fun _ => 0), .z .f32 (fun _ => 0) (fun _ => 0), .z .f32 (fun _ => 0) (fun _ => 0), .z .f32 (fun _ => 0) (fun _ => 0), .z .f32 (fun _ => 0) (fun _ => 0), .z .f32 (fun _ => 0) (fun _ => 0), .z .f32 (fun _ => 0) (fun _ => 0), .z .f32 (fun _ => 0) (fun _ => 0), .z .f32 (fun _ => 0) (fun _ => 0), .z .f32 (fun _ => 0) (fun _ => 0)]⟩, some ⟨true, 0, .cx fun _ => (rowI (L ()) (dmM (L ()) (shI (L ()) (a (), s ()) (c ())).1) (c ()) (dmQ (L ()) (shI (L ()) (a (), s ()) (c ())).1) (shI (L ()) (a (), s ()) (c ())).2 (k ())).2⟩, some ⟨true, 0, .lit [.z .f32 (fun _ => 0) (fun _ => 0), .z .f32 (fun _ => 1120403456) (fun _ => 0), .z .f32 (fun _ => 1120403456) (fun _ => 1117782016), .z .f32 (fun _ => 0) (fun _ => 1117782016)]⟩])
            (fun k => k () ≤ 4) (fun k => 4 - k ()) (fun _ => 5) ?_ ?_
        · refine .mk (fun _ => 0) (Nat.zero_le _) (by decide) ?_
          cbv
          repeat' (refine Ob.mk ?_ ?_; rotate_left)
          all_goals first | exact rfl | exact True.intro | rfl
        · intro k hk
          have hk : k ⟨⟩ ≤ 4 := hk
          have hq2 : qIn 1200 (dmQ (L ⟨⟩) (shI (L ⟨⟩) (a ⟨⟩, s ⟨⟩) (c ⟨⟩)).1) := qIn_le (dmQ_in hq1) (by decide)
          have hq3 : qIn 1300 (rowI (L ⟨⟩) (dmM (L ⟨⟩) (shI (L ⟨⟩) (a ⟨⟩, s ⟨⟩) (c ⟨⟩)).1) (c ⟨⟩) (dmQ (L ⟨⟩) (shI (L ⟨⟩) (a ⟨⟩, s ⟨⟩) (c ⟨⟩)).1) (shI (L ⟨⟩) (a ⟨⟩, s ⟨⟩) (c ⟨⟩)).2 (k ⟨⟩)).1 := qIn_le (rowI_in hq2 (k ⟨⟩)) (by omega)
          have hlr : (rowI (L ⟨⟩) (dmM (L ⟨⟩) (shI (L ⟨⟩) (a ⟨⟩, s ⟨⟩) (c ⟨⟩)).1) (c ⟨⟩) (dmQ (L ⟨⟩) (shI (L ⟨⟩) (a ⟨⟩, s ⟨⟩) (c ⟨⟩)).1) (shI (L ⟨⟩) (a ⟨⟩, s ⟨⟩) (c ⟨⟩)).2 (k ⟨⟩)).2.length = 16 := by rw [rowI_len, hls]
          cbv
          by_cases hk4 : k ⟨⟩ < 4
          · have hki : 0 ≤ ((k ⟨⟩ : Nat) : Int) ∧ ((k ⟨⟩ : Nat) : Int) < ((4 : Nat) : Int) := by omega
            refine Br.t (kj_lt4 hk4) ?_
            cbv
            repeat' first
              | (refine Ob.mk ?_ ?_; (focus (first | exact hki | exact hci | exact rfl | (dsimp only [IE.val, NE.val, IE.nat, forced, List.length_cons, List.length_nil, Int.toNat_natCast]; simp only [List.length_set, Int.toNat_natCast, hlr]; omega) | (dsimp only [IE.val, NE.val, IE.nat, forced, List.length_cons, List.length_nil, Int.toNat_natCast]; omega) | exact hci | exact hki)); cbv)
              | (refine Lex.pull [0, 1, 2, 3, 4, 5, 6] (by decide +kernel) ?_; cbv)
            by_cases hc0 : 0 < c ⟨⟩
            · refine Br.t (ltB_iff.2 (Int.natCast_pos.2 hc0)) ?_
              cbv
              repeat' first
                | (refine Ob.mk ?_ ?_; (focus (first | exact hki | exact hci | exact rfl | exact ⟨hq3.1, Int.le_trans hq3.2 (by decide)⟩ | exact Int.le_trans hq3.2 (by decide) | exact ⟨ho0, hlen, hbig, hby⟩ | exact ⟨by trivial, hlen, hbig, hby⟩ | (dsimp only [IE.val, NE.val, IE.nat, forced, List.length_cons, List.length_nil, Int.toNat_natCast]; simp only [List.length_set, Int.toNat_natCast, hlr]; omega) | (dsimp only [IE.val, NE.val, IE.nat, forced, List.length_cons, List.length_nil, Int.toNat_natCast]; omega) | exact hci | exact hki)); cbv)
                | (refine Lex.pull [0, 1, 2, 3, 4, 5, 6, 7, 8] (by decide +kernel) ?_; cbv)
              refine Br.mk (fun hy => ?_) (fun hy => ?_)
              · have hy : (pkV (L ⟨⟩) 4 (rowI (L ⟨⟩) (dmM (L ⟨⟩) (shI (L ⟨⟩) (a ⟨⟩, s ⟨⟩) (c ⟨⟩)).1) (c ⟨⟩) (dmQ (L ⟨⟩) (shI (L ⟨⟩) (a ⟨⟩, s ⟨⟩) (c ⟨⟩)).1) (shI (L ⟨⟩) (a ⟨⟩, s ⟨⟩) (c ⟨⟩)).2 (k ⟨⟩)).1 == 0) = true := hy
                have hrow : (rowI (L ⟨⟩) (dmM (L ⟨⟩) (shI (L ⟨⟩) (a ⟨⟩, s ⟨⟩) (c ⟨⟩)).1) (c ⟨⟩) (dmQ (L ⟨⟩) (shI (L ⟨⟩) (a ⟨⟩, s ⟨⟩) (c ⟨⟩)).1) (shI (L ⟨⟩) (a ⟨⟩, s ⟨⟩) (c ⟨⟩)).2 (k ⟨⟩ + 1)).2 = (rowI (L ⟨⟩) (dmM (L ⟨⟩) (shI (L ⟨⟩) (a ⟨⟩, s ⟨⟩) (c ⟨⟩)).1) (c ⟨⟩) (dmQ (L ⟨⟩) (shI (L ⟨⟩) (a ⟨⟩, s ⟨⟩) (c ⟨⟩)).1) (shI (L ⟨⟩) (a ⟨⟩, s ⟨⟩) (c ⟨⟩)).2 (k ⟨⟩)).2.set (c ⟨⟩ * 4 + k ⟨⟩) (dmM (L ⟨⟩) (pkQ (L ⟨⟩) 4 (rowI (L ⟨⟩) (dmM (L ⟨⟩) (shI (L ⟨⟩) (a ⟨⟩, s ⟨⟩) (c ⟨⟩)).1) (c ⟨⟩) (dmQ (L ⟨⟩) (shI (L ⟨⟩) (a ⟨⟩, s ⟨⟩) (c ⟨⟩)).1) (shI (L ⟨⟩) (a ⟨⟩, s ⟨⟩) (c ⟨⟩)).2 (k ⟨⟩)).1)) := by
                  show (rowI (L ⟨⟩) (dmM (L ⟨⟩) (shI (L ⟨⟩) (a ⟨⟩, s ⟨⟩) (c ⟨⟩)).1) (c ⟨⟩) (dmQ (L ⟨⟩) (shI (L ⟨⟩) (a ⟨⟩, s ⟨⟩) (c ⟨⟩)).1) (shI (L ⟨⟩) (a ⟨⟩, s ⟨⟩) (c ⟨⟩)).2 (k ⟨⟩)).2.set (c ⟨⟩ * 4 + k ⟨⟩) (cellV (L ⟨⟩) (rowI (L ⟨⟩) (dmM (L ⟨⟩) (shI (L ⟨⟩) (a ⟨⟩, s ⟨⟩) (c ⟨⟩)).1) (c ⟨⟩) (dmQ (L ⟨⟩) (shI (L ⟨⟩) (a ⟨⟩, s ⟨⟩) (c ⟨⟩)).1) (shI (L ⟨⟩) (a ⟨⟩, s ⟨⟩) (c ⟨⟩)).2 (k ⟨⟩)).1 (cellB (dmM (L ⟨⟩) (shI (L ⟨⟩) (a ⟨⟩, s ⟨⟩) (c ⟨⟩)).1) (c ⟨⟩) (k ⟨⟩))) = _
                  rw [show cellV (L ⟨⟩) (rowI (L ⟨⟩) (dmM (L ⟨⟩) (shI (L ⟨⟩) (a ⟨⟩, s ⟨⟩) (c ⟨⟩)).1) (c ⟨⟩) (dmQ (L ⟨⟩) (shI (L ⟨⟩) (a ⟨⟩, s ⟨⟩) (c ⟨⟩)).1) (shI (L ⟨⟩) (a ⟨⟩, s ⟨⟩) (c ⟨⟩)).2 (k ⟨⟩)).1 (cellB (dmM (L ⟨⟩) (shI (L ⟨⟩) (a ⟨⟩, s ⟨⟩) (c ⟨⟩)).1) (c ⟨⟩) (k ⟨⟩)) = dmM (L ⟨⟩) (pkQ (L ⟨⟩) 4 (rowI (L ⟨⟩) (dmM (L ⟨⟩) (shI (L ⟨⟩) (a ⟨⟩, s ⟨⟩) (c ⟨⟩)).1) (c ⟨⟩) (dmQ (L ⟨⟩) (shI (L ⟨⟩) (a ⟨⟩, s ⟨⟩) (c ⟨⟩)).1) (shI (L ⟨⟩) (a ⟨⟩, s ⟨⟩) (c ⟨⟩)).2 (k ⟨⟩)).1) from by unfold cellV; exact if_pos hy]
                have hqn : (rowI (L ⟨⟩) (dmM (L ⟨⟩) (shI (L ⟨⟩) (a ⟨⟩, s ⟨⟩) (c ⟨⟩)).1) (c ⟨⟩) (dmQ (L ⟨⟩) (shI (L ⟨⟩) (a ⟨⟩, s ⟨⟩) (c ⟨⟩)).1) (shI (L ⟨⟩) (a ⟨⟩, s ⟨⟩) (c ⟨⟩)).2 (k ⟨⟩ + 1)).1 = dmQ (L ⟨⟩) (pkQ (L ⟨⟩) 4 (rowI (L ⟨⟩) (dmM (L ⟨⟩) (shI (L ⟨⟩) (a ⟨⟩, s ⟨⟩) (c ⟨⟩)).1) (c ⟨⟩) (dmQ (L ⟨⟩) (shI (L ⟨⟩) (a ⟨⟩, s ⟨⟩) (c ⟨⟩)).1) (shI (L ⟨⟩) (a ⟨⟩, s ⟨⟩) (c ⟨⟩)).2 (k ⟨⟩)).1) := if_pos hy
                have hq5 : qIn 1900 (pkQ (L ⟨⟩) 4 (rowI (L ⟨⟩) (dmM (L ⟨⟩) (shI (L ⟨⟩) (a ⟨⟩, s ⟨⟩) (c ⟨⟩)).1) (c ⟨⟩) (dmQ (L ⟨⟩) (shI (L ⟨⟩) (a ⟨⟩, s ⟨⟩) (c ⟨⟩)).1) (shI (L ⟨⟩) (a ⟨⟩, s ⟨⟩) (c ⟨⟩)).2 (k ⟨⟩)).1) := qIn_le (qIn_pk hq3) (by decide)
                cbv
                repeat' first
                  | (refine Ob.mk ?_ ?_; (focus (first | exact rfl | exact ⟨hq3.1, Int.le_trans hq3.2 (by decide)⟩ | exact Int.le_trans hq3.2 (by decide) | exact ⟨hq5.1, Int.le_trans hq5.2 (by decide)⟩ | exact Int.le_trans hq5.2 (by decide) | exact ⟨ho0, hlen, hbig, hby⟩ | exact ⟨by trivial, hlen, hbig, hby⟩ | (dsimp only [IE.val, NE.val, IE.nat, forced, List.length_cons, List.length_nil, Int.toNat_natCast]; simp only [List.length_set, Int.toNat_natCast, hlr]; omega) | (dsimp only [IE.val, NE.val, IE.nat, forced, List.length_cons, List.length_nil, Int.toNat_natCast]; omega) | exact hci | exact hki | exact wrap64_nat (by omega) | exact (congrArg Prod.fst hqn).symm | exact (congrArg Prod.snd hqn).symm | (dsimp only [IE.val, NE.val, IE.nat, forced]; simp only [Int.toNat_natCast, Nat.zero_add, Nat.mul_one, List.set_set]; exact hrow.symm))); cbv)
                  | (refine Lex.pull [0, 1, 2, 4, 5] (by decide +kernel) ?_; cbv)
                  | (refine Lex.pull [0, 1, 2] (by decide +kernel) ?_; cbv)
                  | (refine Lex.tail 3 (by decide +kernel) ?_; cbv)
                  | (refine Both.mk ?_ ?_ <;> cbv)
                  | (refine Next.mk (fun _ => k () + 1) ?_ ?_ ?_)
                all_goals try (first | exact (congrArg Prod.fst hqn).symm | exact (congrArg Prod.snd hqn).symm)
                all_goals try (dsimp only [IE.val, NE.val, IE.nat, forced]; simp only [Int.toNat_natCast, Nat.zero_add, Nat.mul_one, List.set_set]; exact hrow.symm)
                all_goals (try simp only [Unit.unit, Int.ofNat_lt, Int.ofNat_le, BE.val, IE.val, NE.val, ltB_iff, ltB_no, leB_iff, leB_no, Int.toNat_natCast, Nat.zero_add, Nat.add_zero, Nat.mul_one, forced, beq_iff_eq, beq_eq_false_iff_ne, bne_iff_ne, bne_eq_false_iff_eq] at *)
                all_goals first | with_reducible rfl | exact True.intro | omega | exact wrap64_nat (by omega) | rfl | trace_state
              · have hy : (pkV (L ⟨⟩) 4 (rowI (L ⟨⟩) (dmM (L ⟨⟩) (shI (L ⟨⟩) (a ⟨⟩, s ⟨⟩) (c ⟨⟩)).1) (c ⟨⟩) (dmQ (L ⟨⟩) (shI (L ⟨⟩) (a ⟨⟩, s ⟨⟩) (c ⟨⟩)).1) (shI (L ⟨⟩) (a ⟨⟩, s ⟨⟩) (c ⟨⟩)).2 (k ⟨⟩)).1 == 0) = false := hy
                have hrow : (rowI (L ⟨⟩) (dmM (L ⟨⟩) (shI (L ⟨⟩) (a ⟨⟩, s ⟨⟩) (c ⟨⟩)).1) (c ⟨⟩) (dmQ (L ⟨⟩) (shI (L ⟨⟩) (a ⟨⟩, s ⟨⟩) (c ⟨⟩)).1) (shI (L ⟨⟩) (a ⟨⟩, s ⟨⟩) (c ⟨⟩)).2 (k ⟨⟩ + 1)).2 = (rowI (L ⟨⟩) (dmM (L ⟨⟩) (shI (L ⟨⟩) (a ⟨⟩, s ⟨⟩) (c ⟨⟩)).1) (c ⟨⟩) (dmQ (L ⟨⟩) (shI (L ⟨⟩) (a ⟨⟩, s ⟨⟩) (c ⟨⟩)).1) (shI (L ⟨⟩) (a ⟨⟩, s ⟨⟩) (c ⟨⟩)).2 (k ⟨⟩)).2.set (c ⟨⟩ * 4 + k ⟨⟩) (plusM (cnr (k ⟨⟩)) (dmM (L ⟨⟩) (shI (L ⟨⟩) (a ⟨⟩, s ⟨⟩) (c ⟨⟩)).1)) := by
                  show (rowI (L ⟨⟩) (dmM (L ⟨⟩) (shI (L ⟨⟩) (a ⟨⟩, s ⟨⟩) (c ⟨⟩)).1) (c ⟨⟩) (dmQ (L ⟨⟩) (shI (L ⟨⟩) (a ⟨⟩, s ⟨⟩) (c ⟨⟩)).1) (shI (L ⟨⟩) (a ⟨⟩, s ⟨⟩) (c ⟨⟩)).2 (k ⟨⟩)).2.set (c ⟨⟩ * 4 + k ⟨⟩) (cellV (L ⟨⟩) (rowI (L ⟨⟩) (dmM (L ⟨⟩) (shI (L ⟨⟩) (a ⟨⟩, s ⟨⟩) (c ⟨⟩)).1) (c ⟨⟩) (dmQ (L ⟨⟩) (shI (L ⟨⟩) (a ⟨⟩, s ⟨⟩) (c ⟨⟩)).1) (shI (L ⟨⟩) (a ⟨⟩, s ⟨⟩) (c ⟨⟩)).2 (k ⟨⟩)).1 (cellB (dmM (L ⟨⟩) (shI (L ⟨⟩) (a ⟨⟩, s ⟨⟩) (c ⟨⟩)).1) (c ⟨⟩) (k ⟨⟩))) = _
                  rw [show cellV (L ⟨⟩) (rowI (L ⟨⟩) (dmM (L ⟨⟩) (shI (L ⟨⟩) (a ⟨⟩, s ⟨⟩) (c ⟨⟩)).1) (c ⟨⟩) (dmQ (L ⟨⟩) (shI (L ⟨⟩) (a ⟨⟩, s ⟨⟩) (c ⟨⟩)).1) (shI (L ⟨⟩) (a ⟨⟩, s ⟨⟩) (c ⟨⟩)).2 (k ⟨⟩)).1 (cellB (dmM (L ⟨⟩) (shI (L ⟨⟩) (a ⟨⟩, s ⟨⟩) (c ⟨⟩)).1) (c ⟨⟩) (k ⟨⟩)) = plusM (cnr (k ⟨⟩)) (dmM (L ⟨⟩) (shI (L ⟨⟩) (a ⟨⟩, s ⟨⟩) (c ⟨⟩)).1) from by unfold cellV; rw [if_neg (by rw [hy]; decide)]; exact if_pos hc0]
                have hqn : (rowI (L ⟨⟩) (dmM (L ⟨⟩) (shI (L ⟨⟩) (a ⟨⟩, s ⟨⟩) (c ⟨⟩)).1) (c ⟨⟩) (dmQ (L ⟨⟩) (shI (L ⟨⟩) (a ⟨⟩, s ⟨⟩) (c ⟨⟩)).1) (shI (L ⟨⟩) (a ⟨⟩, s ⟨⟩) (c ⟨⟩)).2 (k ⟨⟩ + 1)).1 = pkQ (L ⟨⟩) 4 (rowI (L ⟨⟩) (dmM (L ⟨⟩) (shI (L ⟨⟩) (a ⟨⟩, s ⟨⟩) (c ⟨⟩)).1) (c ⟨⟩) (dmQ (L ⟨⟩) (shI (L ⟨⟩) (a ⟨⟩, s ⟨⟩) (c ⟨⟩)).1) (shI (L ⟨⟩) (a ⟨⟩, s ⟨⟩) (c ⟨⟩)).2 (k ⟨⟩)).1 := if_neg (by rw [hy]; decide)
                cbv
                repeat' first
                  | (refine Ob.mk ?_ ?_; (focus (first | exact rfl | exact ⟨hq3.1, Int.le_trans hq3.2 (by decide)⟩ | exact Int.le_trans hq3.2 (by decide) | exact ⟨ho0, hlen, hbig, hby⟩ | exact ⟨by trivial, hlen, hbig, hby⟩ | (dsimp only [IE.val, NE.val, IE.nat, forced, List.length_cons, List.length_nil, Int.toNat_natCast]; simp only [List.length_set, Int.toNat_natCast, hlr]; omega) | (dsimp only [IE.val, NE.val, IE.nat, forced, List.length_cons, List.length_nil, Int.toNat_natCast]; omega) | exact hci | exact hki | exact wrap64_nat (by omega) | exact (congrArg Prod.fst hqn).symm | exact (congrArg Prod.snd hqn).symm | (dsimp only [IE.val, NE.val, IE.nat, forced]; simp only [Int.toNat_natCast, Nat.zero_add, Nat.mul_one, List.set_set]; exact hrow.symm))); cbv)
                  | (refine Lex.pull [0, 1, 2, 4, 5] (by decide +kernel) ?_; cbv)
                  | (refine Lex.pull [0, 1, 2] (by decide +kernel) ?_; cbv)
                  | (refine Lex.tail 3 (by decide +kernel) ?_; cbv)
                  | (refine Both.mk ?_ ?_ <;> cbv)
                  | (refine Next.mk (fun _ => k () + 1) ?_ ?_ ?_)
                all_goals try (first | exact (congrArg Prod.fst hqn).symm | exact (congrArg Prod.snd hqn).symm)
                all_goals try (dsimp only [IE.val, NE.val, IE.nat, forced]; simp only [Int.toNat_natCast, Nat.zero_add, Nat.mul_one, List.set_set]; exact hrow.symm)
                all_goals (try simp only [Unit.unit, Int.ofNat_lt, Int.ofNat_le, BE.val, IE.val, NE.val, ltB_iff, ltB_no, leB_iff, leB_no, Int.toNat_natCast, Nat.zero_add, Nat.add_zero, Nat.mul_one, forced, beq_iff_eq, beq_eq_false_iff_ne, bne_iff_ne, bne_eq_false_iff_eq] at *)
                all_goals first | with_reducible rfl | exact True.intro | omega | exact wrap64_nat (by omega) | rfl | trace_state
            · refine Br.f (ltB_no.2 (fun h => hc0 (Int.natCast_pos.1 h))) ?_
              cbv
              repeat' first
                | (refine Ob.mk ?_ ?_; (focus (first | exact hki | exact hci | exact rfl | exact ⟨hq3.1, Int.le_trans hq3.2 (by decide)⟩ | exact Int.le_trans hq3.2 (by decide) | exact ⟨ho0, hlen, hbig, hby⟩ | exact ⟨by trivial, hlen, hbig, hby⟩ | (dsimp only [IE.val, NE.val, IE.nat, forced, List.length_cons, List.length_nil, Int.toNat_natCast]; simp only [List.length_set, Int.toNat_natCast, hlr]; omega) | (dsimp only [IE.val, NE.val, IE.nat, forced, List.length_cons, List.length_nil, Int.toNat_natCast]; omega) | exact hci | exact hki)); cbv)
              refine Br.mk (fun hy => ?_) (fun hy => ?_)
              · have hy : (pkV (L ⟨⟩) 4 (rowI (L ⟨⟩) (dmM (L ⟨⟩) (shI (L ⟨⟩) (a ⟨⟩, s ⟨⟩) (c ⟨⟩)).1) (c ⟨⟩) (dmQ (L ⟨⟩) (shI (L ⟨⟩) (a ⟨⟩, s ⟨⟩) (c ⟨⟩)).1) (shI (L ⟨⟩) (a ⟨⟩, s ⟨⟩) (c ⟨⟩)).2 (k ⟨⟩)).1 == 0) = true := hy
                have hrow : (rowI (L ⟨⟩) (dmM (L ⟨⟩) (shI (L ⟨⟩) (a ⟨⟩, s ⟨⟩) (c ⟨⟩)).1) (c ⟨⟩) (dmQ (L ⟨⟩) (shI (L ⟨⟩) (a ⟨⟩, s ⟨⟩) (c ⟨⟩)).1) (shI (L ⟨⟩) (a ⟨⟩, s ⟨⟩) (c ⟨⟩)).2 (k ⟨⟩ + 1)).2 = (rowI (L ⟨⟩) (dmM (L ⟨⟩) (shI (L ⟨⟩) (a ⟨⟩, s ⟨⟩) (c ⟨⟩)).1) (c ⟨⟩) (dmQ (L ⟨⟩) (shI (L ⟨⟩) (a ⟨⟩, s ⟨⟩) (c ⟨⟩)).1) (shI (L ⟨⟩) (a ⟨⟩, s ⟨⟩) (c ⟨⟩)).2 (k ⟨⟩)).2.set (c ⟨⟩ * 4 + k ⟨⟩) (dmM (L ⟨⟩) (pkQ (L ⟨⟩) 4 (rowI (L ⟨⟩) (dmM (L ⟨⟩) (shI (L ⟨⟩) (a ⟨⟩, s ⟨⟩) (c ⟨⟩)).1) (c ⟨⟩) (dmQ (L ⟨⟩) (shI (L ⟨⟩) (a ⟨⟩, s ⟨⟩) (c ⟨⟩)).1) (shI (L ⟨⟩) (a ⟨⟩, s ⟨⟩) (c ⟨⟩)).2 (k ⟨⟩)).1)) := by
                  show (rowI (L ⟨⟩) (dmM (L ⟨⟩) (shI (L ⟨⟩) (a ⟨⟩, s ⟨⟩) (c ⟨⟩)).1) (c ⟨⟩) (dmQ (L ⟨⟩) (shI (L ⟨⟩) (a ⟨⟩, s ⟨⟩) (c ⟨⟩)).1) (shI (L ⟨⟩) (a ⟨⟩, s ⟨⟩) (c ⟨⟩)).2 (k ⟨⟩)).2.set (c ⟨⟩ * 4 + k ⟨⟩) (cellV (L ⟨⟩) (rowI (L ⟨⟩) (dmM (L ⟨⟩) (shI (L ⟨⟩) (a ⟨⟩, s ⟨⟩) (c ⟨⟩)).1) (c ⟨⟩) (dmQ (L ⟨⟩) (shI (L ⟨⟩) (a ⟨⟩, s ⟨⟩) (c ⟨⟩)).1) (shI (L ⟨⟩) (a ⟨⟩, s ⟨⟩) (c ⟨⟩)).2 (k ⟨⟩)).1 (cellB (dmM (L ⟨⟩) (shI (L ⟨⟩) (a ⟨⟩, s ⟨⟩) (c ⟨⟩)).1) (c ⟨⟩) (k ⟨⟩))) = _
                  rw [show cellV (L ⟨⟩) (rowI (L ⟨⟩) (dmM (L ⟨⟩) (shI (L ⟨⟩) (a ⟨⟩, s ⟨⟩) (c ⟨⟩)).1) (c ⟨⟩) (dmQ (L ⟨⟩) (shI (L ⟨⟩) (a ⟨⟩, s ⟨⟩) (c ⟨⟩)).1) (shI (L ⟨⟩) (a ⟨⟩, s ⟨⟩) (c ⟨⟩)).2 (k ⟨⟩)).1 (cellB (dmM (L ⟨⟩) (shI (L ⟨⟩) (a ⟨⟩, s ⟨⟩) (c ⟨⟩)).1) (c ⟨⟩) (k ⟨⟩)) = dmM (L ⟨⟩) (pkQ (L ⟨⟩) 4 (rowI (L ⟨⟩) (dmM (L ⟨⟩) (shI (L ⟨⟩) (a ⟨⟩, s ⟨⟩) (c ⟨⟩)).1) (c ⟨⟩) (dmQ (L ⟨⟩) (shI (L ⟨⟩) (a ⟨⟩, s ⟨⟩) (c ⟨⟩)).1) (shI (L ⟨⟩) (a ⟨⟩, s ⟨⟩) (c ⟨⟩)).2 (k ⟨⟩)).1) from by unfold cellV; exact if_pos hy]
                have hqn : (rowI (L ⟨⟩) (dmM (L ⟨⟩) (shI (L ⟨⟩) (a ⟨⟩, s ⟨⟩) (c ⟨⟩)).1) (c ⟨⟩) (dmQ (L ⟨⟩) (shI (L ⟨⟩) (a ⟨⟩, s ⟨⟩) (c ⟨⟩)).1) (shI (L ⟨⟩) (a ⟨⟩, s ⟨⟩) (c ⟨⟩)).2 (k ⟨⟩ + 1)).1 = dmQ (L ⟨⟩) (pkQ (L ⟨⟩) 4 (rowI (L ⟨⟩) (dmM (L ⟨⟩) (shI (L ⟨⟩) (a ⟨⟩, s ⟨⟩) (c ⟨⟩)).1) (c ⟨⟩) (dmQ (L ⟨⟩) (shI (L ⟨⟩) (a ⟨⟩, s ⟨⟩) (c ⟨⟩)).1) (shI (L ⟨⟩) (a ⟨⟩, s ⟨⟩) (c ⟨⟩)).2 (k ⟨⟩)).1) := if_pos hy
                have hq5 : qIn 1900 (pkQ (L ⟨⟩) 4 (rowI (L ⟨⟩) (dmM (L ⟨⟩) (shI (L ⟨⟩) (a ⟨⟩, s ⟨⟩) (c ⟨⟩)).1) (c ⟨⟩) (dmQ (L ⟨⟩) (shI (L ⟨⟩) (a ⟨⟩, s ⟨⟩) (c ⟨⟩)).1) (shI (L ⟨⟩) (a ⟨⟩, s ⟨⟩) (c ⟨⟩)).2 (k ⟨⟩)).1) := qIn_le (qIn_pk hq3) (by decide)
                cbv
                repeat' first
                  | (refine Ob.mk ?_ ?_; (focus (first | exact rfl | exact ⟨hq3.1, Int.le_trans hq3.2 (by decide)⟩ | exact Int.le_trans hq3.2 (by decide) | exact ⟨hq5.1, Int.le_trans hq5.2 (by decide)⟩ | exact Int.le_trans hq5.2 (by decide) | exact ⟨ho0, hlen, hbig, hby⟩ | exact ⟨by trivial, hlen, hbig, hby⟩ | (dsimp only [IE.val, NE.val, IE.nat, forced, List.length_cons, List.length_nil, Int.toNat_natCast]; simp only [List.length_set, Int.toNat_natCast, hlr]; omega) | (dsimp only [IE.val, NE.val, IE.nat, forced, List.length_cons, List.length_nil, Int.toNat_natCast]; omega) | exact hci | exact hki | exact wrap64_nat (by omega) | exact (congrArg Prod.fst hqn).symm | exact (congrArg Prod.snd hqn).symm | (dsimp only [IE.val, NE.val, IE.nat, forced]; simp only [Int.toNat_natCast, Nat.zero_add, Nat.mul_one, List.set_set]; exact hrow.symm))); cbv)
                  | (refine Lex.pull [0, 1, 2, 4, 5] (by decide +kernel) ?_; cbv)
                  | (refine Lex.pull [0, 1, 2] (by decide +kernel) ?_; cbv)
                  | (refine Lex.tail 3 (by decide +kernel) ?_; cbv)
                  | (refine Both.mk ?_ ?_ <;> cbv)
                  | (refine Next.mk (fun _ => k () + 1) ?_ ?_ ?_)
                all_goals try (first | exact (congrArg Prod.fst hqn).symm | exact (congrArg Prod.snd hqn).symm)
                all_goals try (dsimp only [IE.val, NE.val, IE.nat, forced]; simp only [Int.toNat_natCast, Nat.zero_add, Nat.mul_one, List.set_set]; exact hrow.symm)
                all_goals (try simp only [Unit.unit, Int.ofNat_lt, Int.ofNat_le, BE.val, IE.val, NE.val, ltB_iff, ltB_no, leB_iff, leB_no, Int.toNat_natCast, Nat.zero_add, Nat.add_zero, Nat.mul_one, forced, beq_iff_eq, beq_eq_false_iff_ne, bne_iff_ne, bne_eq_false_iff_eq] at *)
                all_goals first | with_reducible rfl | exact True.intro | omega | exact wrap64_nat (by omega) | rfl | trace_state
              · have hy : (pkV (L ⟨⟩) 4 (rowI (L ⟨⟩) (dmM (L ⟨⟩) (shI (L ⟨⟩) (a ⟨⟩, s ⟨⟩) (c ⟨⟩)).1) (c ⟨⟩) (dmQ (L ⟨⟩) (shI (L ⟨⟩) (a ⟨⟩, s ⟨⟩) (c ⟨⟩)).1) (shI (L ⟨⟩) (a ⟨⟩, s ⟨⟩) (c ⟨⟩)).2 (k ⟨⟩)).1 == 0) = false := hy
                have hrow : (rowI (L ⟨⟩) (dmM (L ⟨⟩) (shI (L ⟨⟩) (a ⟨⟩, s ⟨⟩) (c ⟨⟩)).1) (c ⟨⟩) (dmQ (L ⟨⟩) (shI (L ⟨⟩) (a ⟨⟩, s ⟨⟩) (c ⟨⟩)).1) (shI (L ⟨⟩) (a ⟨⟩, s ⟨⟩) (c ⟨⟩)).2 (k ⟨⟩ + 1)).2 = (rowI (L ⟨⟩) (dmM (L ⟨⟩) (shI (L ⟨⟩) (a ⟨⟩, s ⟨⟩) (c ⟨⟩)).1) (c ⟨⟩) (dmQ (L ⟨⟩) (shI (L ⟨⟩) (a ⟨⟩, s ⟨⟩) (c ⟨⟩)).1) (shI (L ⟨⟩) (a ⟨⟩, s ⟨⟩) (c ⟨⟩)).2 (k ⟨⟩)).2.set (c ⟨⟩ * 4 + k ⟨⟩) (cnr (k ⟨⟩)) := by
                  show (rowI (L ⟨⟩) (dmM (L ⟨⟩) (shI (L ⟨⟩) (a ⟨⟩, s ⟨⟩) (c ⟨⟩)).1) (c ⟨⟩) (dmQ (L ⟨⟩) (shI (L ⟨⟩) (a ⟨⟩, s ⟨⟩) (c ⟨⟩)).1) (shI (L ⟨⟩) (a ⟨⟩, s ⟨⟩) (c ⟨⟩)).2 (k ⟨⟩)).2.set (c ⟨⟩ * 4 + k ⟨⟩) (cellV (L ⟨⟩) (rowI (L ⟨⟩) (dmM (L ⟨⟩) (shI (L ⟨⟩) (a ⟨⟩, s ⟨⟩) (c ⟨⟩)).1) (c ⟨⟩) (dmQ (L ⟨⟩) (shI (L ⟨⟩) (a ⟨⟩, s ⟨⟩) (c ⟨⟩)).1) (shI (L ⟨⟩) (a ⟨⟩, s ⟨⟩) (c ⟨⟩)).2 (k ⟨⟩)).1 (cellB (dmM (L ⟨⟩) (shI (L ⟨⟩) (a ⟨⟩, s ⟨⟩) (c ⟨⟩)).1) (c ⟨⟩) (k ⟨⟩))) = _
                  rw [show cellV (L ⟨⟩) (rowI (L ⟨⟩) (dmM (L ⟨⟩) (shI (L ⟨⟩) (a ⟨⟩, s ⟨⟩) (c ⟨⟩)).1) (c ⟨⟩) (dmQ (L ⟨⟩) (shI (L ⟨⟩) (a ⟨⟩, s ⟨⟩) (c ⟨⟩)).1) (shI (L ⟨⟩) (a ⟨⟩, s ⟨⟩) (c ⟨⟩)).2 (k ⟨⟩)).1 (cellB (dmM (L ⟨⟩) (shI (L ⟨⟩) (a ⟨⟩, s ⟨⟩) (c ⟨⟩)).1) (c ⟨⟩) (k ⟨⟩)) = cnr (k ⟨⟩) from by unfold cellV; rw [if_neg (by rw [hy]; decide)]; exact if_neg hc0]
                have hqn : (rowI (L ⟨⟩) (dmM (L ⟨⟩) (shI (L ⟨⟩) (a ⟨⟩, s ⟨⟩) (c ⟨⟩)).1) (c ⟨⟩) (dmQ (L ⟨⟩) (shI (L ⟨⟩) (a ⟨⟩, s ⟨⟩) (c ⟨⟩)).1) (shI (L ⟨⟩) (a ⟨⟩, s ⟨⟩) (c ⟨⟩)).2 (k ⟨⟩ + 1)).1 = pkQ (L ⟨⟩) 4 (rowI (L ⟨⟩) (dmM (L ⟨⟩) (shI (L ⟨⟩) (a ⟨⟩, s ⟨⟩) (c ⟨⟩)).1) (c ⟨⟩) (dmQ (L ⟨⟩) (shI (L ⟨⟩) (a ⟨⟩, s ⟨⟩) (c ⟨⟩)).1) (shI (L ⟨⟩) (a ⟨⟩, s ⟨⟩) (c ⟨⟩)).2 (k ⟨⟩)).1 := if_neg (by rw [hy]; decide)
                cbv
                repeat' first
                  | (refine Ob.mk ?_ ?_; (focus (first | exact rfl | exact ⟨hq3.1, Int.le_trans hq3.2 (by decide)⟩ | exact Int.le_trans hq3.2 (by decide) | exact ⟨ho0, hlen, hbig, hby⟩ | exact ⟨by trivial, hlen, hbig, hby⟩ | (dsimp only [IE.val, NE.val, IE.nat, forced, List.length_cons, List.length_nil, Int.toNat_natCast]; simp only [List.length_set, Int.toNat_natCast, hlr]; omega) | (dsimp only [IE.val, NE.val, IE.nat, forced, List.length_cons, List.length_nil, Int.toNat_natCast]; omega) | exact hci | exact hki | exact wrap64_nat (by omega) | exact (congrArg Prod.fst hqn).symm | exact (congrArg Prod.snd hqn).symm | (dsimp only [IE.val, NE.val, IE.nat, forced]; simp only [Int.toNat_natCast, Nat.zero_add, Nat.mul_one, List.set_set]; exact hrow.symm))); cbv)
                  | (refine Lex.pull [0, 1, 2, 4, 5] (by decide +kernel) ?_; cbv)
                  | (refine Lex.pull [0, 1, 2] (by decide +kernel) ?_; cbv)
                  | (refine Lex.tail 3 (by decide +kernel) ?_; cbv)
                  | (refine Both.mk ?_ ?_ <;> cbv)
                  | (refine Next.mk (fun _ => k () + 1) ?_ ?_ ?_)
                all_goals try (first | exact (congrArg Prod.fst hqn).symm | exact (congrArg Prod.snd hqn).symm)
                all_goals try (dsimp only [IE.val, NE.val, IE.nat, forced]; simp only [Int.toNat_natCast, Nat.zero_add, Nat.mul_one, List.set_set]; exact hrow.symm)
                all_goals (try simp only [Unit.unit, Int.ofNat_lt, Int.ofNat_le, BE.val, IE.val, NE.val, ltB_iff, ltB_no, leB_iff, leB_no, Int.toNat_natCast, Nat.zero_add, Nat.add_zero, Nat.mul_one, forced, beq_iff_eq, beq_eq_false_iff_ne, bne_iff_ne, bne_eq_false_iff_eq] at *)
                all_goals first | with_reducible rfl | exact True.intro | omega | exact wrap64_nat (by omega) | rfl | trace_state
          · have hk5 : k ⟨⟩ = 4 := by omega
            refine Br.f (kj_ge4 hk4) ?_
            cbv
            have hend : (rowI (L ⟨⟩) (dmM (L ⟨⟩) (shI (L ⟨⟩) (a ⟨⟩, s ⟨⟩) (c ⟨⟩)).1) (c ⟨⟩) (dmQ (L ⟨⟩) (shI (L ⟨⟩) (a ⟨⟩, s ⟨⟩) (c ⟨⟩)).1) (shI (L ⟨⟩) (a ⟨⟩, s ⟨⟩) (c ⟨⟩)).2 (k ⟨⟩)) = shI (L ⟨⟩) (a ⟨⟩, s ⟨⟩) (c ⟨⟩ + 1) := by rw [hk5]; rfl
            repeat' first
              | (refine Ob.mk ?_ ?_; rotate_left; cbv)
              | (refine Next.mk (fun _ => c () + 1) ?_ ?_ ?_)
            all_goals try (first | exact congrArg (fun z => z.1.1) hend | exact congrArg (fun z => z.1.2) hend | exact congrArg (fun z => z.2) hend)
            all_goals (try simp only [Unit.unit, Int.ofNat_lt, Int.ofNat_le, BE.val, IE.val, NE.val, ltB_iff, ltB_no, leB_iff, leB_no, Int.toNat_natCast, Nat.zero_add, Nat.add_zero, Nat.mul_one, forced, beq_iff_eq, beq_eq_false_iff_ne, bne_iff_ne, bne_eq_false_iff_eq] at *)
            all_goals first | with_reducible rfl | exact True.intro | omega | exact wrap64_nat (by omega) | rfl | trace_state
      · have hc5 : c ⟨⟩ = 4 := by omega
        refine Br.f (kj_ge4 hc4) ?_
        cbv
        repeat' (refine Ob.mk ?_ ?_; (focus (first | exact rfl | exact ⟨hq1.1, Int.le_trans hq1.2 (by decide)⟩ | exact Int.le_trans hq1.2 (by decide) | exact ⟨ho0, hlen, hbig, hby⟩ | exact ⟨by trivial, hlen, hbig, hby⟩)); cbv)
        have hQ : pkQ (L ⟨⟩) 12 (shI (L ⟨⟩) (a ⟨⟩, s ⟨⟩) (c ⟨⟩)).1 = shQ (L ⟨⟩) (a ⟨⟩, s ⟨⟩) := by rw [hc5]; rfl
        refine Br.mk (fun hy => ?_) (fun hy => ?_)
        · have hy' : (pkV (L ⟨⟩) 12 (shI (L ⟨⟩) (a ⟨⟩, s ⟨⟩) 4).1 == 0) = true := by rw [← hc5]; exact hy
          have hv : shL (L ⟨⟩) (a ⟨⟩, s ⟨⟩) = same4 (shI (L ⟨⟩) (a ⟨⟩, s ⟨⟩) 4).2 := if_pos hy'
          have hA : ∀ i, (((same4 (shI (L ⟨⟩) (a ⟨⟩, s ⟨⟩) (c ⟨⟩)).2)).getD i (0, 0)).1 = ((shL (L ⟨⟩) (a ⟨⟩, s ⟨⟩)).getD i (0, 0)).1 := fun i => by rw [hv, hc5]
          have hB : ∀ i, (((same4 (shI (L ⟨⟩) (a ⟨⟩, s ⟨⟩) (c ⟨⟩)).2)).getD i (0, 0)).2 = ((shL (L ⟨⟩) (a ⟨⟩, s ⟨⟩)).getD i (0, 0)).2 := fun i => by rw [hv, hc5]
          cbv
          repeat' (refine Ob.mk ?_ ?_; (focus (first | exact hA _ | exact hB _ | exact congrArg Prod.fst hQ | exact congrArg Prod.snd hQ | exact rfl | (dsimp only [IE.val, NE.val]; rw [hls]; decide) | (dsimp only [IE.val, NE.val]; simp only [List.length_set]; rw [hls]; decide) | trace_state)); cbv)
        · have hy' : (pkV (L ⟨⟩) 12 (shI (L ⟨⟩) (a ⟨⟩, s ⟨⟩) 4).1 == 0) = false := by rw [← hc5]; exact hy
          have hv : shL (L ⟨⟩) (a ⟨⟩, s ⟨⟩) = (shI (L ⟨⟩) (a ⟨⟩, s ⟨⟩) 4).2 := if_neg (by rw [hy']; decide)
          have hA : ∀ i, (((shI (L ⟨⟩) (a ⟨⟩, s ⟨⟩) (c ⟨⟩)).2).getD i (0, 0)).1 = ((shL (L ⟨⟩) (a ⟨⟩, s ⟨⟩)).getD i (0, 0)).1 := fun i => by rw [hv, hc5]
          have hB : ∀ i, (((shI (L ⟨⟩) (a ⟨⟩, s ⟨⟩) (c ⟨⟩)).2).getD i (0, 0)).2 = ((shL (L ⟨⟩) (a ⟨⟩, s ⟨⟩)).getD i (0, 0)).2 := fun i => by rw [hv, hc5]
          cbv
          repeat' (refine Ob.mk ?_ ?_; (focus (first | exact hA _ | exact hB _ | exact congrArg Prod.fst hQ | exact congrArg Prod.snd hQ | exact rfl | (dsimp only [IE.val, NE.val]; rw [hls]; decide) | (dsimp only [IE.val, NE.val]; simp only [List.length_set]; rw [hls]; decide) | trace_state)); cbv)
  · rename_i a s
    cases hs
    obtain ⟨⟨ha0, ha1⟩, hx0⟩ := ho.two
    have hby := bytes_nil
    try simp only [Unit.unit] at ha0 ha1 hx0
    refine ⟨_, HLe.refl _, ?_⟩
    cbv
    have hq0 : qIn 1000 (a ⟨⟩, s ⟨⟩) := ⟨ha0, hx0⟩
    repeat' (refine Ob.mk ?_ ?_; rotate_left; cbv)
    refine loop_rule (α := Unit → Nat) (c := ⟨tt, E99, 1⟩) (fun c => fr 67 [(0, .c (.p 0 (.l 0))), (2, .c (.p 1 (.l 0))), (3, .c (.p 2 (.l 0))), (4, .c (.p 3 (.l 0))), (5, .c (.i .i64 (.x fun _ => (c () : Int))))]) (fun c => [some ⟨true, 0, .lit [.sn, .i .i64 (.x fun _ => ((shI [] (a (), s ()) (c ())).1).1), .i .u64 (.x fun _ => ((shI [] (a (), s ()) (c ())).1).2)]⟩, some ⟨true, 0, .lit [.z .f32 (fun _ => 0) (fun _ => 0), .z .f32 (fun _ => 0) (fun _ => 0), .z .f32 (fun _ => 0) (fun _ => 0), .z .f32 (fun _ => 0) (fun _ => 0), .z .f32 (fun _ => 0) (fun _ => 0), .z .f32 (fun _ => 0) (fun _ => 0), .z .f32 (fun _ => 0) (fun _ => 0), .z .f32 (fun _ => 0) (fun _ => 0), .z .f32 (fun _ => 0) (fun _ => 0), .z .f32 (fun _ => 0) (fun _ => 0), .z .f32 (fun _ => 0) (fun _ => 0), .z .f32 (fun _ => 0) (fun _ => 0), .z .f32 (fun _ => 0) (fun _ => 0), .z .f32 (fun _ => 0) (fun _ => 0), .z .f32 (fun _ => 0) (fun _ => 0), .z .f32 (fun _ => 0) (fun _ => 0)]⟩, some ⟨true, 0, .cx fun _ => (shI [] (a (), s ()) (c ())).2⟩, some ⟨true, 0, .lit [.z .f32 (fun _ => 0) (fun _ => 0), .z .f32 (fun _ => 1120403456) (fun _ => 0), .z .f32 (fun _ => 1120403456) (fun _ => 1117782016), .z .f32 (fun _ => 0) (fun _ => 1117782016)]⟩])
        (fun c => c () ≤ 4) (fun c => 4 - c ()) (fun _ => 5) ?_ ?_
    · refine .mk (fun _ => 0) (Nat.zero_le _) (by decide) ?_
      cbv
      repeat' (refine Ob.mk ?_ ?_; rotate_left)
      all_goals first | exact rfl | exact True.intro | rfl
    · intro c hc
      have hc : c ⟨⟩ ≤ 4 := hc
      have hq1 : qIn 1112 (shI [] (a ⟨⟩, s ⟨⟩) (c ⟨⟩)).1 := qIn_le (shI_in hq0 (c ⟨⟩)) (by omega)
      have hls := shI_len [] (a ⟨⟩, s ⟨⟩) (c ⟨⟩)
      cbv
      by_cases hc4 : c ⟨⟩ < 4
      · have hci : 0 ≤ ((c ⟨⟩ : Nat) : Int) ∧ ((c ⟨⟩ : Nat) : Int) < ((4 : Nat) : Int) := by omega
        refine Br.t (kj_lt4 hc4) ?_
        cbv
        repeat' (refine Ob.mk ?_ ?_; (focus (first | exact rfl | exact ⟨hq1.1, Int.le_trans hq1.2 (by decide)⟩ | exact Int.le_trans hq1.2 (by decide))); cbv)
        refine loop_rule (α := Unit → Nat) (c := ⟨tt, E99, 1⟩) (fun k => fr 67 [(0, .c (.p 0 (.l 0))), (2, .c (.p 1 (.l 0))), (3, .c (.p 2 (.l 0))), (4, .c (.p 3 (.l 0))), (5, .c (.i .i64 (.x fun _ => (c () : Int)))), (6, Zm (dmM [] (shI [] (a (), s ()) (c ())).1)), (7, .c (.i .i64 (.x fun _ => (k () : Int))))]) (fun k => [some ⟨true, 0, .lit [.sn, .i .i64 (.x fun _ => ((rowI [] (dmM [] (shI [] (a (), s ()) (c ())).1) (c ()) (dmQ [] (shI [] (a (), s ()) (c ())).1) (shI [] (a (), s ()) (c ())).2 (k ())).1).1), .i .u64 (.x fun _ => ((rowI [] (dmM [] (shI [] (a (), s ()) (c ())).1) (c ()) (dmQ [] (shI [] (a (), s ()) (c ())).1) (shI [] (a (), s ()) (c ())).2 (k ())).1).2)]⟩, some ⟨true, 0, .lit [.z .f32 (fun _ => 0) (fun _ => 0), .z .f32 (fun _ => 0) (fun _ => 0), .z .f32 (fun _ => 0) (fun _ => 0), .z .f32 (fun _ => 0) (fun _ => 0), .z .f32 (fun _ => 0) (fun _ => 0), .z .f32 (fun _ => 0) (fun _ => 0), .z .f32 (fun _ => 0) (fun _ => 0), .z .f32 (fun _ => 0) (fun _ => 0), .z .f32 (fun _ => 0) (fun _ => 0), .z .f32 (fun _ => 0) (fun _ => 0), .z .f32 (fun _ => 0) (fun _ => 0), .z .f32 (fun _ => 0) (fun _ => 0), .z .f32 (fun _ => 0) (fun _ => 0), .z .f32 (fun _ => 0) (fun _ => 0), .z .f32 (fun _ => 0) (fun _ => 0), .z .f32 (fun _ => 0) (fun _ => 0)]⟩, some ⟨true, 0, .cx fun _ => (rowI [] (dmM [] (shI [] (a (), s ()) (c ())).1) (c ()) (dmQ [] (shI [] (a (), s ()) (c ())).1) (shI [] (a (), s ()) (c ())).2 (k ())).2⟩, some ⟨true, 0, .lit [.z .f32 (fun _ => 0) (fun _ => 0), .z .f32 (fun _ => 1120403456) (fun _ => 0), .z .f32 (fun _ => 1120403456) (fun _ => 1117782016), .z .f32 (fun _ => 0) (fun _ => 1117782016)]⟩])
            (fun k => k () ≤ 4) (fun k => 4 - k ()) (fun _ => 5) ?_ ?_
        · refine .mk (fun _ => 0) (Nat.zero_le _) (by decide) ?_
          cbv
          repeat' (refine Ob.mk ?_ ?_; rotate_left)
          all_goals first | exact rfl | exact True.intro | rfl
        · intro k hk
          have hk : k ⟨⟩ ≤ 4 := hk
          have hq2 : qIn 1200 (dmQ [] (shI [] (a ⟨⟩, s ⟨⟩) (c ⟨⟩)).1) := qIn_le (dmQ_in hq1) (by decide)
          have hq3 : qIn 1300 (rowI [] (dmM [] (shI [] (a ⟨⟩, s ⟨⟩) (c ⟨⟩)).1) (c ⟨⟩) (dmQ [] (shI [] (a ⟨⟩, s ⟨⟩) (c ⟨⟩)).1) (shI [] (a ⟨⟩, s ⟨⟩) (c ⟨⟩)).2 (k ⟨⟩)).1 := qIn_le (rowI_in hq2 (k ⟨⟩)) (by omega)
          have hlr : (rowI [] (dmM [] (shI [] (a ⟨⟩, s ⟨⟩) (c ⟨⟩)).1) (c ⟨⟩) (dmQ [] (shI [] (a ⟨⟩, s ⟨⟩) (c ⟨⟩)).1) (shI [] (a ⟨⟩, s ⟨⟩) (c ⟨⟩)).2 (k ⟨⟩)).2.length = 16 := by rw [rowI_len, hls]
          cbv
          by_cases hk4 : k ⟨⟩ < 4
          · have hki : 0 ≤ ((k ⟨⟩ : Nat) : Int) ∧ ((k ⟨⟩ : Nat) : Int) < ((4 : Nat) : Int) := by omega
            refine Br.t (kj_lt4 hk4) ?_
            cbv
            repeat' first
              | (refine Ob.mk ?_ ?_; (focus (first | exact hki | exact hci | exact rfl | (dsimp only [IE.val, NE.val, IE.nat, forced, List.length_cons, List.length_nil, Int.toNat_natCast]; simp only [List.length_set, Int.toNat_natCast, hlr]; omega) | (dsimp only [IE.val, NE.val, IE.nat, forced, List.length_cons, List.length_nil, Int.toNat_natCast]; omega) | exact hci | exact hki)); cbv)
              | (refine Lex.pull [0, 1, 2, 3, 4, 5, 6] (by decide +kernel) ?_; cbv)
            by_cases hc0 : 0 < c ⟨⟩
            · refine Br.t (ltB_iff.2 (Int.natCast_pos.2 hc0)) ?_
              cbv
              repeat' first
                | (refine Ob.mk ?_ ?_; (focus (first | exact hki | exact hci | exact rfl | exact ⟨hq3.1, Int.le_trans hq3.2 (by decide)⟩ | exact Int.le_trans hq3.2 (by decide) | (dsimp only [IE.val, NE.val, IE.nat, forced, List.length_cons, List.length_nil, Int.toNat_natCast]; simp only [List.length_set, Int.toNat_natCast, hlr]; omega) | (dsimp only [IE.val, NE.val, IE.nat, forced, List.length_cons, List.length_nil, Int.toNat_natCast]; omega) | exact hci | exact hki)); cbv)
                | (refine Lex.pull [0, 1, 2, 3, 4, 5, 6, 7, 8] (by decide +kernel) ?_; cbv)
              refine Br.mk (fun hy => ?_) (fun hy => ?_)
              · have hy : (pkV [] 4 (rowI [] (dmM [] (shI [] (a ⟨⟩, s ⟨⟩) (c ⟨⟩)).1) (c ⟨⟩) (dmQ [] (shI [] (a ⟨⟩, s ⟨⟩) (c ⟨⟩)).1) (shI [] (a ⟨⟩, s ⟨⟩) (c ⟨⟩)).2 (k ⟨⟩)).1 == 0) = true := hy
                have hrow : (rowI [] (dmM [] (shI [] (a ⟨⟩, s ⟨⟩) (c ⟨⟩)).1) (c ⟨⟩) (dmQ [] (shI [] (a ⟨⟩, s ⟨⟩) (c ⟨⟩)).1) (shI [] (a ⟨⟩, s ⟨⟩) (c ⟨⟩)).2 (k ⟨⟩ + 1)).2 = (rowI [] (dmM [] (shI [] (a ⟨⟩, s ⟨⟩) (c ⟨⟩)).1) (c ⟨⟩) (dmQ [] (shI [] (a ⟨⟩, s ⟨⟩) (c ⟨⟩)).1) (shI [] (a ⟨⟩, s ⟨⟩) (c ⟨⟩)).2 (k ⟨⟩)).2.set (c ⟨⟩ * 4 + k ⟨⟩) (dmM [] (pkQ [] 4 (rowI [] (dmM [] (shI [] (a ⟨⟩, s ⟨⟩) (c ⟨⟩)).1) (c ⟨⟩) (dmQ [] (shI [] (a ⟨⟩, s ⟨⟩) (c ⟨⟩)).1) (shI [] (a ⟨⟩, s ⟨⟩) (c ⟨⟩)).2 (k ⟨⟩)).1)) := by
                  show (rowI [] (dmM [] (shI [] (a ⟨⟩, s ⟨⟩) (c ⟨⟩)).1) (c ⟨⟩) (dmQ [] (shI [] (a ⟨⟩, s ⟨⟩) (c ⟨⟩)).1) (shI [] (a ⟨⟩, s ⟨⟩) (c ⟨⟩)).2 (k ⟨⟩)).2.set (c ⟨⟩ * 4 + k ⟨⟩) (cellV [] (rowI [] (dmM [] (shI [] (a ⟨⟩, s ⟨⟩) (c ⟨⟩)).1) (c ⟨⟩) (dmQ [] (shI [] (a ⟨⟩, s ⟨⟩) (c ⟨⟩)).1) (shI [] (a ⟨⟩, s ⟨⟩) (c ⟨⟩)).2 (k ⟨⟩)).1 (cellB (dmM [] (shI [] (a ⟨⟩, s ⟨⟩) (c ⟨⟩)).1) (c ⟨⟩) (k ⟨⟩))) = _
                  rw [show cellV [] (rowI [] (dmM [] (shI [] (a ⟨⟩, s ⟨⟩) (c ⟨⟩)).1) (c ⟨⟩) (dmQ [] (shI [] (a ⟨⟩, s ⟨⟩) (c ⟨⟩)).1) (shI [] (a ⟨⟩, s ⟨⟩) (c ⟨⟩)).2 (k ⟨⟩)).1 (cellB (dmM [] (shI [] (a ⟨⟩, s ⟨⟩) (c ⟨⟩)).1) (c ⟨⟩) (k ⟨⟩)) = dmM [] (pkQ [] 4 (rowI [] (dmM [] (shI [] (a ⟨⟩, s ⟨⟩) (c ⟨⟩)).1) (c ⟨⟩) (dmQ [] (shI [] (a ⟨⟩, s ⟨⟩) (c ⟨⟩)).1) (shI [] (a ⟨⟩, s ⟨⟩) (c ⟨⟩)).2 (k ⟨⟩)).1) from by unfold cellV; exact if_pos hy]
                have hqn : (rowI [] (dmM [] (shI [] (a ⟨⟩, s ⟨⟩) (c ⟨⟩)).1) (c ⟨⟩) (dmQ [] (shI [] (a ⟨⟩, s ⟨⟩) (c ⟨⟩)).1) (shI [] (a ⟨⟩, s ⟨⟩) (c ⟨⟩)).2 (k ⟨⟩ + 1)).1 = dmQ [] (pkQ [] 4 (rowI [] (dmM [] (shI [] (a ⟨⟩, s ⟨⟩) (c ⟨⟩)).1) (c ⟨⟩) (dmQ [] (shI [] (a ⟨⟩, s ⟨⟩) (c ⟨⟩)).1) (shI [] (a ⟨⟩, s ⟨⟩) (c ⟨⟩)).2 (k ⟨⟩)).1) := if_pos hy
                have hq5 : qIn 1900 (pkQ [] 4 (rowI [] (dmM [] (shI [] (a ⟨⟩, s ⟨⟩) (c ⟨⟩)).1) (c ⟨⟩) (dmQ [] (shI [] (a ⟨⟩, s ⟨⟩) (c ⟨⟩)).1) (shI [] (a ⟨⟩, s ⟨⟩) (c ⟨⟩)).2 (k ⟨⟩)).1) := qIn_le (qIn_pk hq3) (by decide)
                cbv
                repeat' first
                  | (refine Ob.mk ?_ ?_; (focus (first | exact rfl | exact ⟨hq3.1, Int.le_trans hq3.2 (by decide)⟩ | exact Int.le_trans hq3.2 (by decide) | exact ⟨hq5.1, Int.le_trans hq5.2 (by decide)⟩ | exact Int.le_trans hq5.2 (by decide) | (dsimp only [IE.val, NE.val, IE.nat, forced, List.length_cons, List.length_nil, Int.toNat_natCast]; simp only [List.length_set, Int.toNat_natCast, hlr]; omega) | (dsimp only [IE.val, NE.val, IE.nat, forced, List.length_cons, List.length_nil, Int.toNat_natCast]; omega) | exact hci | exact hki | exact wrap64_nat (by omega) | exact (congrArg Prod.fst hqn).symm | exact (congrArg Prod.snd hqn).symm | (dsimp only [IE.val, NE.val, IE.nat, forced]; simp only [Int.toNat_natCast, Nat.zero_add, Nat.mul_one, List.set_set]; exact hrow.symm))); cbv)
                  | (refine Lex.pull [0, 1, 2, 4, 5] (by decide +kernel) ?_; cbv)
                  | (refine Lex.pull [0, 1, 2] (by decide +kernel) ?_; cbv)
                  | (refine Lex.tail 3 (by decide +kernel) ?_; cbv)
                  | (refine Both.mk ?_ ?_ <;> cbv)
                  | (refine Next.mk (fun _ => k () + 1) ?_ ?_ ?_)
                all_goals try (first | exact (congrArg Prod.fst hqn).symm | exact (congrArg Prod.snd hqn).symm)
                all_goals try (dsimp only [IE.val, NE.val, IE.nat, forced]; simp only [Int.toNat_natCast, Nat.zero_add, Nat.mul_one, List.set_set]; exact hrow.symm)
                all_goals (try simp only [Unit.unit, Int.ofNat_lt, Int.ofNat_le, BE.val, IE.val, NE.val, ltB_iff, ltB_no, leB_iff, leB_no, Int.toNat_natCast, Nat.zero_add, Nat.add_zero, Nat.mul_one, forced, beq_iff_eq, beq_eq_false_iff_ne, bne_iff_ne, bne_eq_false_iff_eq] at *)
                all_goals first | with_reducible rfl | exact True.intro | omega | exact wrap64_nat (by omega) | rfl | trace_state
              · have hy : (pkV [] 4 (rowI [] (dmM [] (shI [] (a ⟨⟩, s ⟨⟩) (c ⟨⟩)).1) (c ⟨⟩) (dmQ [] (shI [] (a ⟨⟩, s ⟨⟩) (c ⟨⟩)).1) (shI [] (a ⟨⟩, s ⟨⟩) (c ⟨⟩)).2 (k ⟨⟩)).1 == 0) = false := hy
                have hrow : (rowI [] (dmM [] (shI [] (a ⟨⟩, s ⟨⟩) (c ⟨⟩)).1) (c ⟨⟩) (dmQ [] (shI [] (a ⟨⟩, s ⟨⟩) (c ⟨⟩)).1) (shI [] (a ⟨⟩, s ⟨⟩) (c ⟨⟩)).2 (k ⟨⟩ + 1)).2 = (rowI [] (dmM [] (shI [] (a ⟨⟩, s ⟨⟩) (c ⟨⟩)).1) (c ⟨⟩) (dmQ [] (shI [] (a ⟨⟩, s ⟨⟩) (c ⟨⟩)).1) (shI [] (a ⟨⟩, s ⟨⟩) (c ⟨⟩)).2 (k ⟨⟩)).2.set (c ⟨⟩ * 4 + k ⟨⟩) (plusM (cnr (k ⟨⟩)) (dmM [] (shI [] (a ⟨⟩, s ⟨⟩) (c ⟨⟩)).1)) := by
                  show (rowI [] (dmM [] (shI [] (a ⟨⟩, s ⟨⟩) (c ⟨⟩)).1) (c ⟨⟩) (dmQ [] (shI [] (a ⟨⟩, s ⟨⟩) (c ⟨⟩)).1) (shI [] (a ⟨⟩, s ⟨⟩) (c ⟨⟩)).2 (k ⟨⟩)).2.set (c ⟨⟩ * 4 + k ⟨⟩) (cellV [] (rowI [] (dmM [] (shI [] (a ⟨⟩, s ⟨⟩) (c ⟨⟩)).1) (c ⟨⟩) (dmQ [] (shI [] (a ⟨⟩, s ⟨⟩) (c ⟨⟩)).1) (shI [] (a ⟨⟩, s ⟨⟩) (c ⟨⟩)).2 (k ⟨⟩)).1 (cellB (dmM [] (shI [] (a ⟨⟩, s ⟨⟩) (c ⟨⟩)).1) (c ⟨⟩) (k ⟨⟩))) = _
                  rw [show cellV [] (rowI [] (dmM [] (shI [] (a ⟨⟩, s ⟨⟩) (c ⟨⟩)).1) (c ⟨⟩) (dmQ [] (shI [] (a ⟨⟩, s ⟨⟩) (c ⟨⟩)).1) (shI [] (a ⟨⟩, s ⟨⟩) (c ⟨⟩)).2 (k ⟨⟩)).1 (cellB (dmM [] (shI [] (a ⟨⟩, s ⟨⟩) (c ⟨⟩)).1) (c ⟨⟩) (k ⟨⟩)) = plusM (cnr (k ⟨⟩)) (dmM [] (shI [] (a ⟨⟩, s ⟨⟩) (c ⟨⟩)).1) from by unfold cellV; rw [if_neg (by rw [hy]; decide)]; exact if_pos hc0]
                have hqn : (rowI [] (dmM [] (shI [] (a ⟨⟩, s ⟨⟩) (c ⟨⟩)).1) (c ⟨⟩) (dmQ [] (shI [] (a ⟨⟩, s ⟨⟩) (c ⟨⟩)).1) (shI [] (a ⟨⟩, s ⟨⟩) (c ⟨⟩)).2 (k ⟨⟩ + 1)).1 = pkQ [] 4 (rowI [] (dmM [] (shI [] (a ⟨⟩, s ⟨⟩) (c ⟨⟩)).1) (c ⟨⟩) (dmQ [] (shI [] (a ⟨⟩, s ⟨⟩) (c ⟨⟩)).1) (shI [] (a ⟨⟩, s ⟨⟩) (c ⟨⟩)).2 (k ⟨⟩)).1 := if_neg (by rw [hy]; decide)
                cbv
                repeat' first
                  | (refine Ob.mk ?_ ?_; (focus (first | exact rfl | exact ⟨hq3.1, Int.le_trans hq3.2 (by decide)⟩ | exact Int.le_trans hq3.2 (by decide) | (dsimp only [IE.val, NE.val, IE.nat, forced, List.length_cons, List.length_nil, Int.toNat_natCast]; simp only [List.length_set, Int.toNat_natCast, hlr]; omega) | (dsimp only [IE.val, NE.val, IE.nat, forced, List.length_cons, List.length_nil, Int.toNat_natCast]; omega) | exact hci | exact hki | exact wrap64_nat (by omega) | exact (congrArg Prod.fst hqn).symm | exact (congrArg Prod.snd hqn).symm | (dsimp only [IE.val, NE.val, IE.nat, forced]; simp only [Int.toNat_natCast, Nat.zero_add, Nat.mul_one, List.set_set]; exact hrow.symm))); cbv)
                  | (refine Lex.pull [0, 1, 2, 4, 5] (by decide +kernel) ?_; cbv)
                  | (refine Lex.pull [0, 1, 2] (by decide +kernel) ?_; cbv)
                  | (refine Lex.tail 3 (by decide +kernel) ?_; cbv)
                  | (refine Both.mk ?_ ?_ <;> cbv)
                  | (refine Next.mk (fun _ => k () + 1) ?_ ?_ ?_)
                all_goals try (first | exact (congrArg Prod.fst hqn).symm | exact (congrArg Prod.snd hqn).symm)
                all_goals try (dsimp only [IE.val, NE.val, IE.nat, forced]; simp only [Int.toNat_natCast, Nat.zero_add, Nat.mul_one, List.set_set]; exact hrow.symm)
                all_goals (try simp only [Unit.unit, Int.ofNat_lt, Int.ofNat_le, BE.val, IE.val, NE.val, ltB_iff, ltB_no, leB_iff, leB_no, Int.toNat_natCast, Nat.zero_add, Nat.add_zero, Nat.mul_one, forced, beq_iff_eq, beq_eq_false_iff_ne, bne_iff_ne, bne_eq_false_iff_eq] at *)
                all_goals first | with_reducible rfl | exact True.intro | omega | exact wrap64_nat (by omega) | rfl | trace_state
            · refine Br.f (ltB_no.2 (fun h => hc0 (Int.natCast_pos.1 h))) ?_
              cbv
              repeat' first
                | (refine Ob.mk ?_ ?_; (focus (first | exact hki | exact hci | exact rfl | exact ⟨hq3.1, Int.le_trans hq3.2 (by decide)⟩ | exact Int.le_trans hq3.2 (by decide) | (dsimp only [IE.val, NE.val, IE.nat, forced, List.length_cons, List.length_nil, Int.toNat_natCast]; simp only [List.length_set, Int.toNat_natCast, hlr]; omega) | (dsimp only [IE.val, NE.val, IE.nat, forced, List.length_cons, List.length_nil, Int.toNat_natCast]; omega) | exact hci | exact hki)); cbv)
              refine Br.mk (fun hy => ?_) (fun hy => ?_)
              · have hy : (pkV [] 4 (rowI [] (dmM [] (shI [] (a ⟨⟩, s ⟨⟩) (c ⟨⟩)).1) (c ⟨⟩) (dmQ [] (shI [] (a ⟨⟩, s ⟨⟩) (c ⟨⟩)).1) (shI [] (a ⟨⟩, s ⟨⟩) (c ⟨⟩)).2 (k ⟨⟩)).1 == 0) = true := hy
                have hrow : (rowI [] (dmM [] (shI [] (a ⟨⟩, s ⟨⟩) (c ⟨⟩)).1) (c ⟨⟩) (dmQ [] (shI [] (a ⟨⟩, s ⟨⟩) (c ⟨⟩)).1) (shI [] (a ⟨⟩, s ⟨⟩) (c ⟨⟩)).2 (k ⟨⟩ + 1)).2 = (rowI [] (dmM [] (shI [] (a ⟨⟩, s ⟨⟩) (c ⟨⟩)).1) (c ⟨⟩) (dmQ [] (shI [] (a ⟨⟩, s ⟨⟩) (c ⟨⟩)).1) (shI [] (a ⟨⟩, s ⟨⟩) (c ⟨⟩)).2 (k ⟨⟩)).2.set (c ⟨⟩ * 4 + k ⟨⟩) (dmM [] (pkQ [] 4 (rowI [] (dmM [] (shI [] (a ⟨⟩, s ⟨⟩) (c ⟨⟩)).1) (c ⟨⟩) (dmQ [] (shI [] (a ⟨⟩, s ⟨⟩) (c ⟨⟩)).1) (shI [] (a ⟨⟩, s ⟨⟩) (c ⟨⟩)).2 (k ⟨⟩)).1)) := by
                  show (rowI [] (dmM [] (shI [] (a ⟨⟩, s ⟨⟩) (c ⟨⟩)).1) (c ⟨⟩) (dmQ [] (shI [] (a ⟨⟩, s ⟨⟩) (c ⟨⟩)).1) (shI [] (a ⟨⟩, s ⟨⟩) (c ⟨⟩)).2 (k ⟨⟩)).2.set (c ⟨⟩ * 4 + k ⟨⟩) (cellV [] (rowI [] (dmM [] (shI [] (a ⟨⟩, s ⟨⟩) (c ⟨⟩)).1) (c ⟨⟩) (dmQ [] (shI [] (a ⟨⟩, s ⟨⟩) (c ⟨⟩)).1) (shI [] (a ⟨⟩, s ⟨⟩) (c ⟨⟩)).2 (k ⟨⟩)).1 (cellB (dmM [] (shI [] (a ⟨⟩, s ⟨⟩) (c ⟨⟩)).1) (c ⟨⟩) (k ⟨⟩))) = _
                  rw [show cellV [] (rowI [] (dmM [] (shI [] (a ⟨⟩, s ⟨⟩) (c ⟨⟩)).1) (c ⟨⟩) (dmQ [] (shI [] (a ⟨⟩, s ⟨⟩) (c ⟨⟩)).1) (shI [] (a ⟨⟩, s ⟨⟩) (c ⟨⟩)).2 (k ⟨⟩)).1 (cellB (dmM [] (shI [] (a ⟨⟩, s ⟨⟩) (c ⟨⟩)).1) (c ⟨⟩) (k ⟨⟩)) = dmM [] (pkQ [] 4 (rowI [] (dmM [] (shI [] (a ⟨⟩, s ⟨⟩) (c ⟨⟩)).1) (c ⟨⟩) (dmQ [] (shI [] (a ⟨⟩, s ⟨⟩) (c ⟨⟩)).1) (shI [] (a ⟨⟩, s ⟨⟩) (c ⟨⟩)).2 (k ⟨⟩)).1) from by unfold cellV; exact if_pos hy]
                have hqn : (rowI [] (dmM [] (shI [] (a ⟨⟩, s ⟨⟩) (c ⟨⟩)).1) (c ⟨⟩) (dmQ [] (shI [] (a ⟨⟩, s ⟨⟩) (c ⟨⟩)).1) (shI [] (a ⟨⟩, s ⟨⟩) (c ⟨⟩)).2 (k ⟨⟩ + 1)).1 = dmQ [] (pkQ [] 4 (rowI [] (dmM [] (shI [] (a ⟨⟩, s ⟨⟩) (c ⟨⟩)).1) (c ⟨⟩) (dmQ [] (shI [] (a ⟨⟩, s ⟨⟩) (c ⟨⟩)).1) (shI [] (a ⟨⟩, s ⟨⟩) (c ⟨⟩)).2 (k ⟨⟩)).1) := if_pos hy
                have hq5 : qIn 1900 (pkQ [] 4 (rowI [] (dmM [] (shI [] (a ⟨⟩, s ⟨⟩) (c ⟨⟩)).1) (c ⟨⟩) (dmQ [] (shI [] (a ⟨⟩, s ⟨⟩) (c ⟨⟩)).1) (shI [] (a ⟨⟩, s ⟨⟩) (c ⟨⟩)).2 (k ⟨⟩)).1) := qIn_le (qIn_pk hq3) (by decide)
                cbv
                repeat' first
                  | (refine Ob.mk ?_ ?_; (focus (first | exact rfl | exact ⟨hq3.1, Int.le_trans hq3.2 (by decide)⟩ | exact Int.le_trans hq3.2 (by decide) | exact ⟨hq5.1, Int.le_trans hq5.2 (by decide)⟩ | exact Int.le_trans hq5.2 (by decide) | (dsimp only [IE.val, NE.val, IE.nat, forced, List.length_cons, List.length_nil, Int.toNat_natCast]; simp only [List.length_set, Int.toNat_natCast, hlr]; omega) | (dsimp only [IE.val, NE.val, IE.nat, forced, List.length_cons, List.length_nil, Int.toNat_natCast]; omega) | exact hci | exact hki | exact wrap64_nat (by omega) | exact (congrArg Prod.fst hqn).symm | exact (congrArg Prod.snd hqn).symm | (dsimp only [IE.val, NE.val, IE.nat, forced]; simp only [Int.toNat_natCast, Nat.zero_add, Nat.mul_one, List.set_set]; exact hrow.symm))); cbv)
                  | (refine Lex.pull [0, 1, 2, 4, 5] (by decide +kernel) ?_; cbv)
                  | (refine Lex.pull [0, 1, 2] (by decide +kernel) ?_; cbv)
                  | (refine Lex.tail 3 (by decide +kernel) ?_; cbv)
                  | (refine Both.mk ?_ ?_ <;> cbv)
                  | (refine Next.mk (fun _ => k () + 1) ?_ ?_ ?_)
                all_goals try (first | exact (congrArg Prod.fst hqn).symm | exact (congrArg Prod.snd hqn).symm)
                all_goals try (dsimp only [IE.val, NE.val, IE.nat, forced]; simp only [Int.toNat_natCast, Nat.zero_add, Nat.mul_one, List.set_set]; exact hrow.symm)
                all_goals (try simp only [Unit.unit, Int.ofNat_lt, Int.ofNat_le, BE.val, IE.val, NE.val, ltB_iff, ltB_no, leB_iff, leB_no, Int.toNat_natCast, Nat.zero_add, Nat.add_zero, Nat.mul_one, forced, beq_iff_eq, beq_eq_false_iff_ne, bne_iff_ne, bne_eq_false_iff_eq] at *)
                all_goals first | with_reducible rfl | exact True.intro | omega | exact wrap64_nat (by omega) | rfl | trace_state
              · have hy : (pkV [] 4 (rowI [] (dmM [] (shI [] (a ⟨⟩, s ⟨⟩) (c ⟨⟩)).1) (c ⟨⟩) (dmQ [] (shI [] (a ⟨⟩, s ⟨⟩) (c ⟨⟩)).1) (shI [] (a ⟨⟩, s ⟨⟩) (c ⟨⟩)).2 (k ⟨⟩)).1 == 0) = false := hy
                have hrow : (rowI [] (dmM [] (shI [] (a ⟨⟩, s ⟨⟩) (c ⟨⟩)).1) (c ⟨⟩) (dmQ [] (shI [] (a ⟨⟩, s ⟨⟩) (c ⟨⟩)).1) (shI [] (a ⟨⟩, s ⟨⟩) (c ⟨⟩)).2 (k ⟨⟩ + 1)).2 = (rowI [] (dmM [] (shI [] (a ⟨⟩, s ⟨⟩) (c ⟨⟩)).1) (c ⟨⟩) (dmQ [] (shI [] (a ⟨⟩, s ⟨⟩) (c ⟨⟩)).1) (shI [] (a ⟨⟩, s ⟨⟩) (c ⟨⟩)).2 (k ⟨⟩)).2.set (c ⟨⟩ * 4 + k ⟨⟩) (cnr (k ⟨⟩)) := by
                  show (rowI [] (dmM [] (shI [] (a ⟨⟩, s ⟨⟩) (c ⟨⟩)).1) (c ⟨⟩) (dmQ [] (shI [] (a ⟨⟩, s ⟨⟩) (c ⟨⟩)).1) (shI [] (a ⟨⟩, s ⟨⟩) (c ⟨⟩)).2 (k ⟨⟩)).2.set (c ⟨⟩ * 4 + k ⟨⟩) (cellV [] (rowI [] (dmM [] (shI [] (a ⟨⟩, s ⟨⟩) (c ⟨⟩)).1) (c ⟨⟩) (dmQ [] (shI [] (a ⟨⟩, s ⟨⟩) (c ⟨⟩)).1) (shI [] (a ⟨⟩, s ⟨⟩) (c ⟨⟩)).2 (k ⟨⟩)).1 (cellB (dmM [] (shI [] (a ⟨⟩, s ⟨⟩) (c ⟨⟩)).1) (c ⟨⟩) (k ⟨⟩))) = _
                  rw [show cellV [] (rowI [] (dmM [] (shI [] (a ⟨⟩, s ⟨⟩) (c ⟨⟩)).1) (c ⟨⟩) (dmQ [] (shI [] (a ⟨⟩, s ⟨⟩) (c ⟨⟩)).1) (shI [] (a ⟨⟩, s ⟨⟩) (c ⟨⟩)).2 (k ⟨⟩)).1 (cellB (dmM [] (shI [] (a ⟨⟩, s ⟨⟩) (c ⟨⟩)).1) (c ⟨⟩) (k ⟨⟩)) = cnr (k ⟨⟩) from by unfold cellV; rw [if_neg (by rw [hy]; decide)]; exact if_neg hc0]
                have hqn : (rowI [] (dmM [] (shI [] (a ⟨⟩, s ⟨⟩) (c ⟨⟩)).1) (c ⟨⟩) (dmQ [] (shI [] (a ⟨⟩, s ⟨⟩) (c ⟨⟩)).1) (shI [] (a ⟨⟩, s ⟨⟩) (c ⟨⟩)).2 (k ⟨⟩ + 1)).1 = pkQ [] 4 (rowI [] (dmM [] (shI [] (a ⟨⟩, s ⟨⟩) (c ⟨⟩)).1) (c ⟨⟩) (dmQ [] (shI [] (a ⟨⟩, s ⟨⟩) (c ⟨⟩)).1) (shI [] (a ⟨⟩, s ⟨⟩) (c ⟨⟩)).2 (k ⟨⟩)).1 := if_neg (by rw [hy]; decide)
                cbv
                repeat' first
                  | (refine Ob.mk ?_ ?_; (focus (first | exact rfl | exact ⟨hq3.1, Int.le_trans hq3.2 (by decide)⟩ | exact Int.le_trans hq3.2 (by decide) | (dsimp only [IE.val, NE.val, IE.nat, forced, List.length_cons, List.length_nil, Int.toNat_natCast]; simp only [List.length_set, Int.toNat_natCast, hlr]; omega) | (dsimp only [IE.val, NE.val, IE.nat, forced, List.length_cons, List.length_nil, Int.toNat_natCast]; omega) | exact hci | exact hki | exact wrap64_nat (by omega) | exact (congrArg Prod.fst hqn).symm | exact (congrArg Prod.snd hqn).symm | (dsimp only [IE.val, NE.val, IE.nat, forced]; simp only [Int.toNat_natCast, Nat.zero_add, Nat.mul_one, List.set_set]; exact hrow.symm))); cbv)
                  | (refine Lex.pull [0, 1, 2, 4, 5] (by decide +kernel) ?_; cbv)
                  | (refine Lex.pull [0, 1, 2] (by decide +kernel) ?_; cbv)
                  | (refine Lex.tail 3 (by decide +kernel) ?_; cbv)
                  | (refine Both.mk ?_ ?_ <;> cbv)
                  | (refine Next.mk (fun _ => k () + 1) ?_ ?_ ?_)
                all_goals try (first | exact (congrArg Prod.fst hqn).symm | exact (congrArg Prod.snd hqn).symm)
                all_goals try (dsimp only [IE.val, NE.val, IE.nat, forced]; simp only [Int.toNat_natCast, Nat.zero_add, Nat.mul_one, List.set_set]; exact hrow.symm)
                all_goals (try simp only [Unit.unit, Int.ofNat_lt, Int.ofNat_le, BE.val, IE.val, NE.val, ltB_iff, ltB_no, leB_iff, leB_no, Int.toNat_natCast, Nat.zero_add, Nat.add_zero, Nat.mul_one, forced, beq_iff_eq, beq_eq_false_iff_ne, bne_iff_ne, bne_eq_false_iff_eq] at *)
                all_goals first | with_reducible rfl | exact True.intro | omega | exact wrap64_nat (by omega) | rfl | trace_state
          · have hk5 : k ⟨⟩ = 4 := by omega
            refine Br.f (kj_ge4 hk4) ?_
            cbv
            have hend : (rowI [] (dmM [] (shI [] (a ⟨⟩, s ⟨⟩) (c ⟨⟩)).1) (c ⟨⟩) (dmQ [] (shI [] (a ⟨⟩, s ⟨⟩) (c ⟨⟩)).1) (shI [] (a ⟨⟩, s ⟨⟩) (c ⟨⟩)).2 (k ⟨⟩)) = shI [] (a ⟨⟩, s ⟨⟩) (c ⟨⟩ + 1) := by rw [hk5]; rfl
            repeat' first
              | (refine Ob.mk ?_ ?_; rotate_left; cbv)
              | (refine Next.mk (fun _ => c () + 1) ?_ ?_ ?_)
            all_goals try (first | exact congrArg (fun z => z.1.1) hend | exact congrArg (fun z => z.1.2) hend | exact congrArg (fun z => z.2) hend)
            all_goals (try simp only [Unit.unit, Int.ofNat_lt, Int.ofNat_le, BE.val, IE.val, NE.val, ltB_iff, ltB_no, leB_iff, leB_no, Int.toNat_natCast, Nat.zero_add, Nat.add_zero, Nat.mul_one, forced, beq_iff_eq, beq_eq_false_iff_ne, bne_iff_ne, bne_eq_false_iff_eq] at *)
            all_goals first | with_reducible rfl | exact True.intro | omega | exact wrap64_nat (by omega) | rfl | trace_state
      · have hc5 : c ⟨⟩ = 4 := by omega
        refine Br.f (kj_ge4 hc4) ?_
        cbv
        repeat' (refine Ob.mk ?_ ?_; (focus (first | exact rfl | exact ⟨hq1.1, Int.le_trans hq1.2 (by decide)⟩ | exact Int.le_trans hq1.2 (by decide))); cbv)
        have hQ : pkQ [] 12 (shI [] (a ⟨⟩, s ⟨⟩) (c ⟨⟩)).1 = shQ [] (a ⟨⟩, s ⟨⟩) := by rw [hc5]; rfl
        refine Br.mk (fun hy => ?_) (fun hy => ?_)
        · have hy' : (pkV [] 12 (shI [] (a ⟨⟩, s ⟨⟩) 4).1 == 0) = true := by rw [← hc5]; exact hy
          have hv : shL [] (a ⟨⟩, s ⟨⟩) = same4 (shI [] (a ⟨⟩, s ⟨⟩) 4).2 := if_pos hy'
          have hA : ∀ i, (((same4 (shI [] (a ⟨⟩, s ⟨⟩) (c ⟨⟩)).2)).getD i (0, 0)).1 = ((shL [] (a ⟨⟩, s ⟨⟩)).getD i (0, 0)).1 := fun i => by rw [hv, hc5]
          have hB : ∀ i, (((same4 (shI [] (a ⟨⟩, s ⟨⟩) (c ⟨⟩)).2)).getD i (0, 0)).2 = ((shL [] (a ⟨⟩, s ⟨⟩)).getD i (0, 0)).2 := fun i => by rw [hv, hc5]
          cbv
          repeat' (refine Ob.mk ?_ ?_; (focus (first | exact hA _ | exact hB _ | exact congrArg Prod.fst hQ | exact congrArg Prod.snd hQ | exact rfl | (dsimp only [IE.val, NE.val]; rw [hls]; decide) | (dsimp only [IE.val, NE.val]; simp only [List.length_set]; rw [hls]; decide) | trace_state)); cbv)
        · have hy' : (pkV [] 12 (shI [] (a ⟨⟩, s ⟨⟩) 4).1 == 0) = false := by rw [← hc5]; exact hy
          have hv : shL [] (a ⟨⟩, s ⟨⟩) = (shI [] (a ⟨⟩, s ⟨⟩) 4).2 := if_neg (by rw [hy']; decide)
          have hA : ∀ i, (((shI [] (a ⟨⟩, s ⟨⟩) (c ⟨⟩)).2).getD i (0, 0)).1 = ((shL [] (a ⟨⟩, s ⟨⟩)).getD i (0, 0)).1 := fun i => by rw [hv, hc5]
          have hB : ∀ i, (((shI [] (a ⟨⟩, s ⟨⟩) (c ⟨⟩)).2).getD i (0, 0)).2 = ((shL [] (a ⟨⟩, s ⟨⟩)).getD i (0, 0)).2 := fun i => by rw [hv, hc5]
          cbv
          repeat' (refine Ob.mk ?_ ?_; (focus (first | exact hA _ | exact hB _ | exact congrArg Prod.fst hQ | exact congrArg Prod.snd hQ | exact rfl | (dsimp only [IE.val, NE.val]; rw [hls]; decide) | (dsimp only [IE.val, NE.val]; simp only [List.length_set]; rw [hls]; decide) | trace_state)); cbv)
  · cases hs
end Rg
end Go.Proofs.YteifneielgnniaaGreatDoor.Sh
end
section
namespace Go.Proofs.YteifneielgnniaaGreatDoor.Sh
namespace Rg
open Go Go.Proofs
theorem fn41 : FnOk Tryz.prog 41 Tryz.f41 (bodyOf Tryz.f41) := ⟨Tryz.func41, rfl, by rfl⟩
def s41 : Spec := hspec fun args H => match args, H with
  | [.c (.sl 0 (.x o) (.x n))], [some ⟨false, 0, .it .u8 L⟩] => some (.a [.z .f32 (fun _ => ((shL (L ()) (0, 0)).getD 0 (0, 0)).1) (fun _ => ((shL (L ()) (0, 0)).getD 0 (0, 0)).2), .z .f32 (fun _ => ((shL (L ()) (0, 0)).getD 1 (0, 0)).1) (fun _ => ((shL (L ()) (0, 0)).getD 1 (0, 0)).2), .z .f32 (fun _ => ((shL (L ()) (0, 0)).getD 2 (0, 0)).1) (fun _ => ((shL (L ()) (0, 0)).getD 2 (0, 0)).2), .z .f32 (fun _ => ((shL (L ()) (0, 0)).getD 3 (0, 0)).1) (fun _ => ((shL (L ()) (0, 0)).getD 3 (0, 0)).2), .z .f32 (fun _ => ((shL (L ()) (0, 0)).getD 4 (0, 0)).1) (fun _ => ((shL (L ()) (0, 0)).getD 4 (0, 0)).2), .z .f32 (fun _ => ((shL (L ()) (0, 0)).getD 5 (0, 0)).1) (fun _ => ((shL (L ()) (0, 0)).getD 5 (0, 0)).2), .z .f32 (fun _ => ((shL (L ()) (0, 0)).getD 6 (0, 0)).1) (fun _ => ((shL (L ()) (0, 0)).getD 6 (0, 0)).2), .z .f32 (fun _ => ((shL (L ()) (0, 0)).getD 7 (0, 0)).1) (fun _ => ((shL (L ()) (0, 0)).getD 7 (0, 0)).2), .z .f32 (fun _ => ((shL (L ()) (0, 0)).getD 8 (0, 0)).1) (fun _ => ((shL (L ()) (0, 0)).getD 8 (0, 0)).2), .z .f32 (fun _ => ((shL (L ()) (0, 0)).getD 9 (0, 0)).1) (fun _ => ((shL (L ()) (0, 0)).getD 9 (0, 0)).2), .z .f32 (fun _ => ((shL (L ()) (0, 0)).getD 10 (0, 0)).1) (fun _ => ((shL (L ()) (0, 0)).getD 10 (0, 0)).2), .z .f32 (fun _ => ((shL (L ()) (0, 0)).getD 11 (0, 0)).1) (fun _ => ((shL (L ()) (0, 0)).getD 11 (0, 0)).2), .z .f32 (fun _ => ((shL (L ()) (0, 0)).getD 12 (0, 0)).1) (fun _ => ((shL (L ()) (0, 0)).getD 12 (0, 0)).2), .z .f32 (fun _ => ((shL (L ()) (0, 0)).getD 13 (0, 0)).1) (fun _ => ((shL (L ()) (0, 0)).getD 13 (0, 0)).2), .z .f32 (fun _ => ((shL (L ()) (0, 0)).getD 14 (0, 0)).1) (fun _ => ((shL (L ()) (0, 0)).getD 14 (0, 0)).2), .z .f32 (fun _ => ((shL (L ()) (0, 0)).getD 15 (0, 0)).1) (fun _ => ((shL (L ()) (0, 0)).getD 15 (0, 0)).2)], [none], [fun _ => o () = 0 ∧ (L ()).length = n () ∧ n () ≤ 4096 ∧ bytesOk (L ())])
  | [.c .sn], [] => some (.a [.z .f32 (fun _ => ((shL [] (0, 0)).getD 0 (0, 0)).1) (fun _ => ((shL [] (0, 0)).getD 0 (0, 0)).2), .z .f32 (fun _ => ((shL [] (0, 0)).getD 1 (0, 0)).1) (fun _ => ((shL [] (0, 0)).getD 1 (0, 0)).2), .z .f32 (fun _ => ((shL [] (0, 0)).getD 2 (0, 0)).1) (fun _ => ((shL [] (0, 0)).getD 2 (0, 0)).2), .z .f32 (fun _ => ((shL [] (0, 0)).getD 3 (0, 0)).1) (fun _ => ((shL [] (0, 0)).getD 3 (0, 0)).2), .z .f32 (fun _ => ((shL [] (0, 0)).getD 4 (0, 0)).1) (fun _ => ((shL [] (0, 0)).getD 4 (0, 0)).2), .z .f32 (fun _ => ((shL [] (0, 0)).getD 5 (0, 0)).1) (fun _ => ((shL [] (0, 0)).getD 5 (0, 0)).2), .z .f32 (fun _ => ((shL [] (0, 0)).getD 6 (0, 0)).1) (fun _ => ((shL [] (0, 0)).getD 6 (0, 0)).2), .z .f32 (fun _ => ((shL [] (0, 0)).getD 7 (0, 0)).1) (fun _ => ((shL [] (0, 0)).getD 7 (0, 0)).2), .z .f32 (fun _ => ((shL [] (0, 0)).getD 8 (0, 0)).1) (fun _ => ((shL [] (0, 0)).getD 8 (0, 0)).2), .z .f32 (fun _ => ((shL [] (0, 0)).getD 9 (0, 0)).1) (fun _ => ((shL [] (0, 0)).getD 9 (0, 0)).2), .z .f32 (fun _ => ((shL [] (0, 0)).getD 10 (0, 0)).1) (fun _ => ((shL [] (0, 0)).getD 10 (0, 0)).2), .z .f32 (fun _ => ((shL [] (0, 0)).getD 11 (0, 0)).1) (fun _ => ((shL [] (0, 0)).getD 11 (0, 0)).2), .z .f32 (fun _ => ((shL [] (0, 0)).getD 12 (0, 0)).1) (fun _ => ((shL [] (0, 0)).getD 12 (0, 0)).2), .z .f32 (fun _ => ((shL [] (0, 0)).getD 13 (0, 0)).1) (fun _ => ((shL [] (0, 0)).getD 13 (0, 0)).2), .z .f32 (fun _ => ((shL [] (0, 0)).getD 14 (0, 0)).1) (fun _ => ((shL [] (0, 0)).getD 14 (0, 0)).2), .z .f32 (fun _ => ((shL [] (0, 0)).getD 15 (0, 0)).1) (fun _ => ((shL [] (0, 0)).getD 15 (0, 0)).2)], [], [])
  | _, _ => none
def E41 : Env := fun g => envGetL [(54, ⟨false, s54, none⟩), (99, ⟨false, s99, none⟩)] g
theorem E41ok : EnvOk Tryz.prog E41 := envOk_cons ok54 (envOk_cons ok99 (envOk_nil _))
set_option maxRecDepth 100000 in
set_option maxHeartbeats 1000000 in
theorem ok41 : Ok Tryz.prog 41 (s41) := ok_of_wpaH (E := E41) mixed tts E41ok fn41 fun args H v H' o hs ho => by
  split at hs
  · rename_i o n L
    cases hs
    have hcb := ho.one
    refine ⟨_, HLe.refl _, ?_⟩
    cbv
    repeat' (refine Ob.mk ?_ ?_; (focus (first | exact rfl | exact hcb | exact ⟨by decide, by decide⟩ | decide)); cbv)
  · cases hs
    refine ⟨_, HLe.refl _, ?_⟩
    cbv
    repeat' (refine Ob.mk ?_ ?_; (focus (first | exact rfl | exact hcb | exact ⟨by decide, by decide⟩ | decide)); cbv)
  · cases hs
end Rg
end Go.Proofs.YteifneielgnniaaGreatDoor.Sh
end
