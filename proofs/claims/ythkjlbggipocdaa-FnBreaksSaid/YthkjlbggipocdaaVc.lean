/- What the tests of webs and the rates of this seat compute, each shown once. No condition. -/
import Derived.Test.YthkjlbggipocdaaVb
set_option linter.unusedVariables false
set_option linter.unusedSimpArgs false
set_option linter.unusedSectionVars false
namespace Go.Proofs.Ythkjlbggipocdaa.Sh
open Go Go.Proofs
theorem fn115 : FnOk Try.prog 115 Try.f115 (bodyOf Try.f115) := ⟨Try.func115, rfl, by rfl⟩
def s115 : Spec := hspec fun args H => match args, H with
  | [.c (.f .f32 a), .c (.f .f32 lo), .c (.f .f32 hi)], [] => some (vB (isIn (a ()) (lo ()) (hi ())), [], [])
  | _, _ => none
theorem ok115 : Ok Try.prog 115 (s115) := ok_of_wpaH (E := envGetL []) mixed tts (envOk_nil _) fn115 fun args H v H' o hs ho => by
  split at hs
  · rename_i a lo hi
    cases hs
    refine ⟨_, HLe.nil, ?_⟩
    cbv
    repeat' first
      | (refine alt_t (by assumption) ?_; cbv)
      | (refine alt_f (by assumption) ?_; cbv)
      | (refine alt_b (fun h => ?_) (fun h => ?_) <;> cbv)
      | (refine Br.mk (fun h => ?_) (fun h => ?_) <;> cbv)
      | (refine Ob.mk ?_ ?_; rotate_left; cbv)
      | (refine Lex.mk (by kernel_rfl) ?_; cbv)
    all_goals (try simp only [Unit.unit, Int.ofNat_lt, Int.ofNat_le, BE.val, IE.val, NE.val, ltB_iff, ltB_no, leB_iff, leB_no, Int.toNat_natCast, Nat.zero_add, Nat.add_zero, Nat.mul_one, forced, beq_iff_eq, beq_eq_false_iff_ne] at *)
    all_goals first | with_reducible rfl | (simp_all [isIn]; done) | grind [isIn]
  · cases hs
theorem fn116 : FnOk Try.prog 116 Try.f116 (bodyOf Try.f116) := ⟨Try.func116, rfl, by rfl⟩
def s116 : Spec := hspec fun args H => match args, H with
  | [.c (.f .f32 a)], [] => some (vB (isSpd (a ())), [], [])
  | _, _ => none
def E116 : Env := fun g => envGetL [(115, ⟨true, s115, none⟩)] g
theorem E116ok : EnvOk Try.prog E116 := envOk_cons ok115 (envOk_nil _)
theorem ok116 : Ok Try.prog 116 (s116) := ok_of_wpaH (E := E116) mixed tts E116ok fn116 fun args H v H' o hs ho => by
  split at hs
  · rename_i a
    cases hs
    refine ⟨_, HLe.nil, ?_⟩
    cbv
    repeat' first
      | (refine alt_t (by assumption) ?_; cbv)
      | (refine alt_f (by assumption) ?_; cbv)
      | (refine alt_b (fun h => ?_) (fun h => ?_) <;> cbv)
      | (refine Br.mk (fun h => ?_) (fun h => ?_) <;> cbv)
      | (refine Ob.mk ?_ ?_; rotate_left; cbv)
      | (refine Lex.mk (by kernel_rfl) ?_; cbv)
    all_goals (try simp only [Unit.unit, Int.ofNat_lt, Int.ofNat_le, BE.val, IE.val, NE.val, ltB_iff, ltB_no, leB_iff, leB_no, Int.toNat_natCast, Nat.zero_add, Nat.add_zero, Nat.mul_one, forced, beq_iff_eq, beq_eq_false_iff_ne] at *)
    all_goals first | with_reducible rfl | (simp_all [isSpd, isIn]; done) | grind [isSpd, isIn]
  · cases hs
theorem fn90 : FnOk Try.prog 90 Try.f90 (bodyOf Try.f90) := ⟨Try.func90, rfl, by rfl⟩
def s90 : Spec := hspec fun args H => match args, H with
  | [.c (.f .f32 a)], [] => some (vB (isPlain (a ())), [], [])
  | _, _ => none
def E90 : Env := fun g => envGetL [(115, ⟨true, s115, none⟩)] g
theorem E90ok : EnvOk Try.prog E90 := envOk_cons ok115 (envOk_nil _)
theorem ok90 : Ok Try.prog 90 (s90) := ok_of_wpaH (E := E90) mixed tts E90ok fn90 fun args H v H' o hs ho => by
  split at hs
  · rename_i a
    cases hs
    refine ⟨_, HLe.nil, ?_⟩
    cbv
    repeat' first
      | (refine alt_t (by assumption) ?_; cbv)
      | (refine alt_f (by assumption) ?_; cbv)
      | (refine alt_b (fun h => ?_) (fun h => ?_) <;> cbv)
      | (refine Br.mk (fun h => ?_) (fun h => ?_) <;> cbv)
      | (refine Ob.mk ?_ ?_; rotate_left; cbv)
      | (refine Lex.mk (by kernel_rfl) ?_; cbv)
    all_goals (try simp only [Unit.unit, Int.ofNat_lt, Int.ofNat_le, BE.val, IE.val, NE.val, ltB_iff, ltB_no, leB_iff, leB_no, Int.toNat_natCast, Nat.zero_add, Nat.add_zero, Nat.mul_one, forced, beq_iff_eq, beq_eq_false_iff_ne] at *)
    all_goals first | with_reducible rfl | (simp_all [isPlain, isIn]; done) | grind [isPlain, isIn]
  · cases hs
theorem fn101 : FnOk Try.prog 101 Try.f101 (bodyOf Try.f101) := ⟨Try.func101, rfl, by rfl⟩
def s101 : Spec := hspec fun args H => match args, H with
  | [.c (.f .f32 a)], [] => some (vB (isTime (a ())), [], [])
  | _, _ => none
def E101 : Env := fun g => envGetL [(115, ⟨true, s115, none⟩)] g
theorem E101ok : EnvOk Try.prog E101 := envOk_cons ok115 (envOk_nil _)
theorem ok101 : Ok Try.prog 101 (s101) := ok_of_wpaH (E := E101) mixed tts E101ok fn101 fun args H v H' o hs ho => by
  split at hs
  · rename_i a
    cases hs
    refine ⟨_, HLe.nil, ?_⟩
    cbv
    repeat' first
      | (refine alt_t (by assumption) ?_; cbv)
      | (refine alt_f (by assumption) ?_; cbv)
      | (refine alt_b (fun h => ?_) (fun h => ?_) <;> cbv)
      | (refine Br.mk (fun h => ?_) (fun h => ?_) <;> cbv)
      | (refine Ob.mk ?_ ?_; rotate_left; cbv)
      | (refine Lex.mk (by kernel_rfl) ?_; cbv)
    all_goals (try simp only [Unit.unit, Int.ofNat_lt, Int.ofNat_le, BE.val, IE.val, NE.val, ltB_iff, ltB_no, leB_iff, leB_no, Int.toNat_natCast, Nat.zero_add, Nat.add_zero, Nat.mul_one, forced, beq_iff_eq, beq_eq_false_iff_ne] at *)
    all_goals first | with_reducible rfl | (simp_all [isTime, isIn]; done) | grind [isTime, isIn]
  · cases hs
theorem fn102 : FnOk Try.prog 102 Try.f102 (bodyOf Try.f102) := ⟨Try.func102, rfl, by rfl⟩
def s102 : Spec := hspec fun args H => match args, H with
  | [.c (.f .f32 a)], [] => some (vB (isFilm (a ())), [], [])
  | _, _ => none
def E102 : Env := fun g => envGetL [(115, ⟨true, s115, none⟩)] g
theorem E102ok : EnvOk Try.prog E102 := envOk_cons ok115 (envOk_nil _)
theorem ok102 : Ok Try.prog 102 (s102) := ok_of_wpaH (E := E102) mixed tts E102ok fn102 fun args H v H' o hs ho => by
  split at hs
  · rename_i a
    cases hs
    refine ⟨_, HLe.nil, ?_⟩
    cbv
    repeat' first
      | (refine alt_t (by assumption) ?_; cbv)
      | (refine alt_f (by assumption) ?_; cbv)
      | (refine alt_b (fun h => ?_) (fun h => ?_) <;> cbv)
      | (refine Br.mk (fun h => ?_) (fun h => ?_) <;> cbv)
      | (refine Ob.mk ?_ ?_; rotate_left; cbv)
      | (refine Lex.mk (by kernel_rfl) ?_; cbv)
    all_goals (try simp only [Unit.unit, Int.ofNat_lt, Int.ofNat_le, BE.val, IE.val, NE.val, ltB_iff, ltB_no, leB_iff, leB_no, Int.toNat_natCast, Nat.zero_add, Nat.add_zero, Nat.mul_one, forced, beq_iff_eq, beq_eq_false_iff_ne] at *)
    all_goals first | with_reducible rfl | (simp_all [isFilm, isIn]; done) | grind [isFilm, isIn]
  · cases hs
theorem fn93 : FnOk Try.prog 93 Try.f93 (bodyOf Try.f93) := ⟨Try.func93, rfl, by rfl⟩
def s93 : Spec := hspec fun args H => match args, H with
  | [.c (.f .f32 a)], [] => some (vB (isPlain (a ())), [], [])
  | _, _ => none
theorem ok93 : Ok Try.prog 93 (s93) := ok_of_wpaH (E := envGetL []) mixed tts (envOk_nil _) fn93 fun args H v H' o hs ho => by
  split at hs
  · rename_i a
    cases hs
    refine ⟨_, HLe.nil, ?_⟩
    cbv
    repeat' first
      | (refine alt_t (by assumption) ?_; cbv)
      | (refine alt_f (by assumption) ?_; cbv)
      | (refine alt_b (fun h => ?_) (fun h => ?_) <;> cbv)
      | (refine Br.mk (fun h => ?_) (fun h => ?_) <;> cbv)
      | (refine Ob.mk ?_ ?_; rotate_left; cbv)
      | (refine Lex.mk (by kernel_rfl) ?_; cbv)
    all_goals (try simp only [Unit.unit, Int.ofNat_lt, Int.ofNat_le, BE.val, IE.val, NE.val, ltB_iff, ltB_no, leB_iff, leB_no, Int.toNat_natCast, Nat.zero_add, Nat.add_zero, Nat.mul_one, forced, beq_iff_eq, beq_eq_false_iff_ne] at *)
    all_goals first | with_reducible rfl | (simp_all [isPlain, isIn]; done) | grind [isPlain, isIn]
  · cases hs
theorem fn134 : FnOk Try.prog 134 Try.f134 (bodyOf Try.f134) := ⟨Try.func134, rfl, by rfl⟩
def s134 : Spec := hspec fun args H => match args, H with
  | [.c (.f .f32 a)], [] => some (vB (isSpd (a ())), [], [])
  | _, _ => none
theorem ok134 : Ok Try.prog 134 (s134) := ok_of_wpaH (E := envGetL []) mixed tts (envOk_nil _) fn134 fun args H v H' o hs ho => by
  split at hs
  · rename_i a
    cases hs
    refine ⟨_, HLe.nil, ?_⟩
    cbv
    repeat' first
      | (refine alt_t (by assumption) ?_; cbv)
      | (refine alt_f (by assumption) ?_; cbv)
      | (refine alt_b (fun h => ?_) (fun h => ?_) <;> cbv)
      | (refine Br.mk (fun h => ?_) (fun h => ?_) <;> cbv)
      | (refine Ob.mk ?_ ?_; rotate_left; cbv)
      | (refine Lex.mk (by kernel_rfl) ?_; cbv)
    all_goals (try simp only [Unit.unit, Int.ofNat_lt, Int.ofNat_le, BE.val, IE.val, NE.val, ltB_iff, ltB_no, leB_iff, leB_no, Int.toNat_natCast, Nat.zero_add, Nat.add_zero, Nat.mul_one, forced, beq_iff_eq, beq_eq_false_iff_ne] at *)
    all_goals first | with_reducible rfl | (simp_all [isSpd, isIn]; done) | grind [isSpd, isIn]
  · cases hs
theorem fn106 : FnOk Try.prog 106 Try.f106 (bodyOf Try.f106) := ⟨Try.func106, rfl, by rfl⟩
def s106 : Spec := hspec fun args H => match args, H with
  | [.c (.f .f32 a)], [] => some (vB (isTime (a ())), [], [])
  | _, _ => none
theorem ok106 : Ok Try.prog 106 (s106) := ok_of_wpaH (E := envGetL []) mixed tts (envOk_nil _) fn106 fun args H v H' o hs ho => by
  split at hs
  · rename_i a
    cases hs
    refine ⟨_, HLe.nil, ?_⟩
    cbv
    repeat' first
      | (refine alt_t (by assumption) ?_; cbv)
      | (refine alt_f (by assumption) ?_; cbv)
      | (refine alt_b (fun h => ?_) (fun h => ?_) <;> cbv)
      | (refine Br.mk (fun h => ?_) (fun h => ?_) <;> cbv)
      | (refine Ob.mk ?_ ?_; rotate_left; cbv)
      | (refine Lex.mk (by kernel_rfl) ?_; cbv)
    all_goals (try simp only [Unit.unit, Int.ofNat_lt, Int.ofNat_le, BE.val, IE.val, NE.val, ltB_iff, ltB_no, leB_iff, leB_no, Int.toNat_natCast, Nat.zero_add, Nat.add_zero, Nat.mul_one, forced, beq_iff_eq, beq_eq_false_iff_ne] at *)
    all_goals first | with_reducible rfl | (simp_all [isTime, isIn]; done) | grind [isTime, isIn]
  · cases hs
theorem fn91 : FnOk Try.prog 91 Try.f91 (bodyOf Try.f91) := ⟨Try.func91, rfl, by rfl⟩
def s91 : Spec := hspec fun args H => match args, H with
  | [.c (.f .f32 a), .c (.f .f32 b)], [] => some (F (fop .mul .f32 (a ()) (b ())), [], [])
  | _, _ => none
theorem ok91 : Ok Try.prog 91 (s91) := ok_of_wpaH (E := envGetL []) mixed tts (envOk_nil _) fn91 fun args H v H' o hs ho => by
  split at hs
  · rename_i a b
    cases hs
    refine ⟨_, HLe.nil, ?_⟩
    cbv
    repeat' first
      | (refine alt_t (by assumption) ?_; cbv)
      | (refine alt_f (by assumption) ?_; cbv)
      | (refine alt_b (fun h => ?_) (fun h => ?_) <;> cbv)
      | (refine Br.mk (fun h => ?_) (fun h => ?_) <;> cbv)
      | (refine Ob.mk ?_ ?_; rotate_left; cbv)
      | (refine Lex.mk (by kernel_rfl) ?_; cbv)
    all_goals (try simp only [Unit.unit, Int.ofNat_lt, Int.ofNat_le, BE.val, IE.val, NE.val, ltB_iff, ltB_no, leB_iff, leB_no, Int.toNat_natCast, Nat.zero_add, Nat.add_zero, Nat.mul_one, forced, beq_iff_eq, beq_eq_false_iff_ne] at *)
    all_goals first | with_reducible rfl | (simp_all; done) | grind
  · cases hs
theorem fn135 : FnOk Try.prog 135 Try.f135 (bodyOf Try.f135) := ⟨Try.func135, rfl, by rfl⟩
def s135 : Spec := hspec fun args H => match args, H with
  | [.c (.i .i64 (.x a)), .c (.i .i64 (.x b)), .c (.i .i64 (.x d))], [] => some (vB (inI (a ()) (b ()) (d ())), [], [])
  | _, _ => none
theorem ok135 : Ok Try.prog 135 (s135) := ok_of_wpaH (E := envGetL []) mixed tts (envOk_nil _) fn135 fun args H v H' o hs ho => by
  split at hs
  · rename_i a b d
    cases hs
    refine ⟨_, HLe.nil, ?_⟩
    cbv
    repeat' first
      | (refine alt_t (by assumption) ?_; cbv)
      | (refine alt_f (by assumption) ?_; cbv)
      | (refine alt_b (fun h => ?_) (fun h => ?_) <;> cbv)
      | (refine Br.mk (fun h => ?_) (fun h => ?_) <;> cbv)
      | (refine Ob.mk ?_ ?_; rotate_left; cbv)
      | (refine Lex.mk (by kernel_rfl) ?_; cbv)
    all_goals (try simp only [Unit.unit, Int.ofNat_lt, Int.ofNat_le, BE.val, IE.val, NE.val, ltB_iff, ltB_no, leB_iff, leB_no, Int.toNat_natCast, Nat.zero_add, Nat.add_zero, Nat.mul_one, forced, beq_iff_eq, beq_eq_false_iff_ne] at *)
    all_goals first | with_reducible rfl | (simp_all [inI, leB]; done) | grind [inI, leB]
  · cases hs
theorem fn103 : FnOk Try.prog 103 Try.f103 (bodyOf Try.f103) := ⟨Try.func103, rfl, by rfl⟩
def s103 : Spec := hspec fun args H => match args, H with
  | [.c (.i .i64 (.x a))], [] => some (vB (isCount (a ())), [], [])
  | _, _ => none
theorem ok103 : Ok Try.prog 103 (s103) := ok_of_wpaH (E := envGetL []) mixed tts (envOk_nil _) fn103 fun args H v H' o hs ho => by
  split at hs
  · rename_i a
    cases hs
    refine ⟨_, HLe.nil, ?_⟩
    cbv
    repeat' first
      | (refine alt_t (by assumption) ?_; cbv)
      | (refine alt_f (by assumption) ?_; cbv)
      | (refine alt_b (fun h => ?_) (fun h => ?_) <;> cbv)
      | (refine Br.mk (fun h => ?_) (fun h => ?_) <;> cbv)
      | (refine Ob.mk ?_ ?_; rotate_left; cbv)
      | (refine Lex.mk (by kernel_rfl) ?_; cbv)
    all_goals (try simp only [Unit.unit, Int.ofNat_lt, Int.ofNat_le, BE.val, IE.val, NE.val, ltB_iff, ltB_no, leB_iff, leB_no, Int.toNat_natCast, Nat.zero_add, Nat.add_zero, Nat.mul_one, forced, beq_iff_eq, beq_eq_false_iff_ne] at *)
    all_goals first | with_reducible rfl | (simp_all [isCount, inI, leB]; done) | grind [isCount, inI, leB]
  · cases hs
theorem fn107 : FnOk Try.prog 107 Try.f107 (bodyOf Try.f107) := ⟨Try.func107, rfl, by rfl⟩
def s107 : Spec := hspec fun args H => match args, H with
  | [.c (.i .i64 (.x a))], [] => some (vB (isCount (a ())), [], [])
  | _, _ => none
def E107 : Env := fun g => envGetL [(135, ⟨true, s135, none⟩)] g
theorem E107ok : EnvOk Try.prog E107 := envOk_cons ok135 (envOk_nil _)
theorem ok107 : Ok Try.prog 107 (s107) := ok_of_wpaH (E := E107) mixed tts E107ok fn107 fun args H v H' o hs ho => by
  split at hs
  · rename_i a
    cases hs
    refine ⟨_, HLe.nil, ?_⟩
    cbv
    repeat' first
      | (refine alt_t (by assumption) ?_; cbv)
      | (refine alt_f (by assumption) ?_; cbv)
      | (refine alt_b (fun h => ?_) (fun h => ?_) <;> cbv)
      | (refine Br.mk (fun h => ?_) (fun h => ?_) <;> cbv)
      | (refine Ob.mk ?_ ?_; rotate_left; cbv)
      | (refine Lex.mk (by kernel_rfl) ?_; cbv)
    all_goals (try simp only [Unit.unit, Int.ofNat_lt, Int.ofNat_le, BE.val, IE.val, NE.val, ltB_iff, ltB_no, leB_iff, leB_no, Int.toNat_natCast, Nat.zero_add, Nat.add_zero, Nat.mul_one, forced, beq_iff_eq, beq_eq_false_iff_ne] at *)
    all_goals first | with_reducible rfl | (simp_all [isCount]; done) | grind [isCount]
  · cases hs
theorem webOk_no {st sp fd : Nat} {l : List Nat} {n i : Nat} (h : i < n) (hs : spanOk l i = false) : webOk st sp fd l n = false := by
  unfold webOk
  rw [allI_no h hs, Bool.and_false]
theorem webOk_yes {st sp fd : Nat} {l : List Nat} {n : Nat} (h : webOk st sp fd l n = true) : 1 ≤ n ∧ n ≤ 8 := by
  simp only [webOk, Bool.and_eq_true, decide_eq_true_eq] at h
  exact h.1.2
theorem fn51 : FnOk Try.prog 51 Try.f51 (bodyOf Try.f51) := ⟨Try.func51, rfl, by rfl⟩
def s51 : Spec := hspec fun args H => match args, H with
  | [.a [.f .f32 st, .f .f32 sp, .f .f32 fd, .sl 0 (.x o) (.x n)]], [some ⟨false, 0, x⟩] => match x.toFl with
    | some l => some (vB (webOk (st ()) (sp ()) (fd ()) (l ()) (n ())), [none], [fun _ => o () = 0 ∧ (l ()).length = 3 * n () ∧ n () ≤ 1048576])
    | _ => none
  | _, _ => none
def E51 : Env := fun g => envGetL [(115, ⟨true, s115, none⟩), (116, ⟨true, s116, none⟩), (90, ⟨true, s90, none⟩)] g
theorem E51ok : EnvOk Try.prog E51 := envOk_cons ok115 (envOk_cons ok116 (envOk_cons ok90 (envOk_nil _)))
set_option maxRecDepth 100000 in
set_option maxHeartbeats 1000000 in
theorem ok51 : Ok Try.prog 51 (s51) := ok_of_wpaH (E := E51) mixed tts E51ok fn51 fun args H v H' o hs ho => by
  split at hs
  · rename_i st sp fd o n x
    split at hs
    · rename_i l hl
      cases hs
      obtain ⟨ho0, hlen, hbig⟩ := ho.one
      try simp only [Unit.unit] at ho0 hlen hbig
      refine ⟨_, HLe.cons (BLe.fl hl) HLe.nil, ?_⟩
      cbv
      repeat' first
        | (refine Br.mk (fun h => ?_) (fun h => ?_) <;> cbv)
        | (refine Ob.mk ?_ ?_; rotate_left; cbv)
      all_goals try (simp only [Unit.unit, Int.ofNat_lt, Int.ofNat_le, BE.val, IE.val, NE.val, ltB_iff, ltB_no, leB_iff, leB_no, Int.toNat_natCast, Nat.zero_add, Nat.add_zero, Nat.mul_one, forced, beq_iff_eq, beq_eq_false_iff_ne] at *; done)
      all_goals try (simp only [Unit.unit, Int.ofNat_lt, Int.ofNat_le, BE.val, IE.val, NE.val, ltB_iff, ltB_no, leB_iff, leB_no, Int.toNat_natCast, Nat.zero_add, Nat.add_zero, Nat.mul_one, forced, beq_iff_eq, beq_eq_false_iff_ne] at *; grind [webOk, isStiff, isFeed, isIn])
      all_goals
        refine loop_rule (α := Unit → Nat) (c := ⟨tt, E51, 1⟩)
            (fun i => fr 57 [(34, .c (.sl 0 (.x o) (.x n))), (35, .c (.i .i64 (.x fun _ => n ()))), (36, .c (.i .i64 (.x fun _ => i ())))]) (fun i => [some ⟨false, 0, .fl l⟩])
            (fun i => i () ≤ n () ∧ allI (spanOk (l ())) (i ()) = true) (fun i => n () - i ()) (fun _ => n () + 1) ?_ ?_
        · refine .mk (fun _ => 0) ⟨Nat.zero_le _, rfl⟩ (by dsimp only; omega) ?_
          cbv
          repeat' (refine Ob.mk ?_ ?_; rotate_left)
          all_goals (try simp only [Unit.unit, Int.ofNat_lt, Int.ofNat_le, BE.val, IE.val, NE.val, ltB_iff, ltB_no, leB_iff, leB_no, Int.toNat_natCast, Nat.zero_add, Nat.add_zero, Nat.mul_one, forced, beq_iff_eq, beq_eq_false_iff_ne] at *)
          all_goals first | with_reducible rfl | trivial
        · intro i hi
          cbv
          repeat' first
            | (refine alt_t (by assumption) ?_; cbv)
            | (refine alt_f (by assumption) ?_; cbv)
            | (refine alt_b (fun h => ?_) (fun h => ?_) <;> cbv)
            | (refine Br.mk (fun h => ?_) (fun h => ?_) <;> cbv)
            | (refine Ob.mk ?_ ?_; rotate_left; cbv)
            | (refine Lex.mk (by kernel_rfl) ?_; cbv)
            | (refine Next.mk (fun _ => i () + 1) ?_ ?_ ?_)
          all_goals (try simp only [Unit.unit, Int.ofNat_lt, Int.ofNat_le, BE.val, IE.val, NE.val, ltB_iff, ltB_no, leB_iff, leB_no, Int.toNat_natCast, Nat.zero_add, Nat.add_zero, Nat.mul_one, forced, beq_iff_eq, beq_eq_false_iff_ne] at *)
          all_goals (try simp only [ho0, Nat.zero_add] at *)
          all_goals first | with_reducible rfl | omega | exact wrap64_nat (by omega) | (refine ⟨Int.natCast_nonneg _, ?_⟩; omega) | (rw [webOk_no (i := i ⟨⟩) (by omega) (by simp_all [spanOk])]; done) | (refine ⟨by omega, ?_⟩; simp_all [allI, spanOk]; done) | ((try rw [show i ⟨⟩ = n ⟨⟩ by omega] at hi); (try simp only [Unit.unit, Int.ofNat_lt, Int.ofNat_le, BE.val, IE.val, NE.val, ltB_iff, ltB_no, leB_iff, leB_no, Int.toNat_natCast, Nat.zero_add, Nat.add_zero, Nat.mul_one, forced, beq_iff_eq, beq_eq_false_iff_ne] at *); grind [webOk, isStiff, isFeed, isIn, inI, leB])
    · cases hs
  · cases hs
theorem fn86 : FnOk Try.prog 86 Try.f86 (bodyOf Try.f86) := ⟨Try.func86, rfl, by rfl⟩
def s86 : Spec := hspec fun args H => match args, H with
  | [.c (.p 0 (.l 0))], [some ⟨false, 0, .lit [.f .f32 st, .f .f32 sp, .f .f32 fd, .sl 1 (.x o) (.x n)]⟩, some ⟨false, 0, x⟩] => match x.toFl with
    | some l => some (vB (webOk (st ()) (sp ()) (fd ()) (l ()) (n ())), [none, none], [fun _ => o () = 0 ∧ (l ()).length = 3 * n () ∧ n () ≤ 1048576])
    | _ => none
  | _, _ => none
def E86 : Env := fun g => envGetL [(134, ⟨true, s134, none⟩), (93, ⟨true, s93, none⟩), (135, ⟨true, s135, none⟩)] g
theorem E86ok : EnvOk Try.prog E86 := envOk_cons ok134 (envOk_cons ok93 (envOk_cons ok135 (envOk_nil _)))
set_option maxRecDepth 100000 in
set_option maxHeartbeats 1000000 in
theorem ok86 : Ok Try.prog 86 (s86) := ok_of_wpaH (E := E86) mixed tts E86ok fn86 fun args H v H' o hs ho => by
  split at hs
  · rename_i st sp fd o n x
    split at hs
    · rename_i l hl
      cases hs
      obtain ⟨ho0, hlen, hbig⟩ := ho.one
      try simp only [Unit.unit] at ho0 hlen hbig
      refine ⟨_, HLe.cons (BLe.refl _) (HLe.cons (BLe.fl hl) HLe.nil), ?_⟩
      cbv
      repeat' first
        | (refine Br.mk (fun h => ?_) (fun h => ?_) <;> cbv)
        | (refine Ob.mk ?_ ?_; rotate_left; cbv)
      all_goals try (simp only [Unit.unit, Int.ofNat_lt, Int.ofNat_le, BE.val, IE.val, NE.val, ltB_iff, ltB_no, leB_iff, leB_no, Int.toNat_natCast, Nat.zero_add, Nat.add_zero, Nat.mul_one, forced, beq_iff_eq, beq_eq_false_iff_ne] at *; done)
      all_goals try (simp only [Unit.unit, Int.ofNat_lt, Int.ofNat_le, BE.val, IE.val, NE.val, ltB_iff, ltB_no, leB_iff, leB_no, Int.toNat_natCast, Nat.zero_add, Nat.add_zero, Nat.mul_one, forced, beq_iff_eq, beq_eq_false_iff_ne] at *; grind [webOk, isStiff, isFeed, isIn])
      all_goals
        refine loop_rule (α := Unit → Nat) (c := ⟨tt, E86, 2⟩)
            (fun i => fr 89 [(0, .c (.p 0 (.l 0))), (3, .c (.i .i64 (.x fun _ => i ())))]) (fun i => [some ⟨false, 0, .lit [.f .f32 st, .f .f32 sp, .f .f32 fd, .sl 1 (.x o) (.x n)]⟩, some ⟨false, 0, .fl l⟩])
            (fun i => i () ≤ n () ∧ allI (spanOk (l ())) (i ()) = true) (fun i => n () - i ()) (fun _ => n () + 1) ?_ ?_
        · refine .mk (fun _ => 0) ⟨Nat.zero_le _, rfl⟩ (by dsimp only; omega) ?_
          cbv
          repeat' (refine Ob.mk ?_ ?_; rotate_left)
          all_goals (try simp only [Unit.unit, Int.ofNat_lt, Int.ofNat_le, BE.val, IE.val, NE.val, ltB_iff, ltB_no, leB_iff, leB_no, Int.toNat_natCast, Nat.zero_add, Nat.add_zero, Nat.mul_one, forced, beq_iff_eq, beq_eq_false_iff_ne] at *)
          all_goals first | with_reducible rfl | trivial
        · intro i hi
          cbv
          repeat' first
            | (refine alt_t (by assumption) ?_; cbv)
            | (refine alt_f (by assumption) ?_; cbv)
            | (refine alt_b (fun h => ?_) (fun h => ?_) <;> cbv)
            | (refine Br.mk (fun h => ?_) (fun h => ?_) <;> cbv)
            | (refine Ob.mk ?_ ?_; rotate_left; cbv)
            | (refine Lex.mk (by kernel_rfl) ?_; cbv)
            | (refine Next.mk (fun _ => i () + 1) ?_ ?_ ?_)
          all_goals (try simp only [Unit.unit, Int.ofNat_lt, Int.ofNat_le, BE.val, IE.val, NE.val, ltB_iff, ltB_no, leB_iff, leB_no, Int.toNat_natCast, Nat.zero_add, Nat.add_zero, Nat.mul_one, forced, beq_iff_eq, beq_eq_false_iff_ne] at *)
          all_goals (try simp only [ho0, Nat.zero_add] at *)
          all_goals first | with_reducible rfl | omega | exact wrap64_nat (by omega) | (refine ⟨Int.natCast_nonneg _, ?_⟩; omega) | (rw [webOk_no (i := i ⟨⟩) (by omega) (by simp_all [spanOk])]; done) | (refine ⟨by omega, ?_⟩; simp_all [allI, spanOk]; done) | ((try rw [show i ⟨⟩ = n ⟨⟩ by omega] at hi); (try simp only [Unit.unit, Int.ofNat_lt, Int.ofNat_le, BE.val, IE.val, NE.val, ltB_iff, ltB_no, leB_iff, leB_no, Int.toNat_natCast, Nat.zero_add, Nat.add_zero, Nat.mul_one, forced, beq_iff_eq, beq_eq_false_iff_ne] at *); grind [webOk, isStiff, isFeed, isIn, inI, leB])
    · cases hs
  · cases hs
theorem fn49 : FnOk Try.prog 49 Try.f49 (bodyOf Try.f49) := ⟨Try.func49, rfl, by rfl⟩
def s49 : Spec := hspec fun args H => match args, H with
  | [.a [.f .f32 st, .f .f32 sp, .f .f32 fd, .sl 0 (.x o) (.x n)]], [some ⟨false, 0, x⟩] => match x.toFl with
    | some l => some (vB (webOk (st ()) (sp ()) (fd ()) (l ()) (n ())), [none], [fun _ => o () = 0 ∧ (l ()).length = 3 * n () ∧ n () ≤ 1048576])
    | _ => none
  | _, _ => none
def E49 : Env := fun g => envGetL [(86, ⟨true, s86, none⟩)] g
theorem E49ok : EnvOk Try.prog E49 := envOk_cons ok86 (envOk_nil _)
theorem ok49 : Ok Try.prog 49 (s49) := ok_of_wpaH (E := E49) mixed tts E49ok fn49 fun args H v H' o hs ho => by
  split at hs
  · rename_i st sp fd o n x
    split at hs
    · rename_i l hl
      cases hs
      obtain ⟨ho0, hlen, hbig⟩ := ho.one
      try simp only [Unit.unit] at ho0 hlen hbig
      refine ⟨_, HLe.cons (BLe.fl hl) HLe.nil, ?_⟩
      cbv
      repeat' first
        | (refine alt_t (by assumption) ?_; cbv)
        | (refine alt_f (by assumption) ?_; cbv)
        | (refine alt_b (fun h => ?_) (fun h => ?_) <;> cbv)
        | (refine Br.mk (fun h => ?_) (fun h => ?_) <;> cbv)
        | (refine Ob.mk ?_ ?_; rotate_left; cbv)
        | (refine Lex.mk (by kernel_rfl) ?_; cbv)
      all_goals (try simp only [Unit.unit, Int.ofNat_lt, Int.ofNat_le, BE.val, IE.val, NE.val, ltB_iff, ltB_no, leB_iff, leB_no, Int.toNat_natCast, Nat.zero_add, Nat.add_zero, Nat.mul_one, forced, beq_iff_eq, beq_eq_false_iff_ne] at *)
      all_goals first | with_reducible rfl | exact ⟨ho0, hlen, hbig⟩ | grind
    · cases hs
  · cases hs
theorem fn88 : FnOk Try.prog 88 Try.f88 (bodyOf Try.f88) := ⟨Try.func88, rfl, by rfl⟩
def s88 : Spec := hspec fun args H => match args, H with
  | [.a [.f .f32 st, .f .f32 sp, .f .f32 fd, .sl 0 (.x o) (.x n)]], [some ⟨false, 0, x⟩] => match x.toFl with
    | some l => some (.a [.f .f32 st, .f .f32 sp, .f .f32 fd, .sl 1 (.l 0) (.x n)], [none, some ⟨true, 3, .fl l⟩], [fun _ => o () = 0 ∧ (l ()).length = 3 * n () ∧ n () ≤ 1048576])
    | _ => none
  | _, _ => none
theorem ok88 : Ok Try.prog 88 (s88) := ok_of_wpaH (E := envGetL []) mixed tts (envOk_nil _) fn88 fun args H v H' o hs ho => by
  split at hs
  · rename_i st sp fd o n x
    split at hs
    · rename_i l hl
      cases hs
      obtain ⟨ho0, hlen, hbig⟩ := ho.one
      try simp only [Unit.unit] at ho0 hlen hbig
      refine ⟨_, HLe.cons (BLe.fl hl) HLe.nil, ?_⟩
      cbv
      repeat' first
        | (refine alt_t (by assumption) ?_; cbv)
        | (refine alt_f (by assumption) ?_; cbv)
        | (refine alt_b (fun h => ?_) (fun h => ?_) <;> cbv)
        | (refine Br.mk (fun h => ?_) (fun h => ?_) <;> cbv)
        | (refine Ob.mk ?_ ?_; rotate_left; cbv)
        | (refine Lex.mk (by kernel_rfl) ?_; cbv)
      all_goals (try simp only [Unit.unit, Int.ofNat_lt, Int.ofNat_le, BE.val, IE.val, NE.val, ltB_iff, ltB_no, leB_iff, leB_no, Int.toNat_natCast, Nat.zero_add, Nat.add_zero, Nat.mul_one, forced, beq_iff_eq, beq_eq_false_iff_ne] at *)
      all_goals first | with_reducible rfl | (rw [ho0, seg_all hlen]; rfl) | (rw [ho0]; exact seg_all hlen) | (simp only [ho0, List.nil_append, seg_all hlen]; done) | grind
    · cases hs
  · cases hs
theorem fn89 : FnOk Try.prog 89 Try.f89 (bodyOf Try.f89) := ⟨Try.func89, rfl, by rfl⟩
def s89 : Spec := hspec fun args H => match args, H with
  | [.c (.p 0 (.l 0))], [some ⟨false, 0, .lit [.f .f32 st, .f .f32 sp, .f .f32 fd, .sl 1 (.x o) (.x n)]⟩, some ⟨false, 0, x⟩] => match x.toFl with
    | some l => some (.a [.f .f32 st, .f .f32 sp, .f .f32 fd, .sl 2 (.l 0) (.x n)], [none, none, some ⟨true, 3, .fl l⟩], [fun _ => o () = 0 ∧ (l ()).length = 3 * n () ∧ n () ≤ 1048576])
    | _ => none
  | _, _ => none
theorem ok89 : Ok Try.prog 89 (s89) := ok_of_wpaH (E := envGetL []) mixed tts (envOk_nil _) fn89 fun args H v H' o hs ho => by
  split at hs
  · rename_i st sp fd o n x
    split at hs
    · rename_i l hl
      cases hs
      obtain ⟨ho0, hlen, hbig⟩ := ho.one
      try simp only [Unit.unit] at ho0 hlen hbig
      refine ⟨_, HLe.cons (BLe.refl _) (HLe.cons (BLe.fl hl) HLe.nil), ?_⟩
      cbv
      repeat' first
        | (refine alt_t (by assumption) ?_; cbv)
        | (refine alt_f (by assumption) ?_; cbv)
        | (refine alt_b (fun h => ?_) (fun h => ?_) <;> cbv)
        | (refine Br.mk (fun h => ?_) (fun h => ?_) <;> cbv)
        | (refine Ob.mk ?_ ?_; rotate_left; cbv)
        | (refine Lex.mk (by kernel_rfl) ?_; cbv)
      all_goals (try simp only [Unit.unit, Int.ofNat_lt, Int.ofNat_le, BE.val, IE.val, NE.val, ltB_iff, ltB_no, leB_iff, leB_no, Int.toNat_natCast, Nat.zero_add, Nat.add_zero, Nat.mul_one, forced, beq_iff_eq, beq_eq_false_iff_ne] at *)
      all_goals first | with_reducible rfl | (rw [ho0, seg_all hlen]; rfl) | (rw [ho0]; exact seg_all hlen) | (simp only [ho0, List.nil_append, seg_all hlen]; done) | grind
    · cases hs
  · cases hs
theorem fn110 : FnOk Try.prog 110 Try.f110 (bodyOf Try.f110) := ⟨Try.func110, rfl, by rfl⟩
def s110 : Spec := hspec fun args H => match args, H with
  | [.a [.f .f32 st, .f .f32 sp, .f .f32 fd, .sl 0 (.x o) (.x n)], .c (.i .i64 (.x k))], [some ⟨false, 0, x⟩] => match x.toFl with
    | some l => some (vI (askedC (webOk (st ()) (sp ()) (fd ()) (l ()) (n ())) (k ()) (n ())), [none], [fun _ => o () = 0 ∧ (l ()).length = 3 * n () ∧ n () ≤ 1048576])
    | _ => none
  | _, _ => none
def E110 : Env := fun g => envGetL [(51, ⟨true, s51, none⟩)] g
theorem E110ok : EnvOk Try.prog E110 := envOk_cons ok51 (envOk_nil _)
theorem ok110 : Ok Try.prog 110 (s110) := ok_of_wpaH (E := E110) mixed tts E110ok fn110 fun args H v H' o hs ho => by
  split at hs
  · rename_i st sp fd o n k x
    split at hs
    · rename_i l hl
      cases hs
      obtain ⟨ho0, hlen, hbig⟩ := ho.one
      try simp only [Unit.unit] at ho0 hlen hbig
      refine ⟨_, HLe.cons (BLe.fl hl) HLe.nil, ?_⟩
      cbv
      repeat' first
        | (refine alt_t (by assumption) ?_; cbv)
        | (refine alt_f (by assumption) ?_; cbv)
        | (refine alt_b (fun h => ?_) (fun h => ?_) <;> cbv)
        | (refine Br.mk (fun h => ?_) (fun h => ?_) <;> cbv)
        | (refine Ob.mk ?_ ?_; rotate_left; cbv)
        | (refine Lex.mk (by kernel_rfl) ?_; cbv)
      all_goals (try simp only [Unit.unit, Int.ofNat_lt, Int.ofNat_le, BE.val, IE.val, NE.val, ltB_iff, ltB_no, leB_iff, leB_no, Int.toNat_natCast, Nat.zero_add, Nat.add_zero, Nat.mul_one, forced, beq_iff_eq, beq_eq_false_iff_ne] at *)
      all_goals first | with_reducible rfl | exact ⟨ho0, hlen, hbig⟩ | (simp_all [askedC, inI, leB]; done) | grind [askedC, inI, leB]
    · cases hs
  · cases hs
theorem fn119 : FnOk Try.prog 119 Try.f119 (bodyOf Try.f119) := ⟨Try.func119, rfl, by rfl⟩
def s119 : Spec := hspec fun args H => match args, H with
  | [.c (.p 0 (.l 0)), .c (.i .i64 (.x k))], [some ⟨false, 0, .lit [.f .f32 st, .f .f32 sp, .f .f32 fd, .sl 1 (.x o) (.x n)]⟩, some ⟨false, 0, x⟩] => match x.toFl with
    | some l => some (vI (askedC (webOk (st ()) (sp ()) (fd ()) (l ()) (n ())) (k ()) (n ())), [none, none], [fun _ => o () = 0 ∧ (l ()).length = 3 * n () ∧ n () ≤ 1048576])
    | _ => none
  | _, _ => none
def E119 : Env := fun g => envGetL [(86, ⟨true, s86, none⟩), (135, ⟨true, s135, none⟩)] g
theorem E119ok : EnvOk Try.prog E119 := envOk_cons ok86 (envOk_cons ok135 (envOk_nil _))
theorem ok119 : Ok Try.prog 119 (s119) := ok_of_wpaH (E := E119) mixed tts E119ok fn119 fun args H v H' o hs ho => by
  split at hs
  · rename_i k st sp fd o n x
    split at hs
    · rename_i l hl
      cases hs
      obtain ⟨ho0, hlen, hbig⟩ := ho.one
      try simp only [Unit.unit] at ho0 hlen hbig
      have hwn : IntKind.wrap .i64 ((n ⟨⟩ : Int) - 1) = (n ⟨⟩ : Int) - 1 := wrap64 (by omega) (by omega)
      refine ⟨_, HLe.cons (BLe.refl _) (HLe.cons (BLe.fl hl) HLe.nil), ?_⟩
      cbv
      repeat' first
        | (refine alt_t (by assumption) ?_; cbv)
        | (refine alt_f (by assumption) ?_; cbv)
        | (refine alt_b (fun h => ?_) (fun h => ?_) <;> cbv)
        | (refine Br.mk (fun h => ?_) (fun h => ?_) <;> cbv)
        | (refine Ob.mk ?_ ?_; rotate_left; cbv)
        | (refine Lex.mk (by kernel_rfl) ?_; cbv)
      all_goals (try simp only [Unit.unit, Int.ofNat_lt, Int.ofNat_le, BE.val, IE.val, NE.val, ltB_iff, ltB_no, leB_iff, leB_no, Int.toNat_natCast, Nat.zero_add, Nat.add_zero, Nat.mul_one, forced, beq_iff_eq, beq_eq_false_iff_ne] at *)
      all_goals first | with_reducible rfl | exact ⟨ho0, hlen, hbig⟩ | ((try simp only [hwn] at *); first | (simp_all [askedC]; done) | grind [askedC])
    · cases hs
  · cases hs
theorem kn {k : Int} {n : Nat} (h : 0 ≤ k ∧ k.toNat < n) : 0 ≤ k ∧ k < (n : Int) := by omega
theorem wrapPred {k : Int} (h : 0 < k) (hk : k < 4611686018427387904) : (IntKind.wrap .i64 (k - 1)).toNat = k.toNat - 1 := by
  rw [wrap64 (by omega) (by omega)]; omega
theorem fn120 : FnOk Try.prog 120 Try.f120 (bodyOf Try.f120) := ⟨Try.func120, rfl, by rfl⟩
def s120 : Spec := hspec fun args H => match args, H with
  | [.c (.p 0 (.l 0)), .c (.i .i64 (.x k))], [some ⟨false, 0, .lit [.f .f32 st, .f .f32 sp, .f .f32 fd, .sl 1 (.x o) (.x n)]⟩, some ⟨false, 0, x⟩] => match x.toFl with
    | some l => some (.t [F (uB (sp ()) (l ()) (k ()).toNat), F (tB (fd ()) (l ()) (k ()).toNat)], [none, none], [fun _ => o () = 0 ∧ (l ()).length = 3 * n () ∧ n () ≤ 1048576, fun _ => 0 ≤ k () ∧ (k ()).toNat < n ()])
    | _ => none
  | _, _ => none
theorem ok120 : Ok Try.prog 120 (s120) := ok_of_wpaH (E := envGetL []) mixed tts (envOk_nil _) fn120 fun args H v H' o hs ho => by
  split at hs
  · rename_i k st sp fd o n x
    split at hs
    · rename_i l hl
      cases hs
      obtain ⟨⟨ho0, hlen, hbig⟩, hx0⟩ := ho.two
      try simp only [Unit.unit] at ho0 hlen hbig hx0
      have hw : 0 < k ⟨⟩ → (IntKind.wrap .i64 (k ⟨⟩ - 1)).toNat = (k ⟨⟩).toNat - 1 := fun h => wrapPred h (by omega)
      have hw3 : 0 < k ⟨⟩ → 0 ≤ IntKind.wrap .i64 (k ⟨⟩ - 1) ∧ IntKind.wrap .i64 (k ⟨⟩ - 1) < (n ⟨⟩ : Int) := fun h => by rw [wrap64 (by omega) (by omega)]; omega
      have hw4 : 0 < k ⟨⟩ → (IntKind.wrap .i64 (k ⟨⟩ - 1)).toNat < n ⟨⟩ := fun h => by rw [wrap64 (by omega) (by omega)]; omega
      refine ⟨_, HLe.cons (BLe.refl _) (HLe.cons (BLe.fl hl) HLe.nil), ?_⟩
      cbv
      repeat' first
        | (refine alt_t (by assumption) ?_; cbv)
        | (refine alt_f (by assumption) ?_; cbv)
        | (refine alt_b (fun h => ?_) (fun h => ?_) <;> cbv)
        | (refine Br.mk (fun h => ?_) (fun h => ?_) <;> cbv)
        | (refine Ob.mk ?_ ?_; rotate_left; cbv)
        | (refine Lex.mk (by kernel_rfl) ?_; cbv)
      all_goals (try simp only [Unit.unit, Int.ofNat_lt, Int.ofNat_le, BE.val, IE.val, NE.val, ltB_iff, ltB_no, leB_iff, leB_no, Int.toNat_natCast, Nat.zero_add, Nat.add_zero, Nat.mul_one, forced, beq_iff_eq, beq_eq_false_iff_ne] at *)
      all_goals first | with_reducible rfl | (unfold uB; rw [if_pos (by omega)]; done) | (unfold tB; rw [if_pos (by omega)]; done) | (rw [hw (by omega), ho0, Nat.zero_add]; unfold uB; rw [if_neg (by omega)]; done) | (rw [hw (by omega), ho0, Nat.zero_add]; unfold tB; rw [if_neg (by omega)]; done) | (rw [hw (by omega)]; omega) | exact hw3 (by omega) | (have h3 := hw4 (by omega); omega)
    · cases hs
  · cases hs
theorem fn121 : FnOk Try.prog 121 Try.f121 (bodyOf Try.f121) := ⟨Try.func121, rfl, by rfl⟩
def s121 : Spec := hspec fun args H => match args, H with
  | [.c (.p 0 (.l 0)), .c (.i .i64 (.x k))], [some ⟨false, 0, .lit [.f .f32 st, .f .f32 sp, .f .f32 fd, .sl 1 (.x o) (.x n)]⟩, some ⟨false, 0, x⟩] => match x.toFl with
    | some l => some (.t [F (uB (sp ()) (l ()) (k ()).toNat), F (tB (fd ()) (l ()) (k ()).toNat)], [none, none], [fun _ => o () = 0 ∧ (l ()).length = 3 * n () ∧ n () ≤ 1048576, fun _ => 0 ≤ k () ∧ (k ()).toNat < n ()])
    | _ => none
  | _, _ => none
theorem ok121 : Ok Try.prog 121 (s121) := ok_of_wpaH (E := envGetL []) mixed tts (envOk_nil _) fn121 fun args H v H' o hs ho => by
  split at hs
  · rename_i k st sp fd o n x
    split at hs
    · rename_i l hl
      cases hs
      obtain ⟨⟨ho0, hlen, hbig⟩, hx0⟩ := ho.two
      try simp only [Unit.unit] at ho0 hlen hbig hx0
      have hw : 0 < k ⟨⟩ → (IntKind.wrap .i64 (k ⟨⟩ - 1)).toNat = (k ⟨⟩).toNat - 1 := fun h => wrapPred h (by omega)
      have hw3 : 0 < k ⟨⟩ → 0 ≤ IntKind.wrap .i64 (k ⟨⟩ - 1) ∧ IntKind.wrap .i64 (k ⟨⟩ - 1) < (n ⟨⟩ : Int) := fun h => by rw [wrap64 (by omega) (by omega)]; omega
      have hw4 : 0 < k ⟨⟩ → (IntKind.wrap .i64 (k ⟨⟩ - 1)).toNat < n ⟨⟩ := fun h => by rw [wrap64 (by omega) (by omega)]; omega
      refine ⟨_, HLe.cons (BLe.refl _) (HLe.cons (BLe.fl hl) HLe.nil), ?_⟩
      cbv
      repeat' first
        | (refine alt_t (by assumption) ?_; cbv)
        | (refine alt_f (by assumption) ?_; cbv)
        | (refine alt_b (fun h => ?_) (fun h => ?_) <;> cbv)
        | (refine Br.mk (fun h => ?_) (fun h => ?_) <;> cbv)
        | (refine Ob.mk ?_ ?_; rotate_left; cbv)
        | (refine Lex.mk (by kernel_rfl) ?_; cbv)
      all_goals (try simp only [Unit.unit, Int.ofNat_lt, Int.ofNat_le, BE.val, IE.val, NE.val, ltB_iff, ltB_no, leB_iff, leB_no, Int.toNat_natCast, Nat.zero_add, Nat.add_zero, Nat.mul_one, forced, beq_iff_eq, beq_eq_false_iff_ne] at *)
      all_goals first | with_reducible rfl | (unfold uB; rw [if_pos (by omega)]; done) | (unfold tB; rw [if_pos (by omega)]; done) | (rw [hw (by omega), ho0, Nat.zero_add]; unfold uB; rw [if_neg (by omega)]; done) | (rw [hw (by omega), ho0, Nat.zero_add]; unfold tB; rw [if_neg (by omega)]; done) | (rw [hw (by omega)]; omega) | exact hw3 (by omega) | (have h3 := hw4 (by omega); omega)
    · cases hs
  · cases hs
theorem fn111 : FnOk Try.prog 111 Try.f111 (bodyOf Try.f111) := ⟨Try.func111, rfl, by rfl⟩
def s111 : Spec := hspec fun args H => match args, H with
  | [.c (.p 0 (.l 0)), .c (.i .i64 (.x k))], [some ⟨false, 0, .lit [.f .f32 st, .f .f32 sp, .f .f32 fd, .sl 1 (.x o) (.x n)]⟩, some ⟨false, 0, x⟩] => match x.toFl with
    | some l => some (F (rateW (st ()) (sp ()) (fd ()) (l ()) (k ()).toNat), [none, none], [fun _ => o () = 0 ∧ (l ()).length = 3 * n () ∧ n () ≤ 1048576, fun _ => 0 ≤ k () ∧ (k ()).toNat < n ()])
    | _ => none
  | _, _ => none
def E111 : Env := fun g => envGetL [(121, ⟨true, s121, none⟩), (91, ⟨true, s91, none⟩)] g
theorem E111ok : EnvOk Try.prog E111 := envOk_cons ok121 (envOk_cons ok91 (envOk_nil _))
theorem ok111 : Ok Try.prog 111 (s111) := ok_of_wpaH (E := E111) mixed tts E111ok fn111 fun args H v H' o hs ho => by
  split at hs
  · rename_i k st sp fd o n x
    split at hs
    · rename_i l hl
      cases hs
      obtain ⟨⟨ho0, hlen, hbig⟩, hx0⟩ := ho.two
      try simp only [Unit.unit] at ho0 hlen hbig hx0
      refine ⟨_, HLe.cons (BLe.refl _) (HLe.cons (BLe.fl hl) HLe.nil), ?_⟩
      cbv
      repeat' first
        | (refine alt_t (by assumption) ?_; cbv)
        | (refine alt_f (by assumption) ?_; cbv)
        | (refine alt_b (fun h => ?_) (fun h => ?_) <;> cbv)
        | (refine Br.mk (fun h => ?_) (fun h => ?_) <;> cbv)
        | (refine Ob.mk ?_ ?_; rotate_left; cbv)
        | (refine Lex.mk (by kernel_rfl) ?_; cbv)
      all_goals (try simp only [Unit.unit, Int.ofNat_lt, Int.ofNat_le, BE.val, IE.val, NE.val, ltB_iff, ltB_no, leB_iff, leB_no, Int.toNat_natCast, Nat.zero_add, Nat.add_zero, Nat.mul_one, forced, beq_iff_eq, beq_eq_false_iff_ne] at *)
      all_goals first | with_reducible rfl | exact ⟨ho0, hlen, hbig⟩ | exact hx0 | exact kn hx0 | omega | (simp only [rateW, ho0, Nat.zero_add]; done) | (rw [ho0, Nat.zero_add]; rfl)
    · cases hs
  · cases hs
theorem fn122 : FnOk Try.prog 122 Try.f122 (bodyOf Try.f122) := ⟨Try.func122, rfl, by rfl⟩
def s122 : Spec := hspec fun args H => match args, H with
  | [.c (.p 0 (.l 0)), .c (.i .i64 (.x k))], [some ⟨false, 0, .lit [.f .f32 st, .f .f32 sp, .f .f32 fd, .sl 1 (.x o) (.x n)]⟩, some ⟨false, 0, x⟩] => match x.toFl with
    | some l => some (F (rateW (st ()) (sp ()) (fd ()) (l ()) (k ()).toNat), [none, none], [fun _ => o () = 0 ∧ (l ()).length = 3 * n () ∧ n () ≤ 1048576, fun _ => 0 ≤ k () ∧ (k ()).toNat < n ()])
    | _ => none
  | _, _ => none
def E122 : Env := fun g => envGetL [(120, ⟨true, s120, none⟩)] g
theorem E122ok : EnvOk Try.prog E122 := envOk_cons ok120 (envOk_nil _)
theorem ok122 : Ok Try.prog 122 (s122) := ok_of_wpaH (E := E122) mixed tts E122ok fn122 fun args H v H' o hs ho => by
  split at hs
  · rename_i k st sp fd o n x
    split at hs
    · rename_i l hl
      cases hs
      obtain ⟨⟨ho0, hlen, hbig⟩, hx0⟩ := ho.two
      try simp only [Unit.unit] at ho0 hlen hbig hx0
      refine ⟨_, HLe.cons (BLe.refl _) (HLe.cons (BLe.fl hl) HLe.nil), ?_⟩
      cbv
      repeat' first
        | (refine alt_t (by assumption) ?_; cbv)
        | (refine alt_f (by assumption) ?_; cbv)
        | (refine alt_b (fun h => ?_) (fun h => ?_) <;> cbv)
        | (refine Br.mk (fun h => ?_) (fun h => ?_) <;> cbv)
        | (refine Ob.mk ?_ ?_; rotate_left; cbv)
        | (refine Lex.mk (by kernel_rfl) ?_; cbv)
      all_goals (try simp only [Unit.unit, Int.ofNat_lt, Int.ofNat_le, BE.val, IE.val, NE.val, ltB_iff, ltB_no, leB_iff, leB_no, Int.toNat_natCast, Nat.zero_add, Nat.add_zero, Nat.mul_one, forced, beq_iff_eq, beq_eq_false_iff_ne] at *)
      all_goals first | with_reducible rfl | exact ⟨ho0, hlen, hbig⟩ | exact hx0 | exact kn hx0 | omega | (simp only [rateW, ho0, Nat.zero_add]; done) | (rw [ho0, Nat.zero_add]; rfl)
    · cases hs
  · cases hs
theorem fn92 : FnOk Try.prog 92 Try.f92 (bodyOf Try.f92) := ⟨Try.func92, rfl, by rfl⟩
def s92 : Spec := hspec fun args H => match args, H with
  | [.c (.p 0 (.l 0)), .c (.b (.x q))], [some ⟨false, 0, .lit [.f .f32 st, .f .f32 sp, .f .f32 fd, .sl 1 (.x o) (.x n)]⟩, some ⟨false, 0, x⟩] => match x.toFl with
    | some l => some (vI (givenC (webOk (st ()) (sp ()) (fd ()) (l ()) (n ())) (q ())), [none, none], [fun _ => o () = 0 ∧ (l ()).length = 3 * n () ∧ n () ≤ 1048576])
    | _ => none
  | _, _ => none
def E92 : Env := fun g => envGetL [(86, ⟨true, s86, none⟩)] g
theorem E92ok : EnvOk Try.prog E92 := envOk_cons ok86 (envOk_nil _)
theorem ok92 : Ok Try.prog 92 (s92) := ok_of_wpaH (E := E92) mixed tts E92ok fn92 fun args H v H' o hs ho => by
  split at hs
  · rename_i q st sp fd o n x
    split at hs
    · rename_i l hl
      cases hs
      obtain ⟨ho0, hlen, hbig⟩ := ho.one
      try simp only [Unit.unit] at ho0 hlen hbig
      refine ⟨_, HLe.cons (BLe.refl _) (HLe.cons (BLe.fl hl) HLe.nil), ?_⟩
      cbv
      repeat' first
        | (refine alt_t (by assumption) ?_; cbv)
        | (refine alt_f (by assumption) ?_; cbv)
        | (refine alt_b (fun h => ?_) (fun h => ?_) <;> cbv)
        | (refine Br.mk (fun h => ?_) (fun h => ?_) <;> cbv)
        | (refine Ob.mk ?_ ?_; rotate_left; cbv)
        | (refine Lex.mk (by kernel_rfl) ?_; cbv)
      all_goals (try simp only [Unit.unit, Int.ofNat_lt, Int.ofNat_le, BE.val, IE.val, NE.val, ltB_iff, ltB_no, leB_iff, leB_no, Int.toNat_natCast, Nat.zero_add, Nat.add_zero, Nat.mul_one, forced, beq_iff_eq, beq_eq_false_iff_ne] at *)
      all_goals first | with_reducible rfl | exact ⟨ho0, hlen, hbig⟩ | (simp_all [givenC]; done) | grind [givenC]
    · cases hs
  · cases hs
end Go.Proofs.Ythkjlbggipocdaa.Sh
