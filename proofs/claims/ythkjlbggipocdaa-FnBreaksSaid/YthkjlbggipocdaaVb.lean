/- What the copies and comparisons of this seat compute, each shown once. No condition. -/
import Derived.Test.YthkjlbggipocdaaVa
set_option linter.unusedVariables false
set_option linter.unusedSimpArgs false
set_option linter.unusedSectionVars false
namespace Go.Proofs.Ythkjlbggipocdaa.Sh
open Go Go.Proofs
theorem fn54 : FnOk Try.prog 54 Try.f54 (bodyOf Try.f54) := ⟨Try.func54, rfl, by rfl⟩
def s54 : Spec := hspec fun args H => match args, H with
  | [.c (.f .f64 a), .c (.f .f64 b)], [] => some (vB (sameF (a ()) (b ())), [], [])
  | _, _ => none
theorem ok54 : Ok Try.prog 54 (s54) := ok_of_wpaH (E := envGetL []) mixed tts (envOk_nil _) fn54 fun args H v H' o hs ho => by
  split at hs
  · rename_i a b
    cases hs
    refine ⟨_, HLe.nil, ?_⟩
    cbv
    repeat' first
      | (refine alt_t (by assumption) ?_; cbv)
      | (refine alt_f (by assumption) ?_; cbv)
      | (refine alt_b (fun h => ?_) (fun h => ?_) <;> cbv)
      | (refine Br.mk (fun h => ?_) (fun h => ?_) <;> cbv)
      | (refine Ob.mk ?_ ?_; rotate_left; cbv)
      | (refine Lex.mk (by kernel_rfl) ?_; cbv)
    all_goals (try simp only [Unit.unit, Int.ofNat_lt, Int.ofNat_le, BE.val, IE.val, NE.val, ltB_iff, ltB_no, leB_iff, leB_no, Int.toNat_natCast, Nat.zero_add, Nat.add_zero, Nat.mul_one, forced, beq_iff_eq, beq_eq_false_iff_ne] at *)
    all_goals first | with_reducible rfl | (simp_all [sameF]; done) | grind [sameF]
  · cases hs
theorem fn138 : FnOk Try.prog 138 Try.f138 (bodyOf Try.f138) := ⟨Try.func138, rfl, by rfl⟩
def s138 : Spec := hspec fun args H => match args, H with
  | [.a [.f .f32 a, .f .f32 b, .f .f32 d]], [] => some (.a [.f .f32 a, .f .f32 b, .f .f32 d], [], [])
  | _, _ => none
theorem ok138 : Ok Try.prog 138 (s138) := ok_of_wpaH (E := envGetL []) mixed tts (envOk_nil _) fn138 fun args H v H' o hs ho => by
  split at hs
  · rename_i a b d
    cases hs
    refine ⟨_, HLe.nil, ?_⟩
    cbv
    repeat' first
      | (refine alt_t (by assumption) ?_; cbv)
      | (refine alt_f (by assumption) ?_; cbv)
      | (refine alt_b (fun h => ?_) (fun h => ?_) <;> cbv)
      | (refine Br.mk (fun h => ?_) (fun h => ?_) <;> cbv)
      | (refine Ob.mk ?_ ?_; rotate_left; cbv)
      | (refine Lex.mk (by kernel_rfl) ?_; cbv)
    all_goals (try simp only [Unit.unit, Int.ofNat_lt, Int.ofNat_le, BE.val, IE.val, NE.val, ltB_iff, ltB_no, leB_iff, leB_no, Int.toNat_natCast, Nat.zero_add, Nat.add_zero, Nat.mul_one, forced, beq_iff_eq, beq_eq_false_iff_ne] at *)
    all_goals first | with_reducible rfl | grind
  · cases hs
theorem fn114 : FnOk Try.prog 114 Try.f114 (bodyOf Try.f114) := ⟨Try.func114, rfl, by rfl⟩
def s114 : Spec := hspec fun args H => match args, H with
  | [.c (.sl 0 (.x o) (.x n))], [some ⟨false, 0, x⟩] => match x.toFl with
    | some l => some (.c (.sl 1 (.l 0) (.x n)), [none, some ⟨true, 3, .fl l⟩], [fun _ => o () = 0 ∧ (l ()).length = 3 * n () ∧ n () ≤ 1048576])
    | _ => none
  | [.c .sn], [] => some (.c (.sl 0 (.l 0) (.x fun _ => 0)), [some ⟨true, 3, .fl fun _ => []⟩], [])
  | _, _ => none
def E114 : Env := fun g => envGetL [(138, ⟨true, s138, none⟩)] g
theorem E114ok : EnvOk Try.prog E114 := envOk_cons ok138 (envOk_nil _)
theorem ok114 : Ok Try.prog 114 (s114) := ok_of_wpaH (E := E114) mixed tts E114ok fn114 fun args H v H' o hs ho => by
  split at hs
  · rename_i o n x
    split at hs
    · rename_i l hl
      cases hs
      obtain ⟨ho0, hlen, hbig⟩ := ho.one
      refine ⟨_, HLe.cons (BLe.fl hl) HLe.nil, ?_⟩
      cbv
      refine Ob.mk ?_ ?_
      · (try simp only [Unit.unit, Int.ofNat_lt, Int.ofNat_le, BE.val, IE.val, NE.val, ltB_iff, ltB_no, leB_iff, leB_no, Int.toNat_natCast, Nat.zero_add, Nat.add_zero, Nat.mul_one, forced, beq_iff_eq, beq_eq_false_iff_ne] at *)
        grind
      · refine loop_rule (α := Unit → Nat) (c := ⟨tt, E114, 1⟩)
            (fun i => fr 23 [(0, .c (.sl 0 (.x o) (.x n))), (3, .c (.sl 1 (.l 0) (.x n))), (4, .c (.i .i64 (.x fun _ => i ())))]) (fun i => [some ⟨false, 0, .fl l⟩, some ⟨true, 3, .fl fun _ => fillTo (fun j => (l ()).getD j 0) (repL [0, 0, 0] (n ())) (i () * 3)⟩])
            (fun i => i () ≤ n ()) (fun i => n () - i ()) (fun _ => n () + 1) ?_ ?_
        · refine .mk (fun _ => 0) (Nat.zero_le _) (by dsimp only; omega) ?_
          cbv
          repeat' (refine Ob.mk ?_ ?_; rotate_left)
          all_goals (try simp only [Unit.unit, Int.ofNat_lt, Int.ofNat_le, BE.val, IE.val, NE.val, ltB_iff, ltB_no, leB_iff, leB_no, Int.toNat_natCast, Nat.zero_add, Nat.add_zero, Nat.mul_one, forced, beq_iff_eq, beq_eq_false_iff_ne] at *)
          all_goals first | with_reducible rfl | trivial | (rw [Nat.zero_mul, fillTo_zero])
        · intro i hi
          cbv
          repeat' first
            | (refine alt_t (by assumption) ?_; cbv)
            | (refine alt_f (by assumption) ?_; cbv)
            | (refine alt_b (fun h => ?_) (fun h => ?_) <;> cbv)
            | (refine Br.mk (fun h => ?_) (fun h => ?_) <;> cbv)
            | (refine Ob.mk ?_ ?_; rotate_left; cbv)
            | (refine Lex.mk (by kernel_rfl) ?_; cbv)
            | (refine Next.mk (fun _ => i () + 1) ?_ ?_ ?_)
          all_goals (try simp only [Unit.unit, Int.ofNat_lt, Int.ofNat_le, BE.val, IE.val, NE.val, ltB_iff, ltB_no, leB_iff, leB_no, Int.toNat_natCast, Nat.zero_add, Nat.add_zero, Nat.mul_one, forced, beq_iff_eq, beq_eq_false_iff_ne] at *)
          all_goals (try simp only [List.length_set, repL3_len, ho0, Nat.zero_add] at *)
          all_goals first | with_reducible rfl | omega | exact wrap64_nat (by omega) | (refine ⟨Int.natCast_nonneg _, ?_⟩; omega) | (rw [List.length_set, List.length_set, fillTo_len _ _ (by rw [repL3_len]; omega), repL3_len]; omega) | (rw [List.length_set, fillTo_len _ _ (by rw [repL3_len]; omega), repL3_len]; omega) | (rw [fillTo_len _ _ (by rw [repL3_len]; omega), repL3_len]; omega) | exact fill3 (fun j => (l ⟨⟩).getD j 0) _ (by rw [repL3_len]; omega) | (rw [show i ⟨⟩ = n ⟨⟩ by omega]; exact fill_all _ _ (by omega) (by rw [repL3_len]; omega)) | grind
    · cases hs
  · cases hs
    refine ⟨_, HLe.nil, ?_⟩
    cbv
    repeat' first
      | (refine Loop.mk 5 ?_; cbv)
      | (refine Gen.same ?_; cbv)
      | (refine Ob.mk ?_ ?_; rotate_left; cbv)
    all_goals (try simp only [Unit.unit, Int.ofNat_lt, Int.ofNat_le, BE.val, IE.val, NE.val, ltB_iff, ltB_no, leB_iff, leB_no, Int.toNat_natCast, Nat.zero_add, Nat.add_zero, Nat.mul_one, forced, beq_iff_eq, beq_eq_false_iff_ne] at *)
    all_goals first | with_reducible rfl | grind
  · cases hs
theorem fn50 : FnOk Try.prog 50 Try.f50 (bodyOf Try.f50) := ⟨Try.func50, rfl, by rfl⟩
def s50 : Spec := hspec fun args H => match args, H with
  | [.a [.f .f32 st, .f .f32 sp, .f .f32 fd, .sl 0 (.x o) (.x n)]], [some ⟨false, 0, x⟩] => match x.toFl with
    | some l => some (.a [.f .f32 st, .f .f32 sp, .f .f32 fd, .sl 1 (.l 0) (.x n)], [none, some ⟨true, 3, .fl l⟩], [fun _ => o () = 0 ∧ (l ()).length = 3 * n () ∧ n () ≤ 1048576])
    | _ => none
  | [.a [.f .f32 st, .f .f32 sp, .f .f32 fd, .sn]], [] => some (.a [.f .f32 st, .f .f32 sp, .f .f32 fd, .sl 0 (.l 0) (.x fun _ => 0)], [some ⟨true, 3, .fl fun _ => []⟩], [])
  | _, _ => none
def E50 : Env := fun g => envGetL [(114, ⟨true, s114, none⟩)] g
theorem E50ok : EnvOk Try.prog E50 := envOk_cons ok114 (envOk_nil _)
theorem ok50 : Ok Try.prog 50 (s50) := ok_of_wpaH (E := E50) mixed tts E50ok fn50 fun args H v H' o hs ho => by
  split at hs
  · rename_i st sp fd o n x
    split at hs
    · rename_i l hl
      cases hs
      have hw := ho.one
      refine ⟨_, HLe.cons (BLe.fl hl) HLe.nil, ?_⟩
      cbv
      repeat' first
        | (refine Br.mk (fun h => ?_) (fun h => ?_) <;> cbv)
        | (refine Ob.mk ?_ ?_; rotate_left; cbv)
      all_goals (try simp only [Unit.unit, Int.ofNat_lt, Int.ofNat_le, BE.val, IE.val, NE.val, ltB_iff, ltB_no, leB_iff, leB_no, Int.toNat_natCast, Nat.zero_add, Nat.add_zero, Nat.mul_one, forced, beq_iff_eq, beq_eq_false_iff_ne] at *)
      all_goals first | with_reducible rfl | exact hw | grind
    · cases hs
  · rename_i st sp fd
    cases hs
    refine ⟨_, HLe.nil, ?_⟩
    cbv
    repeat' first
      | (refine Br.mk (fun h => ?_) (fun h => ?_) <;> cbv)
      | (refine Ob.mk ?_ ?_; rotate_left; cbv)
    all_goals (try simp only [Unit.unit, Int.ofNat_lt, Int.ofNat_le, BE.val, IE.val, NE.val, ltB_iff, ltB_no, leB_iff, leB_no, Int.toNat_natCast, Nat.zero_add, Nat.add_zero, Nat.mul_one, forced, beq_iff_eq, beq_eq_false_iff_ne] at *)
    all_goals first | with_reducible rfl | grind
  · cases hs
theorem fn113 : FnOk Try.prog 113 Try.f113 (bodyOf Try.f113) := ⟨Try.func113, rfl, by rfl⟩
def s113 : Spec := hspec fun args H => match args, H with
  | [.c (.sl 0 (.x _) (.x n)), .c (.i .i64 (.x k))], [some ⟨false, 0, _⟩] => some (vI (if k () - n () < 0 then -1 else k () - n ()), [none], [fun _ => 0 ≤ k () ∧ k () < 4294967296 ∧ n () ≤ 9223372036854775807])
  | [.c .sn, .c (.i .i64 (.x k))], [] => some (vI (k ()), [], [fun _ => 0 ≤ k () ∧ k () < 4294967296])
  | _, _ => none
theorem ok113 : Ok Try.prog 113 (s113) := ok_of_wpaH (E := envGetL []) mixed tts (envOk_nil _) fn113 fun args H v H' o hs ho => by
  split at hs
  · rename_i o n k x
    cases hs
    have hb := ho.one
    refine ⟨_, HLe.cons (BLe.refl _) HLe.nil, ?_⟩
    cbv
    repeat' first
      | (refine Br.mk (fun h => ?_) (fun h => ?_) <;> cbv)
      | (refine Ob.mk ?_ ?_; rotate_left; cbv)
    all_goals (try simp only [Unit.unit, Int.ofNat_lt, Int.ofNat_le, BE.val, IE.val, NE.val, ltB_iff, ltB_no, leB_iff, leB_no, Int.toNat_natCast, Nat.zero_add, Nat.add_zero, Nat.mul_one, forced, beq_iff_eq, beq_eq_false_iff_ne] at *)
    all_goals first | with_reducible rfl | grind [wrap64]
  · rename_i k
    cases hs
    have hb := ho.one
    refine ⟨_, HLe.nil, ?_⟩
    cbv
    repeat' first
      | (refine Br.mk (fun h => ?_) (fun h => ?_) <;> cbv)
      | (refine Ob.mk ?_ ?_; rotate_left; cbv)
    all_goals (try simp only [Unit.unit, Int.ofNat_lt, Int.ofNat_le, BE.val, IE.val, NE.val, ltB_iff, ltB_no, leB_iff, leB_no, Int.toNat_natCast, Nat.zero_add, Nat.add_zero, Nat.mul_one, forced, beq_iff_eq, beq_eq_false_iff_ne] at *)
    all_goals first | with_reducible rfl | grind [wrap64]
  · cases hs
theorem fn48 : FnOk Try.prog 48 Try.f48 (bodyOf Try.f48) := ⟨Try.func48, rfl, by rfl⟩
def s48 : Spec := hspec fun args H => match args, H with
  | [.a [.f .f32 _, .f .f32 _, .f .f32 _, .sl 0 (.x o) (.x n)], .c (.i .i64 (.x k))], [some ⟨false, 0, x⟩] => match x.toFl with
    | some l => some (vI (if k () - n () < 0 then -1 else k () - n ()), [none], [fun _ => 0 ≤ k () ∧ k () < 4294967296 ∧ n () ≤ 9223372036854775807])
    | _ => none
  | [.a [.f .f32 _, .f .f32 _, .f .f32 _, .sn], .c (.i .i64 (.x k))], [] => some (vI (k ()), [], [fun _ => 0 ≤ k () ∧ k () < 4294967296])
  | _, _ => none
def E48 : Env := fun g => envGetL [(113, ⟨true, s113, none⟩)] g
theorem E48ok : EnvOk Try.prog E48 := envOk_cons ok113 (envOk_nil _)
theorem ok48 : Ok Try.prog 48 (s48) := ok_of_wpaH (E := E48) mixed tts E48ok fn48 fun args H v H' o hs ho => by
  split at hs
  · rename_i a b d o n k x
    split at hs
    · rename_i l hl
      cases hs
      have hb := ho.one
      refine ⟨_, HLe.cons (BLe.fl hl) HLe.nil, ?_⟩
      cbv
      repeat' first
        | (refine Br.mk (fun h => ?_) (fun h => ?_) <;> cbv)
        | (refine Ob.mk ?_ ?_; rotate_left; cbv)
      all_goals (try simp only [Unit.unit, Int.ofNat_lt, Int.ofNat_le, BE.val, IE.val, NE.val, ltB_iff, ltB_no, leB_iff, leB_no, Int.toNat_natCast, Nat.zero_add, Nat.add_zero, Nat.mul_one, forced, beq_iff_eq, beq_eq_false_iff_ne] at *)
      all_goals first | with_reducible rfl | exact hb | grind
    · cases hs
  · rename_i a b d k
    cases hs
    have hb := ho.one
    refine ⟨_, HLe.nil, ?_⟩
    cbv
    repeat' first
      | (refine Br.mk (fun h => ?_) (fun h => ?_) <;> cbv)
      | (refine Ob.mk ?_ ?_; rotate_left; cbv)
    all_goals (try simp only [Unit.unit, Int.ofNat_lt, Int.ofNat_le, BE.val, IE.val, NE.val, ltB_iff, ltB_no, leB_iff, leB_no, Int.toNat_natCast, Nat.zero_add, Nat.add_zero, Nat.mul_one, forced, beq_iff_eq, beq_eq_false_iff_ne] at *)
    all_goals first | with_reducible rfl | exact hb | grind
  · cases hs
theorem fn139 : FnOk Try.prog 139 Try.f139 (bodyOf Try.f139) := ⟨Try.func139, rfl, by rfl⟩
def s139 : Spec := hspec fun args H => match args, H with
  | [.a [.f .f32 a, .f .f32 b, .f .f32 d], .a [.f .f32 a', .f .f32 b', .f .f32 d']], [] => some (vB (sameF (cv (a ())) (cv (a' ())) && sameF (cv (b ())) (cv (b' ())) && sameF (cv (d ())) (cv (d' ()))), [], [])
  | _, _ => none
def E139 : Env := fun g => envGetL [(54, ⟨true, s54, none⟩)] g
theorem E139ok : EnvOk Try.prog E139 := envOk_cons ok54 (envOk_nil _)
theorem ok139 : Ok Try.prog 139 (s139) := ok_of_wpaH (E := E139) mixed tts E139ok fn139 fun args H v H' o hs ho => by
  split at hs
  · rename_i a b d a' b' d'
    cases hs
    refine ⟨_, HLe.nil, ?_⟩
    cbv
    repeat' first
      | (refine Br.mk (fun h => ?_) (fun h => ?_) <;> cbv)
      | (refine Ob.mk ?_ ?_; rotate_left; cbv)
    all_goals (try simp only [Unit.unit, Int.ofNat_lt, Int.ofNat_le, BE.val, IE.val, NE.val, ltB_iff, ltB_no, leB_iff, leB_no, Int.toNat_natCast, Nat.zero_add, Nat.add_zero, Nat.mul_one, forced, beq_iff_eq, beq_eq_false_iff_ne] at *)
    all_goals first | with_reducible rfl | (simp_all [cv]; done) | grind [cv]
  · cases hs
theorem fn117 : FnOk Try.prog 117 Try.f117 (bodyOf Try.f117) := ⟨Try.func117, rfl, by rfl⟩
def s117 : Spec := hspec fun args H => match args, H with
  | [.c (.sl 0 (.x o) (.x n)), .c (.sl 1 (.x o') (.x n'))], [some ⟨false, 0, x⟩, some ⟨false, 0, x'⟩] => match x.toFl, x'.toFl with
    | some l, some l' => some (vB (n () == n' () && sameSps (l ()) (l' ()) (n ())), [none, none], [fun _ => o () = 0 ∧ (l ()).length = 3 * n () ∧ n () ≤ 1048576, fun _ => o' () = 0 ∧ (l' ()).length = 3 * n' () ∧ n' () ≤ 1048576])
    | _, _ => none
  | [.c .sn, .c .sn], [] => some (vB true, [], [])
  | _, _ => none
def E117 : Env := fun g => envGetL [(139, ⟨true, s139, none⟩)] g
theorem E117ok : EnvOk Try.prog E117 := envOk_cons ok139 (envOk_nil _)
theorem ok117 : Ok Try.prog 117 (s117) := ok_of_wpaH (E := E117) mixed tts E117ok fn117 fun args H v H' o hs ho => by
  split at hs
  · rename_i o n o' n' x x'
    split at hs
    · rename_i l l' hl hl'
      cases hs
      obtain ⟨⟨ho0, hlen, hbig⟩, ⟨ho0', hlen', hbig'⟩⟩ := ho.two
      refine ⟨_, HLe.cons (BLe.fl hl) (HLe.cons (BLe.fl hl') HLe.nil), ?_⟩
      cbv
      refine Br.mk (fun hne => ?_) (fun hne => ?_)
      · cbv
        repeat' (refine Ob.mk ?_ ?_; rotate_left; cbv)
        all_goals (try simp only [Unit.unit, Int.ofNat_lt, Int.ofNat_le, BE.val, IE.val, NE.val, ltB_iff, ltB_no, leB_iff, leB_no, Int.toNat_natCast, Nat.zero_add, Nat.add_zero, Nat.mul_one, forced, beq_iff_eq, beq_eq_false_iff_ne] at *)
        all_goals grind
      · cbv
        have hnn : n () = n' () := by
          (try simp only [Unit.unit, Int.ofNat_lt, Int.ofNat_le, BE.val, IE.val, NE.val, ltB_iff, ltB_no, leB_iff, leB_no, Int.toNat_natCast, Nat.zero_add, Nat.add_zero, Nat.mul_one, forced, beq_iff_eq, beq_eq_false_iff_ne] at *)
          grind
        refine loop_rule (α := Unit → Nat) (c := ⟨tt, E117, 2⟩)
            (fun i => fr 27 [(0, .c (.sl 0 (.x o) (.x n))), (1, .c (.sl 1 (.x o') (.x n'))), (5, .c (.i .i64 (.x fun _ => i ())))]) (fun i => [some ⟨false, 0, .fl l⟩, some ⟨false, 0, .fl l'⟩])
            (fun i => i () ≤ n () ∧ sameSps (l ()) (l' ()) (i ()) = true) (fun i => n () - i ()) (fun _ => n () + 1) ?_ ?_
        · refine .mk (fun _ => 0) ⟨Nat.zero_le _, rfl⟩ (by dsimp only; omega) ?_
          cbv
          repeat' (refine Ob.mk ?_ ?_; rotate_left)
          all_goals (try simp only [Unit.unit, Int.ofNat_lt, Int.ofNat_le, BE.val, IE.val, NE.val, ltB_iff, ltB_no, leB_iff, leB_no, Int.toNat_natCast, Nat.zero_add, Nat.add_zero, Nat.mul_one, forced, beq_iff_eq, beq_eq_false_iff_ne] at *)
          all_goals first | with_reducible rfl | trivial
        · intro i hi
          cbv
          repeat' first
            | (refine alt_t (by assumption) ?_; cbv)
            | (refine alt_f (by assumption) ?_; cbv)
            | (refine alt_b (fun h => ?_) (fun h => ?_) <;> cbv)
            | (refine Br.mk (fun h => ?_) (fun h => ?_) <;> cbv)
            | (refine Ob.mk ?_ ?_; rotate_left; cbv)
            | (refine Lex.mk (by kernel_rfl) ?_; cbv)
            | (refine Next.mk (fun _ => i () + 1) ?_ ?_ ?_)
          all_goals (try simp only [Unit.unit, Int.ofNat_lt, Int.ofNat_le, BE.val, IE.val, NE.val, ltB_iff, ltB_no, leB_iff, leB_no, Int.toNat_natCast, Nat.zero_add, Nat.add_zero, Nat.mul_one, forced, beq_iff_eq, beq_eq_false_iff_ne] at *)
          all_goals (try simp only [ho0, ho0', Nat.zero_add] at *)
          all_goals first | with_reducible rfl | omega | exact wrap64_nat (by omega) | (refine ⟨Int.natCast_nonneg _, ?_⟩; omega) | grind [sameSps, sameSp, allI_no, allI, cv]
    · cases hs
  · cases hs
    refine ⟨_, HLe.nil, ?_⟩
    cbv
    repeat' first
      | (refine Loop.mk 5 ?_; cbv)
      | (refine Gen.same ?_; cbv)
      | (refine Ob.mk ?_ ?_; rotate_left; cbv)
    all_goals (try simp only [Unit.unit, Int.ofNat_lt, Int.ofNat_le, BE.val, IE.val, NE.val, ltB_iff, ltB_no, leB_iff, leB_no, Int.toNat_natCast, Nat.zero_add, Nat.add_zero, Nat.mul_one, forced, beq_iff_eq, beq_eq_false_iff_ne] at *)
    all_goals first | with_reducible rfl | grind
  · cases hs
theorem fn52 : FnOk Try.prog 52 Try.f52 (bodyOf Try.f52) := ⟨Try.func52, rfl, by rfl⟩
def sameW (st sp fd st' sp' fd' : Nat) : Bool := sameF (cv st) (cv st') && sameF (cv sp) (cv sp') && sameF (cv fd) (cv fd')
theorem sameW_self (st sp fd : Nat) : sameW st sp fd st sp fd = true := by simp [sameW, sameF_refl]
def s52 : Spec := hspec fun args H => match args, H with
  | [.a [.f .f32 st, .f .f32 sp, .f .f32 fd, .sl 0 (.x o) (.x n)], .a [.f .f32 st', .f .f32 sp', .f .f32 fd', .sl 1 (.x o') (.x n')]], [some ⟨false, 0, x⟩, some ⟨false, 0, x'⟩] => match x.toFl, x'.toFl with
    | some l, some l' => some (vB (sameW (st ()) (sp ()) (fd ()) (st' ()) (sp' ()) (fd' ()) && (n () == n' () && sameSps (l ()) (l' ()) (n ()))), [none, none], [fun _ => o () = 0 ∧ (l ()).length = 3 * n () ∧ n () ≤ 1048576, fun _ => o' () = 0 ∧ (l' ()).length = 3 * n' () ∧ n' () ≤ 1048576])
    | _, _ => none
  | [.a [.f .f32 st, .f .f32 sp, .f .f32 fd, .sn], .a [.f .f32 st', .f .f32 sp', .f .f32 fd', .sn]], [] => some (vB (sameW (st ()) (sp ()) (fd ()) (st' ()) (sp' ()) (fd' ())), [], [])
  | _, _ => none
def E52 : Env := fun g => envGetL [(54, ⟨true, s54, none⟩), (117, ⟨true, s117, none⟩)] g
theorem E52ok : EnvOk Try.prog E52 := envOk_cons ok54 (envOk_cons ok117 (envOk_nil _))
theorem ok52 : Ok Try.prog 52 (s52) := ok_of_wpaH (E := E52) mixed tts E52ok fn52 fun args H v H' o hs ho => by
  split at hs
  · rename_i st sp fd o n st' sp' fd' o' n' x x'
    split at hs
    · rename_i l l' hl hl'
      cases hs
      obtain ⟨hw, hw'⟩ := ho.two
      refine ⟨_, HLe.cons (BLe.fl hl) (HLe.cons (BLe.fl hl') HLe.nil), ?_⟩
      cbv
      repeat' first
        | (refine Br.mk (fun h => ?_) (fun h => ?_) <;> cbv)
        | (refine Ob.mk ?_ ?_; rotate_left; cbv)
      all_goals (try simp only [Unit.unit, Int.ofNat_lt, Int.ofNat_le, BE.val, IE.val, NE.val, ltB_iff, ltB_no, leB_iff, leB_no, Int.toNat_natCast, Nat.zero_add, Nat.add_zero, Nat.mul_one, forced, beq_iff_eq, beq_eq_false_iff_ne] at *)
      all_goals first | with_reducible rfl | exact hw | exact hw' | (simp_all [sameW, cv]; done) | grind [sameW, cv]
    · cases hs
  · rename_i st sp fd st' sp' fd'
    cases hs
    refine ⟨_, HLe.nil, ?_⟩
    cbv
    repeat' first
      | (refine Br.mk (fun h => ?_) (fun h => ?_) <;> cbv)
      | (refine Ob.mk ?_ ?_; rotate_left; cbv)
    all_goals (try simp only [Unit.unit, Int.ofNat_lt, Int.ofNat_le, BE.val, IE.val, NE.val, ltB_iff, ltB_no, leB_iff, leB_no, Int.toNat_natCast, Nat.zero_add, Nat.add_zero, Nat.mul_one, forced, beq_iff_eq, beq_eq_false_iff_ne] at *)
    all_goals first | with_reducible rfl | (simp_all [sameW, cv]; done) | grind [sameW, cv]
  · cases hs
theorem fn123 : FnOk Try.prog 123 Try.f123 (bodyOf Try.f123) := ⟨Try.func123, rfl, by rfl⟩
def s123 : Spec := hspec fun args H => match args, H with
  | [.c (.sl 0 (.x o) (.x n)), .c (.i .i64 (.x k))], [some ⟨true, 3, x⟩] => match x.toFl with
    | some l => some (vI (k () + ((n () * 3 : Nat) : Int)), [some ⟨true, 3, .fl fun _ => marks (k ()) (l ()) (n ())⟩], [fun _ => o () = 0 ∧ (l ()).length = 3 * n () ∧ n () ≤ 1048576, fun _ => 0 ≤ k () ∧ k () < 4294967296])
    | _ => none
  | [.c .sn, .c (.i .i64 (.x k))], [] => some (vI (k ()), [], [])
  | _, _ => none
theorem wrapK {k : Int} {m : Nat} (h0 : 0 ≤ k) (h1 : k < 4294967296) (h2 : m < 4294967296) : IntKind.wrap .i64 (k + (m : Int) + 1) = k + ((m + 1 : Nat) : Int) := by
  rw [wrap64 (by omega) (by omega)]; omega
theorem marks_step' (k : Int) (l : List Nat) {i : Nat} (h : i * 3 + 2 < l.length) (h0 : 0 ≤ k) (h1 : k < 4294967296) (h2 : i < 1048577) :
    (((marks k l i).set (i * 3) (floatOfInt .f32 (k + ((i * 3 : Nat) : Int)))).set (i * 3 + 1) (floatOfInt .f32 (IntKind.wrap .i64 (k + ((i * 3 : Nat) : Int) + 1)))).set (i * 3 + 2) (floatOfInt .f32 (IntKind.wrap .i64 (IntKind.wrap .i64 (k + ((i * 3 : Nat) : Int) + 1) + 1))) = marks k l (i + 1) := by
  rw [wrapK h0 h1 (by omega), wrapK h0 h1 (by omega)]
  exact marks_step k l h
theorem marks_k {k : Int} {i : Nat} (h0 : 0 ≤ k) (h1 : k < 4294967296) (h2 : i < 1048577) : IntKind.wrap .i64 (IntKind.wrap .i64 (IntKind.wrap .i64 (k + ((i * 3 : Nat) : Int) + 1) + 1) + 1) = k + (((i + 1) * 3 : Nat) : Int) := by
  rw [wrapK h0 h1 (by omega), wrapK h0 h1 (by omega), wrapK h0 h1 (by omega)]; omega
theorem ok123 : Ok Try.prog 123 (s123) := ok_of_wpaH (E := envGetL []) mixed tts (envOk_nil _) fn123 fun args H v H' o hs ho => by
  split at hs
  · rename_i o n k x
    split at hs
    · rename_i l hl
      cases hs
      obtain ⟨⟨ho0, hlen, hbig⟩, hk0, hk1⟩ := ho.two
      refine ⟨_, HLe.cons (BLe.fl hl) HLe.nil, ?_⟩
      cbv
      refine loop_rule (α := Unit → Nat) (c := ⟨tt, (envGetL []), 1⟩)
          (fun i => fr 37 [(0, .c (.sl 0 (.x o) (.x n))), (1, .c (.i .i64 (.x fun _ => k () + ((i () * 3 : Nat) : Int)))), (5, .c (.i .i64 (.x fun _ => i ())))]) (fun i => [some ⟨true, 3, .fl fun _ => marks (k ()) (l ()) (i ())⟩])
          (fun i => i () ≤ n ()) (fun i => n () - i ()) (fun _ => n () + 1) ?_ ?_
      · refine .mk (fun _ => 0) (Nat.zero_le _) (by dsimp only; omega) ?_
        cbv
        repeat' (refine Ob.mk ?_ ?_; rotate_left)
        all_goals (try simp only [Unit.unit, Int.ofNat_lt, Int.ofNat_le, BE.val, IE.val, NE.val, ltB_iff, ltB_no, leB_iff, leB_no, Int.toNat_natCast, Nat.zero_add, Nat.add_zero, Nat.mul_one, forced, beq_iff_eq, beq_eq_false_iff_ne] at *)
        all_goals first | with_reducible rfl | trivial | (rw [marks_zero]) | (simp; done)
      · intro i hi
        cbv
        repeat' first
          | (refine alt_t (by assumption) ?_; cbv)
          | (refine alt_f (by assumption) ?_; cbv)
          | (refine alt_b (fun h => ?_) (fun h => ?_) <;> cbv)
          | (refine Br.mk (fun h => ?_) (fun h => ?_) <;> cbv)
          | (refine Ob.mk ?_ ?_; rotate_left; cbv)
          | (refine Lex.mk (by kernel_rfl) ?_; cbv)
          | (refine Next.mk (fun _ => i () + 1) ?_ ?_ ?_)
        all_goals (try simp only [Unit.unit, Int.ofNat_lt, Int.ofNat_le, BE.val, IE.val, NE.val, ltB_iff, ltB_no, leB_iff, leB_no, Int.toNat_natCast, Nat.zero_add, Nat.add_zero, Nat.mul_one, forced, beq_iff_eq, beq_eq_false_iff_ne] at *)
        all_goals (try simp only [ho0, Nat.zero_add, List.length_set] at *)
        all_goals first | with_reducible rfl | omega | exact wrap64_nat (by omega) | (refine ⟨Int.natCast_nonneg _, ?_⟩; omega) | (rw [marks_len _ _ (by omega)]; omega) | exact marks_step' _ _ (by omega) hk0 hk1 (by omega) | exact marks_k hk0 hk1 (by omega) | (rw [show i ⟨⟩ = n ⟨⟩ by omega])
    · cases hs
  · rename_i k
    cases hs
    refine ⟨_, HLe.nil, ?_⟩
    cbv
    repeat' first
      | (refine Loop.mk 5 ?_; cbv)
      | (refine Gen.same ?_; cbv)
      | (refine Ob.mk ?_ ?_; rotate_left; cbv)
    all_goals (try simp only [Unit.unit, Int.ofNat_lt, Int.ofNat_le, BE.val, IE.val, NE.val, ltB_iff, ltB_no, leB_iff, leB_no, Int.toNat_natCast, Nat.zero_add, Nat.add_zero, Nat.mul_one, forced, beq_iff_eq, beq_eq_false_iff_ne] at *)
    all_goals first | with_reducible rfl | grind
  · cases hs
theorem fn124 : FnOk Try.prog 124 Try.f124 (bodyOf Try.f124) := ⟨Try.func124, rfl, by rfl⟩
def s124 : Spec := hspec fun args H => match args, H with
  | [.c (.sl 0 (.x o) (.x n)), .c (.i .i64 (.x k))], [some ⟨false, 0, x⟩] => match x.toFl with
    | some l => some (vI (if heldW (k ()) (l ()) (n ()) then k () + ((n () * 3 : Nat) : Int) else -1), [none], [fun _ => o () = 0 ∧ (l ()).length = 3 * n () ∧ n () ≤ 1048576, fun _ => 0 ≤ k () ∧ k () < 4294967296])
    | _ => none
  | [.c .sn, .c (.i .i64 (.x k))], [] => some (vI (k ()), [], [])
  | _, _ => none
theorem heldW_no {k : Int} {l : List Nat} {i n c : Nat} (h : i < n) (hc : c < 3) (h' : fcmp .neq .f32 (l.getD (i * 3 + c) 0) (markF k (i * 3 + c)) = true) : heldW k l n = false :=
  allI_no (i := i * 3 + c) (by omega) (by unfold heldI; rw [h']; rfl)
theorem held_at {k x : Int} {l : List Nat} {i n : Nat} (c : Nat) (h : i < n) (hc : c < 3) (h' : fcmp .neq .f32 (l.getD (i * 3 + c) 0) (floatOfInt .f32 (k + ((i * 3 + c : Nat) : Int))) = true) : -1 = if heldW k l n = true then x else -1 := by
  rw [heldW_no h hc h']; rfl
theorem held_at0 {k x : Int} {l : List Nat} {i n : Nat} (h : i < n) (h' : fcmp .neq .f32 (l.getD (i * 3) 0) (floatOfInt .f32 (k + ((i * 3 : Nat) : Int))) = true) : -1 = if heldW k l n = true then x else -1 := held_at 0 h (by decide) h'
theorem held_at1 {k x : Int} {l : List Nat} {i n : Nat} (h : i < n) (h' : fcmp .neq .f32 (l.getD (i * 3 + 1) 0) (floatOfInt .f32 (k + ((i * 3 + 1 : Nat) : Int))) = true) : -1 = if heldW k l n = true then x else -1 := held_at 1 h (by decide) h'
theorem held_at2 {k x : Int} {l : List Nat} {i n : Nat} (h : i < n) (h' : fcmp .neq .f32 (l.getD (i * 3 + 2) 0) (floatOfInt .f32 (k + ((i * 3 + 2 : Nat) : Int))) = true) : -1 = if heldW k l n = true then x else -1 := held_at 2 h (by decide) h'
theorem heldW_yes {k : Int} {l : List Nat} {i n : Nat} (hn : i < n) (h : heldW k l i = true) (h0 : fcmp .neq .f32 (l.getD (i * 3) 0) (floatOfInt .f32 (k + ((i * 3 : Nat) : Int))) = false) (h1 : fcmp .neq .f32 (l.getD (i * 3 + 1) 0) (floatOfInt .f32 (k + ((i * 3 + 1 : Nat) : Int))) = false) (h2 : fcmp .neq .f32 (l.getD (i * 3 + 2) 0) (floatOfInt .f32 (k + ((i * 3 + 2 : Nat) : Int))) = false) : i + 1 ≤ n ∧ heldW k l (i + 1) = true := by
  refine ⟨hn, ?_⟩
  unfold heldW at *
  rw [show (i + 1) * 3 = i * 3 + 1 + 1 + 1 by omega]
  simp only [allI, h, heldI, markF, h0, h1, h2]; rfl
set_option maxRecDepth 100000 in
set_option maxHeartbeats 2000000 in
theorem ok124 : Ok Try.prog 124 (s124) := ok_of_wpaH (E := envGetL []) mixed tts (envOk_nil _) fn124 fun args H v H' o hs ho => by
  split at hs
  · rename_i o n k x
    split at hs
    · rename_i l hl
      cases hs
      obtain ⟨⟨ho0, hlen, hbig⟩, hk0, hk1⟩ := ho.two
      refine ⟨_, HLe.cons (BLe.fl hl) HLe.nil, ?_⟩
      cbv
      refine loop_rule (α := Unit → Nat) (c := ⟨tt, (envGetL []), 1⟩)
          (fun i => fr 43 [(0, .c (.sl 0 (.x o) (.x n))), (1, .c (.i .i64 (.x fun _ => k () + ((i () * 3 : Nat) : Int)))), (5, .c (.i .i64 (.x fun _ => i ())))]) (fun i => [some ⟨false, 0, .fl l⟩])
          (fun i => i () ≤ n () ∧ heldW (k ()) (l ()) (i ()) = true) (fun i => n () - i ()) (fun _ => n () + 1) ?_ ?_
      · refine .mk (fun _ => 0) ⟨Nat.zero_le _, rfl⟩ (by dsimp only; omega) ?_
        cbv
        repeat' (refine Ob.mk ?_ ?_; rotate_left)
        all_goals (try simp only [Unit.unit, Int.ofNat_lt, Int.ofNat_le, BE.val, IE.val, NE.val, ltB_iff, ltB_no, leB_iff, leB_no, Int.toNat_natCast, Nat.zero_add, Nat.add_zero, Nat.mul_one, forced, beq_iff_eq, beq_eq_false_iff_ne] at *)
        all_goals first | with_reducible rfl | trivial | (simp; done)
      · intro i hi
        have h1 : i ⟨⟩ ≤ n ⟨⟩ := hi.1
        have w1 : IntKind.wrap .i64 (k ⟨⟩ + ((i ⟨⟩ * 3 : Nat) : Int) + 1) = k ⟨⟩ + ((i ⟨⟩ * 3 + 1 : Nat) : Int) := wrapK hk0 hk1 (by omega)
        have w2 : IntKind.wrap .i64 (k ⟨⟩ + ((i ⟨⟩ * 3 + 1 : Nat) : Int) + 1) = k ⟨⟩ + ((i ⟨⟩ * 3 + 2 : Nat) : Int) := wrapK hk0 hk1 (by omega)
        cbv
        repeat' first
          | (refine alt_t (by assumption) ?_; cbv)
          | (refine alt_f (by assumption) ?_; cbv)
          | (refine alt_b (fun h => ?_) (fun h => ?_) <;> cbv)
          | (refine Br.mk (fun h => ?_) (fun h => ?_) <;> cbv)
          | (refine Ob.mk ?_ ?_; rotate_left; cbv)
          | (refine Lex.mk (by kernel_rfl) ?_; cbv)
          | (refine Next.mk (fun _ => i () + 1) ?_ ?_ ?_)
        all_goals (try simp only [Unit.unit, Int.ofNat_lt, Int.ofNat_le, BE.val, IE.val, NE.val, ltB_iff, ltB_no, leB_iff, leB_no, Int.toNat_natCast, Nat.zero_add, Nat.add_zero, Nat.mul_one, forced, beq_iff_eq, beq_eq_false_iff_ne] at *)
        all_goals (try simp only [ho0, Nat.zero_add, List.length_set] at *)
        all_goals first | with_reducible rfl | omega | exact wrap64_nat (by omega) | (refine ⟨Int.natCast_nonneg _, ?_⟩; omega) | with_reducible exact marks_k (k := k ⟨⟩) (i := i ⟨⟩) hk0 hk1 (by omega) | ((try simp only [w1, w2] at *); first | (with_reducible exact held_at0 (k := k ⟨⟩) (l := l ⟨⟩) (i := i ⟨⟩) (n := n ⟨⟩) (by omega) h) | (with_reducible exact held_at1 (k := k ⟨⟩) (l := l ⟨⟩) (i := i ⟨⟩) (n := n ⟨⟩) (by omega) h) | (with_reducible exact held_at2 (k := k ⟨⟩) (l := l ⟨⟩) (i := i ⟨⟩) (n := n ⟨⟩) (by omega) h) | (with_reducible exact heldW_yes (k := k ⟨⟩) (l := l ⟨⟩) (i := i ⟨⟩) (n := n ⟨⟩) (by omega) hi.2 (by assumption) (by assumption) (by assumption)) | (rw [show i ⟨⟩ = n ⟨⟩ by omega] at hi; rw [if_pos hi.2]; done) | (rw [show n ⟨⟩ = i ⟨⟩ by omega, if_pos hi.2]; done))
    · cases hs
  · rename_i k
    cases hs
    refine ⟨_, HLe.nil, ?_⟩
    cbv
    repeat' first
      | (refine Loop.mk 5 ?_; cbv)
      | (refine Gen.same ?_; cbv)
      | (refine Ob.mk ?_ ?_; rotate_left; cbv)
    all_goals (try simp only [Unit.unit, Int.ofNat_lt, Int.ofNat_le, BE.val, IE.val, NE.val, ltB_iff, ltB_no, leB_iff, leB_no, Int.toNat_natCast, Nat.zero_add, Nat.add_zero, Nat.mul_one, forced, beq_iff_eq, beq_eq_false_iff_ne] at *)
    all_goals first | with_reducible rfl | grind
  · cases hs
theorem fn61 : FnOk Try.prog 61 Try.f61 (bodyOf Try.f61) := ⟨Try.func61, rfl, by rfl⟩
def s61 : Spec := hspec fun args H => match args, H with
  | [.a [.f .f32 _, .f .f32 _, .f .f32 _, .sl 0 (.x o) (.x n)], .c (.i .i64 (.x k))], [some ⟨true, 3, x⟩] => match x.toFl with
    | some l => some (vI (k () + ((n () * 3 : Nat) : Int)), [some ⟨true, 3, .fl fun _ => marks (k ()) (l ()) (n ())⟩], [fun _ => o () = 0 ∧ (l ()).length = 3 * n () ∧ n () ≤ 1048576, fun _ => 0 ≤ k () ∧ k () < 4294967296])
    | _ => none
  | [.a [.f .f32 _, .f .f32 _, .f .f32 _, .sn], .c (.i .i64 (.x k))], [] => some (vI (k ()), [], [])
  | _, _ => none
def E61 : Env := fun g => envGetL [(123, ⟨false, s123, none⟩)] g
theorem E61ok : EnvOk Try.prog E61 := envOk_cons ok123 (envOk_nil _)
theorem ok61 : Ok Try.prog 61 (s61) := ok_of_wpaH (E := E61) mixed tts E61ok fn61 fun args H v H' o hs ho => by
  split at hs
  · rename_i a b d o n k x
    split at hs
    · rename_i l hl
      cases hs
      obtain ⟨hw, hk⟩ := ho.two
      refine ⟨_, HLe.cons (BLe.fl hl) HLe.nil, ?_⟩
      cbv
      repeat' first
        | (refine Br.mk (fun h => ?_) (fun h => ?_) <;> cbv)
        | (refine Ob.mk ?_ ?_; rotate_left; cbv)
      all_goals (try simp only [Unit.unit, Int.ofNat_lt, Int.ofNat_le, BE.val, IE.val, NE.val, ltB_iff, ltB_no, leB_iff, leB_no, Int.toNat_natCast, Nat.zero_add, Nat.add_zero, Nat.mul_one, forced, beq_iff_eq, beq_eq_false_iff_ne] at *)
      all_goals first | with_reducible rfl | exact hw | exact hk | grind
    · cases hs
  · rename_i a b d k
    cases hs
    refine ⟨_, HLe.nil, ?_⟩
    cbv
    repeat' first
      | (refine Br.mk (fun h => ?_) (fun h => ?_) <;> cbv)
      | (refine Ob.mk ?_ ?_; rotate_left; cbv)
    all_goals (try simp only [Unit.unit, Int.ofNat_lt, Int.ofNat_le, BE.val, IE.val, NE.val, ltB_iff, ltB_no, leB_iff, leB_no, Int.toNat_natCast, Nat.zero_add, Nat.add_zero, Nat.mul_one, forced, beq_iff_eq, beq_eq_false_iff_ne] at *)
    all_goals first | with_reducible rfl | grind
  · cases hs
theorem fn64 : FnOk Try.prog 64 Try.f64 (bodyOf Try.f64) := ⟨Try.func64, rfl, by rfl⟩
def s64 : Spec := hspec fun args H => match args, H with
  | [.a [.f .f32 _, .f .f32 _, .f .f32 _, .sl 0 (.x o) (.x n)], .c (.i .i64 (.x k))], [some ⟨false, 0, x⟩] => match x.toFl with
    | some l => some (vI (if heldW (k ()) (l ()) (n ()) then k () + ((n () * 3 : Nat) : Int) else -1), [none], [fun _ => o () = 0 ∧ (l ()).length = 3 * n () ∧ n () ≤ 1048576, fun _ => 0 ≤ k () ∧ k () < 4294967296])
    | _ => none
  | [.a [.f .f32 _, .f .f32 _, .f .f32 _, .sn], .c (.i .i64 (.x k))], [] => some (vI (k ()), [], [fun _ => 0 ≤ k ()])
  | _, _ => none
def E64 : Env := fun g => envGetL [(124, ⟨true, s124, none⟩)] g
theorem E64ok : EnvOk Try.prog E64 := envOk_cons ok124 (envOk_nil _)
theorem ok64 : Ok Try.prog 64 (s64) := ok_of_wpaH (E := E64) mixed tts E64ok fn64 fun args H v H' o hs ho => by
  split at hs
  · rename_i a b d o n k x
    split at hs
    · rename_i l hl
      cases hs
      obtain ⟨hw, hk⟩ := ho.two
      refine ⟨_, HLe.cons (BLe.fl hl) HLe.nil, ?_⟩
      cbv
      repeat' first
        | (refine Br.mk (fun h => ?_) (fun h => ?_) <;> cbv)
        | (refine Ob.mk ?_ ?_; rotate_left; cbv)
      all_goals (try simp only [Unit.unit, Int.ofNat_lt, Int.ofNat_le, BE.val, IE.val, NE.val, ltB_iff, ltB_no, leB_iff, leB_no, Int.toNat_natCast, Nat.zero_add, Nat.add_zero, Nat.mul_one, forced, beq_iff_eq, beq_eq_false_iff_ne] at *)
      all_goals first | with_reducible rfl | exact hw | exact hk | grind
    · cases hs
  · rename_i a b d k
    cases hs
    have hk := ho.one
    refine ⟨_, HLe.nil, ?_⟩
    cbv
    repeat' first
      | (refine Br.mk (fun h => ?_) (fun h => ?_) <;> cbv)
      | (refine Ob.mk ?_ ?_; rotate_left; cbv)
    all_goals (try simp only [Unit.unit, Int.ofNat_lt, Int.ofNat_le, BE.val, IE.val, NE.val, ltB_iff, ltB_no, leB_iff, leB_no, Int.toNat_natCast, Nat.zero_add, Nat.add_zero, Nat.mul_one, forced, beq_iff_eq, beq_eq_false_iff_ne] at *)
    all_goals first | with_reducible rfl | grind
  · cases hs
end Go.Proofs.Ythkjlbggipocdaa.Sh
