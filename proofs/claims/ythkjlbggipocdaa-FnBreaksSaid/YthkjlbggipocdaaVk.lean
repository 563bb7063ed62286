/- What the steady webs of this seat compute, each shown once. No condition. -/
import Derived.Test.YthkjlbggipocdaaVi
set_option linter.unusedVariables false
set_option linter.unusedSimpArgs false
set_option linter.unusedSectionVars false
namespace Go.Proofs.Ythkjlbggipocdaa.Sh
open Go Go.Proofs
theorem steady_ok {st sp fd : Nat} {l : List Nat} {n : Nat} (h : (steadyC st sp fd l n == 0) = true) : webOk st sp fd l n = true ∧ steadyOk st sp fd l n = true := by
  rw [beq_iff_eq] at h
  unfold steadyC at h
  split at h
  · rename_i h1
    split at h
    · rename_i h2; exact ⟨h1, h2⟩
    · cases h
  · cases h
theorem sok_no {st sp fd : Nat} {l : List Nat} {n i : Nat} (h : i < n) (hp : isPlain (steadyS st sp fd l (i + 1)) = false) : steadyOk st sp fd l n = false := allI_no (p := fun j => isPlain (steadyS st sp fd l (j + 1))) h hp
theorem sok_at {st sp fd : Nat} {l : List Nat} {n i : Nat} (h : steadyOk st sp fd l n = true) (hi : i < n) : isPlain (steadyS st sp fd l (i + 1)) = true := allI_at (p := fun j => isPlain (steadyS st sp fd l (j + 1))) h hi
theorem sok_step {st sp fd : Nat} {l : List Nat} {i : Nat} (h : steadyOk st sp fd l i = true) (hp : isPlain (steadyS st sp fd l (i + 1)) = true) : steadyOk st sp fd l (i + 1) = true := by
  unfold steadyOk at *
  simp only [allI, h, hp]; rfl
theorem fn85 : FnOk Try.prog 85 Try.f85 (bodyOf Try.f85) := ⟨Try.func85, rfl, by rfl⟩
def s85T : Spec := hspec fun args H => match args, H with
  | [.a [.f .f32 st, .f .f32 sp, .f .f32 fd, .sl 0 (.x o) (.x n)]], [some ⟨false, 0, x⟩] => match x.toFl with
    | some l => some (.t [.c (.sl 1 (.l 0) (.x n)), .c (.b (.l true))], [none, some ⟨true, 1, .fl fun _ => steadyL (st ()) (sp ()) (fd ()) (l ()) (n ())⟩], [fun _ => (steadyOk (st ()) (sp ()) (fd ()) (l ()) (n ())) = true, fun _ => o () = 0 ∧ (l ()).length = 3 * n () ∧ n () ≤ 1048576])
    | _ => none
  | _, _ => none
def E85T : Env := fun g => envGetL [(121, ⟨true, s121, none⟩), (91, ⟨true, s91, none⟩), (90, ⟨true, s90, none⟩)] g
theorem E85Tok : EnvOk Try.prog E85T := envOk_cons ok121 (envOk_cons ok91 (envOk_cons ok90 (envOk_nil _)))
set_option maxRecDepth 100000 in
set_option maxHeartbeats 4000000 in
theorem ok85T : Ok Try.prog 85 (s85T) := ok_of_wpaH (E := E85T) mixed tts E85Tok fn85 fun args H v H' o hs ho => by
  split at hs
  · rename_i st sp fd o n x
    split at hs
    · rename_i l hl
      cases hs
      obtain ⟨hc, ⟨ho0, hlen, hbig⟩⟩ := ho.two
      try simp only [Unit.unit] at hc ho0 hlen hbig
      refine ⟨_, HLe.cons (BLe.fl hl) HLe.nil, ?_⟩
      cbv
      refine Lex.all ?_
      cbv
      repeat' (refine Both.mk ?_ ?_ <;> cbv)
      all_goals
        refine loop_rule (α := Unit → Nat) (c := ⟨tt, E85T, 1⟩)
            (fun i => fr 49 [(1, .c (.p 1 (.l 0))), (4, .c (.sl 2 (.l 0) (.x i))), (5, .c (.f .f32 fun _ => steadyS (st ()) (sp ()) (fd ()) (l ()) (i ()))), (14, .c (.sl 0 (.x o) (.x n))), (15, .c (.i .i64 (.x fun _ => n ()))), (16, .c (.i .i64 (.x fun _ => i ())))]) (fun i => [some ⟨false, 0, .fl l⟩, some ⟨true, 0, .lit [.f .f32 st, .f .f32 sp, .f .f32 fd, .sl 0 (.x o) (.x n)]⟩, some ⟨true, 1, .fl fun _ => steadyL (st ()) (sp ()) (fd ()) (l ()) (i ())⟩])
            (fun i => i () ≤ n () ∧ steadyOk (st ()) (sp ()) (fd ()) (l ()) (i ()) = true) (fun i => n () - i ()) (fun _ => n () + 1) ?_ ?_
        · refine .mk (fun _ => 0) ⟨Nat.zero_le _, rfl⟩ (by dsimp only; omega) ?_
          cbv
          repeat' (refine Ob.mk ?_ ?_; rotate_left)
          all_goals (try simp only [Unit.unit, Int.ofNat_lt, Int.ofNat_le, BE.val, IE.val, NE.val, ltB_iff, ltB_no, leB_iff, leB_no, Int.toNat_natCast, Nat.zero_add, Nat.add_zero, Nat.mul_one, forced, beq_iff_eq, beq_eq_false_iff_ne, bne_iff_ne, bne_eq_false_iff_eq] at *)
          all_goals first | with_reducible rfl | trivial | rfl
        · intro i hi
          have hsl := steadyL_len (st ⟨⟩) (sp ⟨⟩) (fd ⟨⟩) (l ⟨⟩) (i ⟨⟩)
          have h1n : i ⟨⟩ ≤ n ⟨⟩ := hi.1
          have hso : steadyOk (st ⟨⟩) (sp ⟨⟩) (fd ⟨⟩) (l ⟨⟩) (i ⟨⟩) = true := hi.2
          cbv
          repeat' first
            | (refine alt_t (by assumption) ?_; cbv)
            | (refine alt_f (by assumption) ?_; cbv)
            | (refine alt_b (fun h => ?_) (fun h => ?_) <;> cbv)
            | (refine Br.mk (fun h => ?_) (fun h => ?_) <;> cbv)
            | (refine Ob.mk ?_ ?_; rotate_left; cbv)
            | (refine Lex.mk (by kernel_rfl) ?_; cbv)
            | (refine Next.ren [1, 5] (fun _ => i () + 1) ?_ ?_ ?_)
          all_goals (try simp only [Unit.unit, Int.ofNat_lt, Int.ofNat_le, BE.val, IE.val, NE.val, ltB_iff, ltB_no, leB_iff, leB_no, Int.toNat_natCast, Nat.zero_add, Nat.add_zero, Nat.mul_one, forced, beq_iff_eq, beq_eq_false_iff_ne, bne_iff_ne, bne_eq_false_iff_eq] at *)
          all_goals (try simp only [ho0, Nat.zero_add, hsl, List.length_cons, List.length_nil] at *)
          all_goals first | with_reducible rfl | omega | exact wrap64_nat (by omega) | (refine ⟨Int.natCast_nonneg _, ?_⟩; omega) | exact ⟨ho0, hlen, hbig⟩ | exact ⟨Int.natCast_nonneg _, by simpa using (by omega)⟩ | exact (steadyL_step (st ⟨⟩) (sp ⟨⟩) (fd ⟨⟩) (l ⟨⟩) (i ⟨⟩)).symm | (exfalso; have hp := sok_at hc (i := i ⟨⟩) (by omega); have hq : (!isPlain (steadyS (st ⟨⟩) (sp ⟨⟩) (fd ⟨⟩) (l ⟨⟩) (i ⟨⟩ + 1))) = true := (by assumption); rw [hp] at hq; cases hq) | exact ⟨by omega, sok_step hso (not_f (by assumption))⟩ | (rw [show i ⟨⟩ = n ⟨⟩ by omega]; done) | rfl
    · cases hs
  · cases hs
def s85F : Spec := hspec fun args H => match args, H with
  | [.a [.f .f32 st, .f .f32 sp, .f .f32 fd, .sl 0 (.x o) (.x n)]], [some ⟨false, 0, x⟩] => match x.toFl with
    | some l => some (.t [.c .sn, .c (.b (.l false))], [none], [fun _ => (steadyOk (st ()) (sp ()) (fd ()) (l ()) (n ())) = false, fun _ => o () = 0 ∧ (l ()).length = 3 * n () ∧ n () ≤ 1048576])
    | _ => none
  | _, _ => none
def E85F : Env := fun g => envGetL [(121, ⟨true, s121, none⟩), (91, ⟨true, s91, none⟩), (90, ⟨true, s90, none⟩)] g
theorem E85Fok : EnvOk Try.prog E85F := envOk_cons ok121 (envOk_cons ok91 (envOk_cons ok90 (envOk_nil _)))
set_option maxRecDepth 100000 in
set_option maxHeartbeats 4000000 in
theorem ok85F : Ok Try.prog 85 (s85F) := ok_of_wpaH (E := E85F) mixed tts E85Fok fn85 fun args H v H' o hs ho => by
  split at hs
  · rename_i st sp fd o n x
    split at hs
    · rename_i l hl
      cases hs
      obtain ⟨hc, ⟨ho0, hlen, hbig⟩⟩ := ho.two
      try simp only [Unit.unit] at hc ho0 hlen hbig
      refine ⟨_, HLe.cons (BLe.fl hl) HLe.nil, ?_⟩
      cbv
      refine Lex.all ?_
      cbv
      repeat' (refine Both.mk ?_ ?_ <;> cbv)
      all_goals
        refine loop_rule (α := Unit → Nat) (c := ⟨tt, E85F, 1⟩)
            (fun i => fr 49 [(1, .c (.p 1 (.l 0))), (4, .c (.sl 2 (.l 0) (.x i))), (5, .c (.f .f32 fun _ => steadyS (st ()) (sp ()) (fd ()) (l ()) (i ()))), (14, .c (.sl 0 (.x o) (.x n))), (15, .c (.i .i64 (.x fun _ => n ()))), (16, .c (.i .i64 (.x fun _ => i ())))]) (fun i => [some ⟨false, 0, .fl l⟩, some ⟨true, 0, .lit [.f .f32 st, .f .f32 sp, .f .f32 fd, .sl 0 (.x o) (.x n)]⟩, some ⟨true, 1, .fl fun _ => steadyL (st ()) (sp ()) (fd ()) (l ()) (i ())⟩])
            (fun i => i () ≤ n () ∧ steadyOk (st ()) (sp ()) (fd ()) (l ()) (i ()) = true) (fun i => n () - i ()) (fun _ => n () + 1) ?_ ?_
        · refine .mk (fun _ => 0) ⟨Nat.zero_le _, rfl⟩ (by dsimp only; omega) ?_
          cbv
          repeat' (refine Ob.mk ?_ ?_; rotate_left)
          all_goals (try simp only [Unit.unit, Int.ofNat_lt, Int.ofNat_le, BE.val, IE.val, NE.val, ltB_iff, ltB_no, leB_iff, leB_no, Int.toNat_natCast, Nat.zero_add, Nat.add_zero, Nat.mul_one, forced, beq_iff_eq, beq_eq_false_iff_ne, bne_iff_ne, bne_eq_false_iff_eq] at *)
          all_goals first | with_reducible rfl | trivial | rfl
        · intro i hi
          have hsl := steadyL_len (st ⟨⟩) (sp ⟨⟩) (fd ⟨⟩) (l ⟨⟩) (i ⟨⟩)
          have h1n : i ⟨⟩ ≤ n ⟨⟩ := hi.1
          have hso : steadyOk (st ⟨⟩) (sp ⟨⟩) (fd ⟨⟩) (l ⟨⟩) (i ⟨⟩) = true := hi.2
          cbv
          repeat' first
            | (refine alt_t (by assumption) ?_; cbv)
            | (refine alt_f (by assumption) ?_; cbv)
            | (refine alt_b (fun h => ?_) (fun h => ?_) <;> cbv)
            | (refine Br.mk (fun h => ?_) (fun h => ?_) <;> cbv)
            | (refine Ob.mk ?_ ?_; rotate_left; cbv)
            | (refine Lex.mk (by kernel_rfl) ?_; cbv)
            | (refine Next.ren [1, 5] (fun _ => i () + 1) ?_ ?_ ?_)
          all_goals (try simp only [Unit.unit, Int.ofNat_lt, Int.ofNat_le, BE.val, IE.val, NE.val, ltB_iff, ltB_no, leB_iff, leB_no, Int.toNat_natCast, Nat.zero_add, Nat.add_zero, Nat.mul_one, forced, beq_iff_eq, beq_eq_false_iff_ne, bne_iff_ne, bne_eq_false_iff_eq] at *)
          all_goals (try simp only [ho0, Nat.zero_add, hsl, List.length_cons, List.length_nil] at *)
          all_goals first | with_reducible rfl | omega | exact wrap64_nat (by omega) | (refine ⟨Int.natCast_nonneg _, ?_⟩; omega) | exact ⟨ho0, hlen, hbig⟩ | exact ⟨Int.natCast_nonneg _, by simpa using (by omega)⟩ | exact (steadyL_step (st ⟨⟩) (sp ⟨⟩) (fd ⟨⟩) (l ⟨⟩) (i ⟨⟩)).symm | (exfalso; rw [show i ⟨⟩ = n ⟨⟩ by omega] at hso; rw [hso] at hc; cases hc) | exact ⟨by omega, sok_step hso (not_f (by assumption))⟩ | rfl | rfl
    · cases hs
  · cases hs
theorem fn87 : FnOk Try.prog 87 Try.f87 (bodyOf Try.f87) := ⟨Try.func87, rfl, by rfl⟩
def s87T : Spec := hspec fun args H => match args, H with
  | [.c (.p 0 (.l 0))], [some ⟨false, 0, .lit [.f .f32 st, .f .f32 sp, .f .f32 fd, .sl 1 (.x o) (.x n)]⟩, some ⟨false, 0, x⟩] => match x.toFl with
    | some l => some (.t [.c (.sl 2 (.l 0) (.x n)), .c (.b (.l true))], [none, none, some ⟨true, 1, .fl fun _ => steadyL (st ()) (sp ()) (fd ()) (l ()) (n ())⟩], [fun _ => (steadyOk (st ()) (sp ()) (fd ()) (l ()) (n ())) = true, fun _ => o () = 0 ∧ (l ()).length = 3 * n () ∧ n () ≤ 1048576])
    | _ => none
  | _, _ => none
def E87T : Env := fun g => envGetL [(120, ⟨true, s120, none⟩), (93, ⟨true, s93, none⟩)] g
theorem E87Tok : EnvOk Try.prog E87T := envOk_cons ok120 (envOk_cons ok93 (envOk_nil _))
set_option maxRecDepth 100000 in
set_option maxHeartbeats 4000000 in
theorem ok87T : Ok Try.prog 87 (s87T) := ok_of_wpaH (E := E87T) mixed tts E87Tok fn87 fun args H v H' o hs ho => by
  split at hs
  · rename_i st sp fd o n x
    split at hs
    · rename_i l hl
      cases hs
      obtain ⟨hc, ⟨ho0, hlen, hbig⟩⟩ := ho.two
      try simp only [Unit.unit] at hc ho0 hlen hbig
      refine ⟨_, HLe.cons (BLe.refl _) (HLe.cons (BLe.fl hl) HLe.nil), ?_⟩
      cbv
      refine loop_rule (α := Unit → Nat) (c := ⟨tt, E87T, 2⟩)
          (fun i => fr 61 [(0, .c (.p 0 (.l 0))), (4, .c (.sl 2 (.l 0) (.x i))), (5, .c (.f .f32 fun _ => steadyS (st ()) (sp ()) (fd ()) (l ()) (i ()))), (6, .c (.i .i64 (.x fun _ => i ())))]) (fun i => [some ⟨false, 0, .lit [.f .f32 st, .f .f32 sp, .f .f32 fd, .sl 1 (.x o) (.x n)]⟩, some ⟨false, 0, .fl l⟩, some ⟨true, 1, .fl fun _ => steadyL (st ()) (sp ()) (fd ()) (l ()) (i ())⟩])
          (fun i => i () ≤ n () ∧ steadyOk (st ()) (sp ()) (fd ()) (l ()) (i ()) = true) (fun i => n () - i ()) (fun _ => n () + 1) ?_ ?_
      · refine .mk (fun _ => 0) ⟨Nat.zero_le _, rfl⟩ (by dsimp only; omega) ?_
        cbv
        repeat' (refine Ob.mk ?_ ?_; rotate_left)
        all_goals (try simp only [Unit.unit, Int.ofNat_lt, Int.ofNat_le, BE.val, IE.val, NE.val, ltB_iff, ltB_no, leB_iff, leB_no, Int.toNat_natCast, Nat.zero_add, Nat.add_zero, Nat.mul_one, forced, beq_iff_eq, beq_eq_false_iff_ne, bne_iff_ne, bne_eq_false_iff_eq] at *)
        all_goals first | with_reducible rfl | trivial | rfl
      · intro i hi
        have hsl := steadyL_len (st ⟨⟩) (sp ⟨⟩) (fd ⟨⟩) (l ⟨⟩) (i ⟨⟩)
        have h1n : i ⟨⟩ ≤ n ⟨⟩ := hi.1
        have hso : steadyOk (st ⟨⟩) (sp ⟨⟩) (fd ⟨⟩) (l ⟨⟩) (i ⟨⟩) = true := hi.2
        cbv
        repeat' first
          | (refine alt_t (by assumption) ?_; cbv)
          | (refine alt_f (by assumption) ?_; cbv)
          | (refine alt_b (fun h => ?_) (fun h => ?_) <;> cbv)
          | (refine Br.mk (fun h => ?_) (fun h => ?_) <;> cbv)
          | (refine Ob.mk ?_ ?_; rotate_left; cbv)
          | (refine Lex.mk (by kernel_rfl) ?_; cbv)
          | (refine Next.ren [4] (fun _ => i () + 1) ?_ ?_ ?_)
        all_goals (try simp only [Unit.unit, Int.ofNat_lt, Int.ofNat_le, BE.val, IE.val, NE.val, ltB_iff, ltB_no, leB_iff, leB_no, Int.toNat_natCast, Nat.zero_add, Nat.add_zero, Nat.mul_one, forced, beq_iff_eq, beq_eq_false_iff_ne, bne_iff_ne, bne_eq_false_iff_eq] at *)
        all_goals (try simp only [ho0, Nat.zero_add, hsl, List.length_cons, List.length_nil] at *)
        all_goals first | with_reducible rfl | omega | exact wrap64_nat (by omega) | (refine ⟨Int.natCast_nonneg _, ?_⟩; omega) | exact ⟨ho0, hlen, hbig⟩ | exact ⟨Int.natCast_nonneg _, by simpa using (by omega)⟩ | exact (steadyL_step (st ⟨⟩) (sp ⟨⟩) (fd ⟨⟩) (l ⟨⟩) (i ⟨⟩)).symm | (exfalso; have hp := sok_at hc (i := i ⟨⟩) (by omega); have hq : (!isPlain (steadyS (st ⟨⟩) (sp ⟨⟩) (fd ⟨⟩) (l ⟨⟩) (i ⟨⟩ + 1))) = true := (by assumption); rw [hp] at hq; cases hq) | exact ⟨by omega, sok_step hso (not_f (by assumption))⟩ | (rw [show i ⟨⟩ = n ⟨⟩ by omega]; done) | rfl
    · cases hs
  · cases hs
def s87F : Spec := hspec fun args H => match args, H with
  | [.c (.p 0 (.l 0))], [some ⟨false, 0, .lit [.f .f32 st, .f .f32 sp, .f .f32 fd, .sl 1 (.x o) (.x n)]⟩, some ⟨false, 0, x⟩] => match x.toFl with
    | some l => some (.t [.c (.sl 2 (.l 0) (.l 0)), .c (.b (.l false))], [none, none, some ⟨true, 1, .lit []⟩], [fun _ => (steadyOk (st ()) (sp ()) (fd ()) (l ()) (n ())) = false, fun _ => o () = 0 ∧ (l ()).length = 3 * n () ∧ n () ≤ 1048576])
    | _ => none
  | _, _ => none
def E87F : Env := fun g => envGetL [(120, ⟨true, s120, none⟩), (93, ⟨true, s93, none⟩)] g
theorem E87Fok : EnvOk Try.prog E87F := envOk_cons ok120 (envOk_cons ok93 (envOk_nil _))
set_option maxRecDepth 100000 in
set_option maxHeartbeats 4000000 in
theorem ok87F : Ok Try.prog 87 (s87F) := ok_of_wpaH (E := E87F) mixed tts E87Fok fn87 fun args H v H' o hs ho => by
  split at hs
  · rename_i st sp fd o n x
    split at hs
    · rename_i l hl
      cases hs
      obtain ⟨hc, ⟨ho0, hlen, hbig⟩⟩ := ho.two
      try simp only [Unit.unit] at hc ho0 hlen hbig
      refine ⟨_, HLe.cons (BLe.refl _) (HLe.cons (BLe.fl hl) HLe.nil), ?_⟩
      cbv
      refine loop_rule (α := Unit → Nat) (c := ⟨tt, E87F, 2⟩)
          (fun i => fr 61 [(0, .c (.p 0 (.l 0))), (4, .c (.sl 2 (.l 0) (.x i))), (5, .c (.f .f32 fun _ => steadyS (st ()) (sp ()) (fd ()) (l ()) (i ()))), (6, .c (.i .i64 (.x fun _ => i ())))]) (fun i => [some ⟨false, 0, .lit [.f .f32 st, .f .f32 sp, .f .f32 fd, .sl 1 (.x o) (.x n)]⟩, some ⟨false, 0, .fl l⟩, some ⟨true, 1, .fl fun _ => steadyL (st ()) (sp ()) (fd ()) (l ()) (i ())⟩])
          (fun i => i () ≤ n () ∧ steadyOk (st ()) (sp ()) (fd ()) (l ()) (i ()) = true) (fun i => n () - i ()) (fun _ => n () + 1) ?_ ?_
      · refine .mk (fun _ => 0) ⟨Nat.zero_le _, rfl⟩ (by dsimp only; omega) ?_
        cbv
        repeat' (refine Ob.mk ?_ ?_; rotate_left)
        all_goals (try simp only [Unit.unit, Int.ofNat_lt, Int.ofNat_le, BE.val, IE.val, NE.val, ltB_iff, ltB_no, leB_iff, leB_no, Int.toNat_natCast, Nat.zero_add, Nat.add_zero, Nat.mul_one, forced, beq_iff_eq, beq_eq_false_iff_ne, bne_iff_ne, bne_eq_false_iff_eq] at *)
        all_goals first | with_reducible rfl | trivial | rfl
      · intro i hi
        have hsl := steadyL_len (st ⟨⟩) (sp ⟨⟩) (fd ⟨⟩) (l ⟨⟩) (i ⟨⟩)
        have h1n : i ⟨⟩ ≤ n ⟨⟩ := hi.1
        have hso : steadyOk (st ⟨⟩) (sp ⟨⟩) (fd ⟨⟩) (l ⟨⟩) (i ⟨⟩) = true := hi.2
        cbv
        repeat' first
          | (refine alt_t (by assumption) ?_; cbv)
          | (refine alt_f (by assumption) ?_; cbv)
          | (refine alt_b (fun h => ?_) (fun h => ?_) <;> cbv)
          | (refine Br.mk (fun h => ?_) (fun h => ?_) <;> cbv)
          | (refine Ob.mk ?_ ?_; rotate_left; cbv)
          | (refine Lex.mk (by kernel_rfl) ?_; cbv)
          | (refine Next.ren [4] (fun _ => i () + 1) ?_ ?_ ?_)
        all_goals (try simp only [Unit.unit, Int.ofNat_lt, Int.ofNat_le, BE.val, IE.val, NE.val, ltB_iff, ltB_no, leB_iff, leB_no, Int.toNat_natCast, Nat.zero_add, Nat.add_zero, Nat.mul_one, forced, beq_iff_eq, beq_eq_false_iff_ne, bne_iff_ne, bne_eq_false_iff_eq] at *)
        all_goals (try simp only [ho0, Nat.zero_add, hsl, List.length_cons, List.length_nil] at *)
        all_goals first | with_reducible rfl | omega | exact wrap64_nat (by omega) | (refine ⟨Int.natCast_nonneg _, ?_⟩; omega) | exact ⟨ho0, hlen, hbig⟩ | exact ⟨Int.natCast_nonneg _, by simpa using (by omega)⟩ | exact (steadyL_step (st ⟨⟩) (sp ⟨⟩) (fd ⟨⟩) (l ⟨⟩) (i ⟨⟩)).symm | (exfalso; rw [show i ⟨⟩ = n ⟨⟩ by omega] at hso; rw [hso] at hc; cases hc) | exact ⟨by omega, sok_step hso (not_f (by assumption))⟩ | rfl | rfl
    · cases hs
  · cases hs
theorem fn27 : FnOk Try.prog 27 Try.f27 (bodyOf Try.f27) := ⟨Try.func27, rfl, by rfl⟩
def s27T : Spec := hspec fun args H => match args, H with
  | [.a [.f .f32 st, .f .f32 sp, .f .f32 fd, .sl 0 (.x o) (.x n)]], [some ⟨false, 0, x⟩] => match x.toFl with
    | some l => some (.t [.c (.sl 1 (.l 0) (.x n)), vI 0], [none, some ⟨true, 1, .fl fun _ => steadyL (st ()) (sp ()) (fd ()) (l ()) (n ())⟩], [fun _ => (steadyC (st ()) (sp ()) (fd ()) (l ()) (n ()) == 0) = true, fun _ => o () = 0 ∧ (l ()).length = 3 * n () ∧ n () ≤ 1048576])
    | _ => none
  | _, _ => none
def E27T : Env := fun g => envGetL [(51, ⟨true, s51, none⟩), (85, ⟨true, sNo, some (s85T, s85F)⟩)] g
theorem E27Tok : EnvOk Try.prog E27T := envOk_cons ok51 (envOk_alt ok85T ok85F (envOk_nil _))
set_option maxRecDepth 100000 in
set_option maxHeartbeats 2000000 in
theorem ok27T : Ok Try.prog 27 (s27T) := ok_of_wpaH (E := E27T) mixed tts E27Tok fn27 fun args H v H' o hs ho => by
  split at hs
  · rename_i st sp fd o n x
    split at hs
    · rename_i l hl
      cases hs
      obtain ⟨hc, ⟨ho0, hlen, hbig⟩⟩ := ho.two
      try simp only [Unit.unit] at hc ho0 hlen hbig
      refine ⟨_, HLe.cons (BLe.fl hl) HLe.nil, ?_⟩
      cbv
      repeat' first
        | (refine alt_t (by assumption) ?_; cbv)
        | (refine alt_f (by assumption) ?_; cbv)
        | (refine alt_b (fun h => ?_) (fun h => ?_) <;> cbv)
        | (refine Br.mk (fun h => ?_) (fun h => ?_) <;> cbv)
        | (refine Ob.mk ?_ ?_; rotate_left; cbv)
        | (refine Lex.mk (by kernel_rfl) ?_; cbv)
      all_goals (try simp only [Unit.unit, Int.ofNat_lt, Int.ofNat_le, BE.val, IE.val, NE.val, ltB_iff, ltB_no, leB_iff, leB_no, Int.toNat_natCast, Nat.zero_add, Nat.add_zero, Nat.mul_one, forced, beq_iff_eq, beq_eq_false_iff_ne, bne_iff_ne, bne_eq_false_iff_eq] at *)
      all_goals first | with_reducible rfl | exact ⟨ho0, hlen, hbig⟩ | exact ⟨by trivial, hlen, hbig⟩ | (exfalso; simp_all [steadyC]; done) | (simp_all [steadyC]; done) | grind [steadyC]
    · cases hs
  · cases hs
def s27F : Spec := hspec fun args H => match args, H with
  | [.a [.f .f32 st, .f .f32 sp, .f .f32 fd, .sl 0 (.x o) (.x n)]], [some ⟨false, 0, x⟩] => match x.toFl with
    | some l => some (.t [.c .sn, vI (steadyC (st ()) (sp ()) (fd ()) (l ()) (n ()))], [none], [fun _ => (steadyC (st ()) (sp ()) (fd ()) (l ()) (n ()) == 0) = false, fun _ => o () = 0 ∧ (l ()).length = 3 * n () ∧ n () ≤ 1048576])
    | _ => none
  | _, _ => none
def E27F : Env := fun g => envGetL [(51, ⟨true, s51, none⟩), (85, ⟨true, sNo, some (s85T, s85F)⟩)] g
theorem E27Fok : EnvOk Try.prog E27F := envOk_cons ok51 (envOk_alt ok85T ok85F (envOk_nil _))
set_option maxRecDepth 100000 in
set_option maxHeartbeats 2000000 in
theorem ok27F : Ok Try.prog 27 (s27F) := ok_of_wpaH (E := E27F) mixed tts E27Fok fn27 fun args H v H' o hs ho => by
  split at hs
  · rename_i st sp fd o n x
    split at hs
    · rename_i l hl
      cases hs
      obtain ⟨hc, ⟨ho0, hlen, hbig⟩⟩ := ho.two
      try simp only [Unit.unit] at hc ho0 hlen hbig
      refine ⟨_, HLe.cons (BLe.fl hl) HLe.nil, ?_⟩
      cbv
      repeat' first
        | (refine alt_t (by assumption) ?_; cbv)
        | (refine alt_f (by assumption) ?_; cbv)
        | (refine alt_b (fun h => ?_) (fun h => ?_) <;> cbv)
        | (refine Br.mk (fun h => ?_) (fun h => ?_) <;> cbv)
        | (refine Ob.mk ?_ ?_; rotate_left; cbv)
        | (refine Lex.mk (by kernel_rfl) ?_; cbv)
      all_goals (try simp only [Unit.unit, Int.ofNat_lt, Int.ofNat_le, BE.val, IE.val, NE.val, ltB_iff, ltB_no, leB_iff, leB_no, Int.toNat_natCast, Nat.zero_add, Nat.add_zero, Nat.mul_one, forced, beq_iff_eq, beq_eq_false_iff_ne, bne_iff_ne, bne_eq_false_iff_eq] at *)
      all_goals first | with_reducible rfl | exact ⟨ho0, hlen, hbig⟩ | exact ⟨by trivial, hlen, hbig⟩ | (exfalso; simp_all [steadyC]; done) | (simp_all [steadyC]; done) | grind [steadyC]
    · cases hs
  · cases hs
theorem fn28 : FnOk Try.prog 28 Try.f28 (bodyOf Try.f28) := ⟨Try.func28, rfl, by rfl⟩
def s28T : Spec := hspec fun args H => match args, H with
  | [.a [.f .f32 st, .f .f32 sp, .f .f32 fd, .sl 0 (.x o) (.x n)]], [some ⟨false, 0, x⟩] => match x.toFl with
    | some l => some (.t [.c (.sl 1 (.l 0) (.x n)), vI 0], [none, some ⟨true, 1, .fl fun _ => steadyL (st ()) (sp ()) (fd ()) (l ()) (n ())⟩], [fun _ => (steadyC (st ()) (sp ()) (fd ()) (l ()) (n ()) == 0) = true, fun _ => o () = 0 ∧ (l ()).length = 3 * n () ∧ n () ≤ 1048576])
    | _ => none
  | _, _ => none
def E28T : Env := fun g => envGetL [(86, ⟨true, s86, none⟩), (87, ⟨true, sNo, some (s87T, s87F)⟩)] g
theorem E28Tok : EnvOk Try.prog E28T := envOk_cons ok86 (envOk_alt ok87T ok87F (envOk_nil _))
set_option maxRecDepth 100000 in
set_option maxHeartbeats 2000000 in
theorem ok28T : Ok Try.prog 28 (s28T) := ok_of_wpaH (E := E28T) mixed tts E28Tok fn28 fun args H v H' o hs ho => by
  split at hs
  · rename_i st sp fd o n x
    split at hs
    · rename_i l hl
      cases hs
      obtain ⟨hc, ⟨ho0, hlen, hbig⟩⟩ := ho.two
      try simp only [Unit.unit] at hc ho0 hlen hbig
      refine ⟨_, HLe.cons (BLe.fl hl) HLe.nil, ?_⟩
      cbv
      repeat' first
        | (refine alt_t (by assumption) ?_; cbv)
        | (refine alt_f (by assumption) ?_; cbv)
        | (refine alt_b (fun h => ?_) (fun h => ?_) <;> cbv)
        | (refine Br.mk (fun h => ?_) (fun h => ?_) <;> cbv)
        | (refine Ob.mk ?_ ?_; rotate_left; cbv)
        | (refine Lex.mk (by kernel_rfl) ?_; cbv)
      all_goals (try simp only [Unit.unit, Int.ofNat_lt, Int.ofNat_le, BE.val, IE.val, NE.val, ltB_iff, ltB_no, leB_iff, leB_no, Int.toNat_natCast, Nat.zero_add, Nat.add_zero, Nat.mul_one, forced, beq_iff_eq, beq_eq_false_iff_ne, bne_iff_ne, bne_eq_false_iff_eq] at *)
      all_goals first | with_reducible rfl | exact ⟨ho0, hlen, hbig⟩ | exact ⟨by trivial, hlen, hbig⟩ | (exfalso; simp_all [steadyC]; done) | (simp_all [steadyC]; done) | grind [steadyC]
    · cases hs
  · cases hs
def s28F : Spec := hspec fun args H => match args, H with
  | [.a [.f .f32 st, .f .f32 sp, .f .f32 fd, .sl 0 (.x o) (.x n)]], [some ⟨false, 0, x⟩] => match x.toFl with
    | some l => some (.t [.c (.sl 1 (.l 0) (.l 0)), vI (steadyC (st ()) (sp ()) (fd ()) (l ()) (n ()))], [none, some ⟨true, 1, .lit []⟩], [fun _ => (steadyC (st ()) (sp ()) (fd ()) (l ()) (n ()) == 0) = false, fun _ => o () = 0 ∧ (l ()).length = 3 * n () ∧ n () ≤ 1048576])
    | _ => none
  | _, _ => none
def E28F : Env := fun g => envGetL [(86, ⟨true, s86, none⟩), (87, ⟨true, sNo, some (s87T, s87F)⟩)] g
theorem E28Fok : EnvOk Try.prog E28F := envOk_cons ok86 (envOk_alt ok87T ok87F (envOk_nil _))
set_option maxRecDepth 100000 in
set_option maxHeartbeats 2000000 in
theorem ok28F : Ok Try.prog 28 (s28F) := ok_of_wpaH (E := E28F) mixed tts E28Fok fn28 fun args H v H' o hs ho => by
  split at hs
  · rename_i st sp fd o n x
    split at hs
    · rename_i l hl
      cases hs
      obtain ⟨hc, ⟨ho0, hlen, hbig⟩⟩ := ho.two
      try simp only [Unit.unit] at hc ho0 hlen hbig
      refine ⟨_, HLe.cons (BLe.fl hl) HLe.nil, ?_⟩
      cbv
      repeat' first
        | (refine alt_t (by assumption) ?_; cbv)
        | (refine alt_f (by assumption) ?_; cbv)
        | (refine alt_b (fun h => ?_) (fun h => ?_) <;> cbv)
        | (refine Br.mk (fun h => ?_) (fun h => ?_) <;> cbv)
        | (refine Ob.mk ?_ ?_; rotate_left; cbv)
        | (refine Lex.mk (by kernel_rfl) ?_; cbv)
      all_goals (try simp only [Unit.unit, Int.ofNat_lt, Int.ofNat_le, BE.val, IE.val, NE.val, ltB_iff, ltB_no, leB_iff, leB_no, Int.toNat_natCast, Nat.zero_add, Nat.add_zero, Nat.mul_one, forced, beq_iff_eq, beq_eq_false_iff_ne, bne_iff_ne, bne_eq_false_iff_eq] at *)
      all_goals first | with_reducible rfl | exact ⟨ho0, hlen, hbig⟩ | exact ⟨by trivial, hlen, hbig⟩ | (exfalso; simp_all [steadyC]; done) | (simp_all [steadyC]; done) | grind [steadyC]
    · cases hs
  · cases hs
theorem tenTo_full {l : List Nat} {g : Nat → Nat} {n : Nat} (h : l.length = 3 * n) : (tenTo l g n).length = 3 * n := by rw [tenTo_len _ _ (by omega)]; exact h
theorem fn29 : FnOk Try.prog 29 Try.f29 (bodyOf Try.f29) := ⟨Try.func29, rfl, by rfl⟩
def s29T : Spec := hspec fun args H => match args, H with
  | [.a [.f .f32 st, .f .f32 sp, .f .f32 fd, .sl 0 (.x o) (.x n)]], [some ⟨false, 0, x⟩] => match x.toFl with
    | some l => some (.t [.a [.f .f32 st, .f .f32 sp, .f .f32 fd, .sl 1 (.l 0) (.x n)], vI 0], [none, some ⟨true, 3, .fl fun _ => steadyW (st ()) (sp ()) (fd ()) (l ()) (n ())⟩], [fun _ => (steadyC (st ()) (sp ()) (fd ()) (l ()) (n ()) == 0) = true, fun _ => o () = 0 ∧ (l ()).length = 3 * n () ∧ n () ≤ 1048576])
    | _ => none
  | _, _ => none
def E29T : Env := fun g => envGetL [(27, ⟨true, sNo, some (s27T, s27F)⟩), (88, ⟨true, s88, none⟩)] g
theorem E29Tok : EnvOk Try.prog E29T := envOk_alt ok27T ok27F (envOk_cons ok88 (envOk_nil _))
set_option maxRecDepth 100000 in
set_option maxHeartbeats 2000000 in
theorem ok29T : Ok Try.prog 29 (s29T) := ok_of_wpaH (E := E29T) mixed tts E29Tok fn29 fun args H v H' o hs ho => by
  split at hs
  · rename_i st sp fd o n x
    split at hs
    · rename_i l hl
      cases hs
      obtain ⟨hc, ⟨ho0, hlen, hbig⟩⟩ := ho.two
      try simp only [Unit.unit] at hc ho0 hlen hbig
      refine ⟨_, HLe.cons (BLe.fl hl) HLe.nil, ?_⟩
      cbv
      repeat' first
        | (refine alt_t (by assumption) ?_; cbv)
        | (refine alt_f (by assumption) ?_; cbv)
        | (refine Br.mk (fun h => ?_) (fun h => ?_) <;> cbv)
        | (refine Ob.mk ?_ ?_; rotate_left; cbv)
      all_goals try (first | exact ⟨ho0, hlen, hbig⟩ | (exfalso; simp [IE.val] at h; done) | (exfalso; exact absurd h (by decide)) | (exfalso; simp_all; done))
      have hsl := steadyL_len (st ⟨⟩) (sp ⟨⟩) (fd ⟨⟩) (l ⟨⟩) (n ⟨⟩)
      refine loop_rule (α := Unit → Nat) (c := ⟨tt, E29T, 1⟩)
          (fun i => fr 35 [(2, .c (.p 2 (.l 0))), (6, .c (.p 5 (.l 0))), (20, .c (.sl 3 (.l 0) (.x n))), (21, .c (.i .i64 (.x fun _ => n ()))), (22, .c (.i .i64 (.x fun _ => i ())))]) (fun i => [some ⟨false, 0, .fl l⟩, some ⟨true, 0, .lit [.f .f32 st, .f .f32 sp, .f .f32 fd, .sl 0 (.x o) (.x n)]⟩, some ⟨true, 0, .lit [.f .f32 fun _ => 0, .f .f32 fun _ => 0, .f .f32 fun _ => 0, .sn]⟩, some ⟨true, 1, .fl fun _ => steadyL (st ()) (sp ()) (fd ()) (l ()) (n ())⟩, some ⟨true, 3, .fl fun _ => tenTo (l ()) (fun j => steadyS (st ()) (sp ()) (fd ()) (l ()) (j + 1)) (i ())⟩, some ⟨true, 0, .lit [.f .f32 st, .f .f32 sp, .f .f32 fd, .sl 4 (.l 0) (.x n)]⟩])
          (fun i => i () ≤ n ()) (fun i => n () - i ()) (fun _ => n () + 1) ?_ ?_
      · refine .mk (fun _ => 0) (Nat.zero_le _) (by dsimp only; omega) ?_
        cbv
        repeat' (refine Ob.mk ?_ ?_; rotate_left)
        all_goals (try simp only [Unit.unit, Int.ofNat_lt, Int.ofNat_le, BE.val, IE.val, NE.val, ltB_iff, ltB_no, leB_iff, leB_no, Int.toNat_natCast, Nat.zero_add, Nat.add_zero, Nat.mul_one, forced, beq_iff_eq, beq_eq_false_iff_ne, bne_iff_ne, bne_eq_false_iff_eq] at *)
        all_goals first | with_reducible rfl | trivial | exact (tenTo_zero _ _).symm
      · intro i hi
        cbv
        repeat' first
          | (refine alt_t (by assumption) ?_; cbv)
          | (refine alt_f (by assumption) ?_; cbv)
          | (refine alt_b (fun h => ?_) (fun h => ?_) <;> cbv)
          | (refine Br.mk (fun h => ?_) (fun h => ?_) <;> cbv)
          | (refine Ob.mk ?_ ?_; rotate_left; cbv)
          | (refine Lex.mk (by kernel_rfl) ?_; cbv)
          | (refine Next.mk (fun _ => i () + 1) ?_ ?_ ?_)
        all_goals (try simp only [Unit.unit, Int.ofNat_lt, Int.ofNat_le, BE.val, IE.val, NE.val, ltB_iff, ltB_no, leB_iff, leB_no, Int.toNat_natCast, Nat.zero_add, Nat.add_zero, Nat.mul_one, forced, beq_iff_eq, beq_eq_false_iff_ne, bne_iff_ne, bne_eq_false_iff_eq] at *)
        all_goals (try simp only [ho0, Nat.zero_add, List.length_set] at *)
        all_goals first | with_reducible rfl | omega | exact wrap64_nat (by omega) | (refine ⟨Int.natCast_nonneg _, ?_⟩; omega) | exact tenTo_step (l ⟨⟩) (fun j => steadyS (st ⟨⟩) (sp ⟨⟩) (fd ⟨⟩) (l ⟨⟩) (j + 1)) (by omega) | exact ⟨ho0, hlen, hbig⟩ | (rw [tenTo_len _ _ (by omega)]; omega) | exact ⟨Int.natCast_nonneg _, by simpa using (by omega)⟩ | (rw [hsl]; omega) | (rw [steadyL_get _ _ _ _ (by omega)]; exact tenTo_step (l ⟨⟩) (fun j => steadyS (st ⟨⟩) (sp ⟨⟩) (fd ⟨⟩) (l ⟨⟩) (j + 1)) (by omega)) | (rw [show i ⟨⟩ = n ⟨⟩ by omega]; rfl)
    · cases hs
  · cases hs
def s29F : Spec := hspec fun args H => match args, H with
  | [.a [.f .f32 st, .f .f32 sp, .f .f32 fd, .sl 0 (.x o) (.x n)]], [some ⟨false, 0, x⟩] => match x.toFl with
    | some l => some (.t [.a [.f .f32 fun _ => 0, .f .f32 fun _ => 0, .f .f32 fun _ => 0, .sn], vI (steadyC (st ()) (sp ()) (fd ()) (l ()) (n ()))], [none], [fun _ => (steadyC (st ()) (sp ()) (fd ()) (l ()) (n ()) == 0) = false, fun _ => o () = 0 ∧ (l ()).length = 3 * n () ∧ n () ≤ 1048576])
    | _ => none
  | _, _ => none
def E29F : Env := fun g => envGetL [(27, ⟨true, sNo, some (s27T, s27F)⟩), (88, ⟨true, s88, none⟩)] g
theorem E29Fok : EnvOk Try.prog E29F := envOk_alt ok27T ok27F (envOk_cons ok88 (envOk_nil _))
set_option maxRecDepth 100000 in
set_option maxHeartbeats 2000000 in
theorem ok29F : Ok Try.prog 29 (s29F) := ok_of_wpaH (E := E29F) mixed tts E29Fok fn29 fun args H v H' o hs ho => by
  split at hs
  · rename_i st sp fd o n x
    split at hs
    · rename_i l hl
      cases hs
      obtain ⟨hc, ⟨ho0, hlen, hbig⟩⟩ := ho.two
      try simp only [Unit.unit] at hc ho0 hlen hbig
      refine ⟨_, HLe.cons (BLe.fl hl) HLe.nil, ?_⟩
      cbv
      repeat' first
        | (refine alt_t (by assumption) ?_; cbv)
        | (refine alt_f (by assumption) ?_; cbv)
        | (refine Br.mk (fun h => ?_) (fun h => ?_) <;> cbv)
        | (refine Ob.mk ?_ ?_; rotate_left; cbv)
      all_goals try (first | exact ⟨ho0, hlen, hbig⟩ | (exfalso; simp [IE.val] at h; done) | (exfalso; exact absurd h (by decide)) | (exfalso; simp_all; done))
      all_goals (try simp only [Unit.unit, Int.ofNat_lt, Int.ofNat_le, BE.val, IE.val, NE.val, ltB_iff, ltB_no, leB_iff, leB_no, Int.toNat_natCast, Nat.zero_add, Nat.add_zero, Nat.mul_one, forced, beq_iff_eq, beq_eq_false_iff_ne, bne_iff_ne, bne_eq_false_iff_eq] at *)
      all_goals first | with_reducible rfl | (simp_all; done)
    · cases hs
  · cases hs
theorem fn30 : FnOk Try.prog 30 Try.f30 (bodyOf Try.f30) := ⟨Try.func30, rfl, by rfl⟩
def s30T : Spec := hspec fun args H => match args, H with
  | [.a [.f .f32 st, .f .f32 sp, .f .f32 fd, .sl 0 (.x o) (.x n)]], [some ⟨false, 0, x⟩] => match x.toFl with
    | some l => some (.t [.a [.f .f32 st, .f .f32 sp, .f .f32 fd, .sl 1 (.l 0) (.x n)], vI 0], [none, some ⟨true, 3, .fl fun _ => steadyW (st ()) (sp ()) (fd ()) (l ()) (n ())⟩], [fun _ => (steadyC (st ()) (sp ()) (fd ()) (l ()) (n ()) == 0) = true, fun _ => o () = 0 ∧ (l ()).length = 3 * n () ∧ n () ≤ 1048576])
    | _ => none
  | _, _ => none
def E30T : Env := fun g => envGetL [(28, ⟨true, sNo, some (s28T, s28F)⟩), (89, ⟨true, s89, none⟩)] g
theorem E30Tok : EnvOk Try.prog E30T := envOk_alt ok28T ok28F (envOk_cons ok89 (envOk_nil _))
set_option maxRecDepth 100000 in
set_option maxHeartbeats 2000000 in
theorem ok30T : Ok Try.prog 30 (s30T) := ok_of_wpaH (E := E30T) mixed tts E30Tok fn30 fun args H v H' o hs ho => by
  split at hs
  · rename_i st sp fd o n x
    split at hs
    · rename_i l hl
      cases hs
      obtain ⟨hc, ⟨ho0, hlen, hbig⟩⟩ := ho.two
      try simp only [Unit.unit] at hc ho0 hlen hbig
      refine ⟨_, HLe.cons (BLe.fl hl) HLe.nil, ?_⟩
      cbv
      repeat' first
        | (refine alt_t (by assumption) ?_; cbv)
        | (refine alt_f (by assumption) ?_; cbv)
        | (refine Br.mk (fun h => ?_) (fun h => ?_) <;> cbv)
        | (refine Ob.mk ?_ ?_; rotate_left; cbv)
      all_goals try (first | exact ⟨ho0, hlen, hbig⟩ | (exfalso; simp [IE.val] at h; done) | (exfalso; exact absurd h (by decide)) | (exfalso; simp_all; done))
      have hsl := steadyL_len (st ⟨⟩) (sp ⟨⟩) (fd ⟨⟩) (l ⟨⟩) (n ⟨⟩)
      refine loop_rule (α := Unit → Nat) (c := ⟨tt, E30T, 1⟩)
          (fun i => fr 34 [(2, .c (.p 2 (.l 0))), (4, .c (.sl 3 (.l 0) (.x n))), (6, .c (.p 5 (.l 0))), (7, .c (.i .i64 (.x fun _ => i ())))]) (fun i => [some ⟨false, 0, .fl l⟩, some ⟨true, 0, .lit [.f .f32 st, .f .f32 sp, .f .f32 fd, .sl 0 (.x o) (.x n)]⟩, some ⟨true, 0, .lit [.f .f32 fun _ => 0, .f .f32 fun _ => 0, .f .f32 fun _ => 0, .sn]⟩, some ⟨true, 1, .fl fun _ => steadyL (st ()) (sp ()) (fd ()) (l ()) (n ())⟩, some ⟨true, 3, .fl fun _ => tenTo (l ()) (fun j => steadyS (st ()) (sp ()) (fd ()) (l ()) (j + 1)) (i ())⟩, some ⟨true, 0, .lit [.f .f32 st, .f .f32 sp, .f .f32 fd, .sl 4 (.l 0) (.x n)]⟩])
          (fun i => i () ≤ n ()) (fun i => n () - i ()) (fun _ => n () + 1) ?_ ?_
      · refine .mk (fun _ => 0) (Nat.zero_le _) (by dsimp only; omega) ?_
        cbv
        repeat' (refine Ob.mk ?_ ?_; rotate_left)
        all_goals (try simp only [Unit.unit, Int.ofNat_lt, Int.ofNat_le, BE.val, IE.val, NE.val, ltB_iff, ltB_no, leB_iff, leB_no, Int.toNat_natCast, Nat.zero_add, Nat.add_zero, Nat.mul_one, forced, beq_iff_eq, beq_eq_false_iff_ne, bne_iff_ne, bne_eq_false_iff_eq] at *)
        all_goals first | with_reducible rfl | trivial | exact (tenTo_zero _ _).symm
      · intro i hi
        cbv
        repeat' first
          | (refine alt_t (by assumption) ?_; cbv)
          | (refine alt_f (by assumption) ?_; cbv)
          | (refine alt_b (fun h => ?_) (fun h => ?_) <;> cbv)
          | (refine Br.mk (fun h => ?_) (fun h => ?_) <;> cbv)
          | (refine Ob.mk ?_ ?_; rotate_left; cbv)
          | (refine Lex.tail 9 (by decide +kernel) ?_; cbv)
          | (refine Next.mk (fun _ => i () + 1) ?_ ?_ ?_)
        all_goals (try simp only [Unit.unit, Int.ofNat_lt, Int.ofNat_le, BE.val, IE.val, NE.val, ltB_iff, ltB_no, leB_iff, leB_no, Int.toNat_natCast, Nat.zero_add, Nat.add_zero, Nat.mul_one, forced, beq_iff_eq, beq_eq_false_iff_ne, bne_iff_ne, bne_eq_false_iff_eq] at *)
        all_goals (try simp only [ho0, Nat.zero_add, List.length_set] at *)
        all_goals first | with_reducible rfl | omega | exact wrap64_nat (by omega) | (refine ⟨Int.natCast_nonneg _, ?_⟩; omega) | exact tenTo_step (l ⟨⟩) (fun j => steadyS (st ⟨⟩) (sp ⟨⟩) (fd ⟨⟩) (l ⟨⟩) (j + 1)) (by omega) | exact ⟨ho0, hlen, hbig⟩ | (rw [tenTo_len _ _ (by omega)]; omega) | exact ⟨Int.natCast_nonneg _, by simpa using (by omega)⟩ | (rw [hsl]; omega) | (rw [steadyL_get _ _ _ _ (by omega)]; exact tenTo_step (l ⟨⟩) (fun j => steadyS (st ⟨⟩) (sp ⟨⟩) (fd ⟨⟩) (l ⟨⟩) (j + 1)) (by omega)) | (rw [show i ⟨⟩ = n ⟨⟩ by omega]; rfl)
    · cases hs
  · cases hs
def s30F : Spec := hspec fun args H => match args, H with
  | [.a [.f .f32 st, .f .f32 sp, .f .f32 fd, .sl 0 (.x o) (.x n)]], [some ⟨false, 0, x⟩] => match x.toFl with
    | some l => some (.t [.a [.f .f32 fun _ => 0, .f .f32 fun _ => 0, .f .f32 fun _ => 0, .sn], vI (steadyC (st ()) (sp ()) (fd ()) (l ()) (n ()))], [none], [fun _ => (steadyC (st ()) (sp ()) (fd ()) (l ()) (n ()) == 0) = false, fun _ => o () = 0 ∧ (l ()).length = 3 * n () ∧ n () ≤ 1048576])
    | _ => none
  | _, _ => none
def E30F : Env := fun g => envGetL [(28, ⟨true, sNo, some (s28T, s28F)⟩), (89, ⟨true, s89, none⟩)] g
theorem E30Fok : EnvOk Try.prog E30F := envOk_alt ok28T ok28F (envOk_cons ok89 (envOk_nil _))
set_option maxRecDepth 100000 in
set_option maxHeartbeats 2000000 in
theorem ok30F : Ok Try.prog 30 (s30F) := ok_of_wpaH (E := E30F) mixed tts E30Fok fn30 fun args H v H' o hs ho => by
  split at hs
  · rename_i st sp fd o n x
    split at hs
    · rename_i l hl
      cases hs
      obtain ⟨hc, ⟨ho0, hlen, hbig⟩⟩ := ho.two
      try simp only [Unit.unit] at hc ho0 hlen hbig
      refine ⟨_, HLe.cons (BLe.fl hl) HLe.nil, ?_⟩
      cbv
      repeat' first
        | (refine alt_t (by assumption) ?_; cbv)
        | (refine alt_f (by assumption) ?_; cbv)
        | (refine Br.mk (fun h => ?_) (fun h => ?_) <;> cbv)
        | (refine Ob.mk ?_ ?_; rotate_left; cbv)
      all_goals try (first | exact ⟨ho0, hlen, hbig⟩ | (exfalso; simp [IE.val] at h; done) | (exfalso; exact absurd h (by decide)) | (exfalso; simp_all; done))
      all_goals (try simp only [Unit.unit, Int.ofNat_lt, Int.ofNat_le, BE.val, IE.val, NE.val, ltB_iff, ltB_no, leB_iff, leB_no, Int.toNat_natCast, Nat.zero_add, Nat.add_zero, Nat.mul_one, forced, beq_iff_eq, beq_eq_false_iff_ne, bne_iff_ne, bne_eq_false_iff_eq] at *)
      all_goals first | with_reducible rfl | (simp_all; done)
    · cases hs
  · cases hs
def sameLs (l l' : List Nat) (n : Nat) : Bool := allI (fun i => sameF (cv (l.getD i 0)) (cv (l'.getD i 0))) n
theorem sameLs_self (l : List Nat) (n : Nat) : sameLs l l n = true := allI_all fun i _ => sameF_refl _
theorem sameLs_no {l l' : List Nat} {n i : Nat} (h : i < n) (hp : sameF (cv (l.getD i 0)) (cv (l'.getD i 0)) = false) : sameLs l l' n = false := allI_no (p := fun i => sameF (cv (l.getD i 0)) (cv (l'.getD i 0))) h hp
theorem sameLs_step {l l' : List Nat} {i : Nat} (h : sameLs l l' i = true) (hp : sameF (cv (l.getD i 0)) (cv (l'.getD i 0)) = true) : sameLs l l' (i + 1) = true := by
  unfold sameLs at *
  simp only [allI, h, hp]; rfl
def marksF (k : Int) (l : List Nat) (i : Nat) : List Nat := fillTo (markF k) l i
theorem marksF_len {k : Int} {l : List Nat} {i : Nat} (h : i ≤ l.length) : (marksF k l i).length = l.length := fillTo_len _ _ h
theorem marksF_step {k : Int} {l : List Nat} {i : Nat} (h : i < l.length) : (marksF k l i).set i (floatOfInt .f32 (k + (i : Int))) = marksF k l (i + 1) := fillTo_set _ _ h
def heldF (k : Int) (l : List Nat) (i : Nat) : Bool := allI (heldI k l) i
theorem heldF_marks (k : Int) (l : List Nat) (n : Nat) : heldF k (marksF k l n) n = true := allI_all fun i hi => by
  unfold heldI marksF
  rw [fillTo_lo _ _ hi, markF, fint_eq]; rfl
theorem heldF_no {k : Int} {l : List Nat} {n i : Nat} {x : Int} (h : i < n) (hp : fcmp .neq .f32 (l.getD i 0) (floatOfInt .f32 (k + (i : Int))) = true) : -1 = if heldF k l n = true then x else -1 := by
  have : heldF k l n = false := allI_no h (by unfold heldI markF; rw [hp]; rfl)
  rw [this]; rfl
theorem heldF_step {k : Int} {l : List Nat} {i : Nat} (h : heldF k l i = true) (hp : fcmp .neq .f32 (l.getD i 0) (floatOfInt .f32 (k + (i : Int))) = false) : heldF k l (i + 1) = true := by
  unfold heldF at *
  simp only [allI, h, heldI, markF, hp]; rfl
theorem wrapF {k : Int} {i : Nat} (h0 : 0 ≤ k) (h1 : k < 4294967296) (h2 : i < 1048577) : IntKind.wrap .i64 (k + (i : Int) + 1) = k + ((i + 1 : Nat) : Int) := wrapK h0 h1 (by omega)
theorem fn69 : FnOk Try.prog 69 Try.f69 (bodyOf Try.f69) := ⟨Try.func69, rfl, by rfl⟩
def s69 : Spec := hspec fun args H => match args, H with
  | [.c (.sl 0 (.x o) (.x n)), .c (.sl 1 (.x o') (.x n'))], [some ⟨false, 0, x⟩, some ⟨false, 0, x'⟩] => match x.toFl, x'.toFl with
    | some l, some l' => some (vB (n () == n' () && sameLs (l ()) (l' ()) (n ())), [none, none], [fun _ => o () = 0 ∧ (l ()).length = n () ∧ n () ≤ 1048576, fun _ => o' () = 0 ∧ (l' ()).length = n' () ∧ n' () ≤ 1048576])
    | _, _ => none
  | [.c .sn, .c (.sl 0 (.x _) (.x n'))], [some ⟨false, 0, _⟩] => some (vB (n' () == 0), [none], [])
  | _, _ => none
def E69 : Env := fun g => envGetL [(54, ⟨true, s54, none⟩)] g
theorem E69ok : EnvOk Try.prog E69 := envOk_cons ok54 (envOk_nil _)
set_option maxRecDepth 100000 in
set_option maxHeartbeats 2000000 in
theorem ok69 : Ok Try.prog 69 (s69) := ok_of_wpaH (E := E69) mixed tts E69ok fn69 fun args H v H' o hs ho => by
  split at hs
  · rename_i o n o' n' x x'
    split at hs
    · rename_i l l' hl hl'
      cases hs
      obtain ⟨⟨ho0, hlen, hbig⟩, ⟨ho0', hlen', hbig'⟩⟩ := ho.two
      refine ⟨_, HLe.cons (BLe.fl hl) (HLe.cons (BLe.fl hl') HLe.nil), ?_⟩
      cbv
      refine Br.mk (fun hne => ?_) (fun hne => ?_)
      · cbv
        repeat' (refine Ob.mk ?_ ?_; rotate_left; cbv)
        all_goals (try simp only [Unit.unit, Int.ofNat_lt, Int.ofNat_le, BE.val, IE.val, NE.val, ltB_iff, ltB_no, leB_iff, leB_no, Int.toNat_natCast, Nat.zero_add, Nat.add_zero, Nat.mul_one, forced, beq_iff_eq, beq_eq_false_iff_ne, bne_iff_ne, bne_eq_false_iff_eq] at *)
        all_goals first | with_reducible rfl | (simp_all; done) | grind
      · cbv
        have hnn : n () = n' () := by
          (try simp only [Unit.unit, Int.ofNat_lt, Int.ofNat_le, BE.val, IE.val, NE.val, ltB_iff, ltB_no, leB_iff, leB_no, Int.toNat_natCast, Nat.zero_add, Nat.add_zero, Nat.mul_one, forced, beq_iff_eq, beq_eq_false_iff_ne, bne_iff_ne, bne_eq_false_iff_eq] at *)
          grind
        refine loop_rule (α := Unit → Nat) (c := ⟨tt, E69, 2⟩)
            (fun i => fr 29 [(0, .c (.sl 0 (.x o) (.x n))), (1, .c (.sl 1 (.x o') (.x n'))), (5, .c (.i .i64 (.x fun _ => i ())))]) (fun i => [some ⟨false, 0, .fl l⟩, some ⟨false, 0, .fl l'⟩])
            (fun i => i () ≤ n () ∧ sameLs (l ()) (l' ()) (i ()) = true) (fun i => n () - i ()) (fun _ => n () + 1) ?_ ?_
        · refine .mk (fun _ => 0) ⟨Nat.zero_le _, rfl⟩ (by dsimp only; omega) ?_
          cbv
          repeat' (refine Ob.mk ?_ ?_; rotate_left)
          all_goals (try simp only [Unit.unit, Int.ofNat_lt, Int.ofNat_le, BE.val, IE.val, NE.val, ltB_iff, ltB_no, leB_iff, leB_no, Int.toNat_natCast, Nat.zero_add, Nat.add_zero, Nat.mul_one, forced, beq_iff_eq, beq_eq_false_iff_ne, bne_iff_ne, bne_eq_false_iff_eq] at *)
          all_goals first | with_reducible rfl | trivial
        · intro i hi
          cbv
          repeat' first
            | (refine alt_t (by assumption) ?_; cbv)
            | (refine alt_f (by assumption) ?_; cbv)
            | (refine alt_b (fun h => ?_) (fun h => ?_) <;> cbv)
            | (refine Br.mk (fun h => ?_) (fun h => ?_) <;> cbv)
            | (refine Ob.mk ?_ ?_; rotate_left; cbv)
            | (refine Lex.mk (by kernel_rfl) ?_; cbv)
            | (refine Next.mk (fun _ => i () + 1) ?_ ?_ ?_)
          all_goals (try simp only [Unit.unit, Int.ofNat_lt, Int.ofNat_le, BE.val, IE.val, NE.val, ltB_iff, ltB_no, leB_iff, leB_no, Int.toNat_natCast, Nat.zero_add, Nat.add_zero, Nat.mul_one, forced, beq_iff_eq, beq_eq_false_iff_ne, bne_iff_ne, bne_eq_false_iff_eq] at *)
          all_goals (try simp only [ho0, ho0', Nat.zero_add] at *)
          all_goals first | with_reducible rfl | omega | exact wrap64_nat (by omega) | (refine ⟨Int.natCast_nonneg _, ?_⟩; omega) | exact ⟨by omega, sameLs_step hi.2 (not_f (by assumption))⟩ | (rw [sameLs_no (by omega) (not_t (by assumption)), Bool.and_false]; done) | ((try rw [show i ⟨⟩ = n ⟨⟩ by omega] at hi); simp_all; done) | grind
    · cases hs
  · rename_i o n' x
    cases hs
    refine ⟨_, HLe.cons (BLe.refl _) HLe.nil, ?_⟩
    cbv
    refine Br.mk (fun hne => ?_) (fun hne => ?_)
    · cbv
      repeat' (refine Ob.mk ?_ ?_; rotate_left; cbv)
      all_goals (try simp only [Unit.unit, Int.ofNat_lt, Int.ofNat_le, BE.val, IE.val, NE.val, ltB_iff, ltB_no, leB_iff, leB_no, Int.toNat_natCast, Nat.zero_add, Nat.add_zero, Nat.mul_one, forced, beq_iff_eq, beq_eq_false_iff_ne, bne_iff_ne, bne_eq_false_iff_eq] at *)
      all_goals first | with_reducible rfl | grind
    · cbv
      repeat' first
        | (refine Loop.mk 5 ?_; cbv)
        | (refine Gen.same ?_; cbv)
        | (refine Ob.mk ?_ ?_; rotate_left; cbv)
      all_goals (try simp only [Unit.unit, Int.ofNat_lt, Int.ofNat_le, BE.val, IE.val, NE.val, ltB_iff, ltB_no, leB_iff, leB_no, Int.toNat_natCast, Nat.zero_add, Nat.add_zero, Nat.mul_one, forced, beq_iff_eq, beq_eq_false_iff_ne, bne_iff_ne, bne_eq_false_iff_eq] at *)
      all_goals first | with_reducible rfl | grind
  · cases hs
theorem fn70 : FnOk Try.prog 70 Try.f70 (bodyOf Try.f70) := ⟨Try.func70, rfl, by rfl⟩
def s70 : Spec := hspec fun args H => match args, H with
  | [.c (.sl 0 (.x o) (.x n)), .c (.i .i64 (.x k))], [some ⟨true, 1, x⟩] => match x.toFl with
    | some l => some (vI (k () + (n () : Int)), [some ⟨true, 1, .fl fun _ => marksF (k ()) (l ()) (n ())⟩], [fun _ => o () = 0 ∧ (l ()).length = n () ∧ n () ≤ 1048576, fun _ => 0 ≤ k () ∧ k () < 4294967296])
    | _ => none
  | [.c .sn, .c (.i .i64 (.x k))], [] => some (vI (k ()), [], [])
  | _, _ => none
set_option maxRecDepth 100000 in
set_option maxHeartbeats 2000000 in
theorem ok70 : Ok Try.prog 70 (s70) := ok_of_wpaH (E := envGetL []) mixed tts (envOk_nil _) fn70 fun args H v H' o hs ho => by
  split at hs
  · rename_i o n k x
    split at hs
    · rename_i l hl
      cases hs
      obtain ⟨⟨ho0, hlen, hbig⟩, hk0, hk1⟩ := ho.two
      refine ⟨_, HLe.cons (BLe.fl hl) HLe.nil, ?_⟩
      cbv
      refine loop_rule (α := Unit → Nat) (c := ⟨tt, (envGetL []), 1⟩)
          (fun i => fr 20 [(0, .c (.sl 0 (.x o) (.x n))), (1, .c (.i .i64 (.x fun _ => k () + (i () : Int)))), (5, .c (.i .i64 (.x fun _ => i ())))]) (fun i => [some ⟨true, 1, .fl fun _ => marksF (k ()) (l ()) (i ())⟩])
          (fun i => i () ≤ n ()) (fun i => n () - i ()) (fun _ => n () + 1) ?_ ?_
      · refine .mk (fun _ => 0) (Nat.zero_le _) (by dsimp only; omega) ?_
        cbv
        repeat' (refine Ob.mk ?_ ?_; rotate_left)
        all_goals (try simp only [Unit.unit, Int.ofNat_lt, Int.ofNat_le, BE.val, IE.val, NE.val, ltB_iff, ltB_no, leB_iff, leB_no, Int.toNat_natCast, Nat.zero_add, Nat.add_zero, Nat.mul_one, forced, beq_iff_eq, beq_eq_false_iff_ne, bne_iff_ne, bne_eq_false_iff_eq] at *)
        all_goals first | with_reducible rfl | trivial | (simp; done) | rfl
      · intro i hi
        have h1 : i ⟨⟩ ≤ n ⟨⟩ := hi
        cbv
        repeat' first
          | (refine alt_t (by assumption) ?_; cbv)
          | (refine alt_f (by assumption) ?_; cbv)
          | (refine alt_b (fun h => ?_) (fun h => ?_) <;> cbv)
          | (refine Br.mk (fun h => ?_) (fun h => ?_) <;> cbv)
          | (refine Ob.mk ?_ ?_; rotate_left; cbv)
          | (refine Lex.mk (by kernel_rfl) ?_; cbv)
          | (refine Next.mk (fun _ => i () + 1) ?_ ?_ ?_)
        all_goals (try simp only [Unit.unit, Int.ofNat_lt, Int.ofNat_le, BE.val, IE.val, NE.val, ltB_iff, ltB_no, leB_iff, leB_no, Int.toNat_natCast, Nat.zero_add, Nat.add_zero, Nat.mul_one, forced, beq_iff_eq, beq_eq_false_iff_ne, bne_iff_ne, bne_eq_false_iff_eq] at *)
        all_goals (try simp only [ho0, Nat.zero_add, List.length_set] at *)
        all_goals first | with_reducible rfl | omega | exact wrap64_nat (by omega) | (refine ⟨Int.natCast_nonneg _, ?_⟩; omega) | (rw [marksF_len (by omega)]; omega) | exact marksF_step (by omega) | (with_reducible exact wrapF (k := k ⟨⟩) (i := i ⟨⟩) hk0 hk1 (by omega)) | (rw [show i ⟨⟩ = n ⟨⟩ by omega]; done)
    · cases hs
  · rename_i k
    cases hs
    refine ⟨_, HLe.nil, ?_⟩
    cbv
    repeat' first
      | (refine Loop.mk 5 ?_; cbv)
      | (refine Gen.same ?_; cbv)
      | (refine Ob.mk ?_ ?_; rotate_left; cbv)
    all_goals (try simp only [Unit.unit, Int.ofNat_lt, Int.ofNat_le, BE.val, IE.val, NE.val, ltB_iff, ltB_no, leB_iff, leB_no, Int.toNat_natCast, Nat.zero_add, Nat.add_zero, Nat.mul_one, forced, beq_iff_eq, beq_eq_false_iff_ne, bne_iff_ne, bne_eq_false_iff_eq] at *)
    all_goals first | with_reducible rfl | grind
  · cases hs
theorem fn71 : FnOk Try.prog 71 Try.f71 (bodyOf Try.f71) := ⟨Try.func71, rfl, by rfl⟩
def s71 : Spec := hspec fun args H => match args, H with
  | [.c (.sl 0 (.x o) (.x n)), .c (.i .i64 (.x k))], [some ⟨false, 0, x⟩] => match x.toFl with
    | some l => some (vI (if heldF (k ()) (l ()) (n ()) then k () + (n () : Int) else -1), [none], [fun _ => o () = 0 ∧ (l ()).length = n () ∧ n () ≤ 1048576, fun _ => 0 ≤ k () ∧ k () < 4294967296])
    | _ => none
  | [.c .sn, .c (.i .i64 (.x k))], [] => some (vI (k ()), [], [])
  | _, _ => none
set_option maxRecDepth 100000 in
set_option maxHeartbeats 2000000 in
theorem ok71 : Ok Try.prog 71 (s71) := ok_of_wpaH (E := envGetL []) mixed tts (envOk_nil _) fn71 fun args H v H' o hs ho => by
  split at hs
  · rename_i o n k x
    split at hs
    · rename_i l hl
      cases hs
      obtain ⟨⟨ho0, hlen, hbig⟩, hk0, hk1⟩ := ho.two
      refine ⟨_, HLe.cons (BLe.fl hl) HLe.nil, ?_⟩
      cbv
      refine loop_rule (α := Unit → Nat) (c := ⟨tt, (envGetL []), 1⟩)
          (fun i => fr 22 [(0, .c (.sl 0 (.x o) (.x n))), (1, .c (.i .i64 (.x fun _ => k () + (i () : Int)))), (5, .c (.i .i64 (.x fun _ => i ())))]) (fun i => [some ⟨false, 0, .fl l⟩])
          (fun i => i () ≤ n () ∧ heldF (k ()) (l ()) (i ()) = true) (fun i => n () - i ()) (fun _ => n () + 1) ?_ ?_
      · refine .mk (fun _ => 0) ⟨Nat.zero_le _, rfl⟩ (by dsimp only; omega) ?_
        cbv
        repeat' (refine Ob.mk ?_ ?_; rotate_left)
        all_goals (try simp only [Unit.unit, Int.ofNat_lt, Int.ofNat_le, BE.val, IE.val, NE.val, ltB_iff, ltB_no, leB_iff, leB_no, Int.toNat_natCast, Nat.zero_add, Nat.add_zero, Nat.mul_one, forced, beq_iff_eq, beq_eq_false_iff_ne, bne_iff_ne, bne_eq_false_iff_eq] at *)
        all_goals first | with_reducible rfl | trivial | (simp; done) | rfl
      · intro i hi
        have h1 : i ⟨⟩ ≤ n ⟨⟩ := hi.1
        cbv
        repeat' first
          | (refine alt_t (by assumption) ?_; cbv)
          | (refine alt_f (by assumption) ?_; cbv)
          | (refine alt_b (fun h => ?_) (fun h => ?_) <;> cbv)
          | (refine Br.mk (fun h => ?_) (fun h => ?_) <;> cbv)
          | (refine Ob.mk ?_ ?_; rotate_left; cbv)
          | (refine Lex.mk (by kernel_rfl) ?_; cbv)
          | (refine Next.mk (fun _ => i () + 1) ?_ ?_ ?_)
        all_goals (try simp only [Unit.unit, Int.ofNat_lt, Int.ofNat_le, BE.val, IE.val, NE.val, ltB_iff, ltB_no, leB_iff, leB_no, Int.toNat_natCast, Nat.zero_add, Nat.add_zero, Nat.mul_one, forced, beq_iff_eq, beq_eq_false_iff_ne, bne_iff_ne, bne_eq_false_iff_eq] at *)
        all_goals (try simp only [ho0, Nat.zero_add, List.length_set] at *)
        all_goals first | with_reducible rfl | omega | exact wrap64_nat (by omega) | (refine ⟨Int.natCast_nonneg _, ?_⟩; omega) | (with_reducible exact wrapF (k := k ⟨⟩) (i := i ⟨⟩) hk0 hk1 (by omega)) | exact heldF_no (by omega) (by assumption) | exact ⟨by omega, heldF_step hi.2 (by assumption)⟩ | (rw [show i ⟨⟩ = n ⟨⟩ by omega] at hi; rw [show i ⟨⟩ = n ⟨⟩ by omega, if_pos hi.2]; done) | (rw [show i ⟨⟩ = n ⟨⟩ by omega] at hi; rw [if_pos hi.2]; (try rw [show i ⟨⟩ = n ⟨⟩ by omega]); done)
    · cases hs
  · rename_i k
    cases hs
    refine ⟨_, HLe.nil, ?_⟩
    cbv
    repeat' first
      | (refine Loop.mk 5 ?_; cbv)
      | (refine Gen.same ?_; cbv)
      | (refine Ob.mk ?_ ?_; rotate_left; cbv)
    all_goals (try simp only [Unit.unit, Int.ofNat_lt, Int.ofNat_le, BE.val, IE.val, NE.val, ltB_iff, ltB_no, leB_iff, leB_no, Int.toNat_natCast, Nat.zero_add, Nat.add_zero, Nat.mul_one, forced, beq_iff_eq, beq_eq_false_iff_ne, bne_iff_ne, bne_eq_false_iff_eq] at *)
    all_goals first | with_reducible rfl | grind
  · cases hs
end Go.Proofs.Ythkjlbggipocdaa.Sh
