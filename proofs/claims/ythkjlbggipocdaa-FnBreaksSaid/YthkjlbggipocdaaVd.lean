/- What the steps of this seat compute, each shown once. No condition. -/
import Derived.Test.YthkjlbggipocdaaVc
set_option linter.unusedVariables false
set_option linter.unusedSimpArgs false
set_option linter.unusedSectionVars false
namespace Go.Proofs.Ythkjlbggipocdaa.Sh
open Go Go.Proofs
theorem fn105 : FnOk Try.prog 105 Try.f105 (bodyOf Try.f105) := ⟨Try.func105, rfl, by rfl⟩
def s105 : Spec := hspec fun args H => match args, H with
  | [.a [.f .f32 st, .f .f32 sp, .f .f32 fd, .sl 0 (.x o) (.x n)], .c (.f .f32 tm)], [some ⟨false, 0, x⟩] => match x.toFl with
    | some l => some (.t [.a [.f .f32 st, .f .f32 sp, .f .f32 fd, .sl 1 (.l 0) (.x n)], vB (webOk (st ()) (sp ()) (fd ()) (stepW (st ()) (sp ()) (fd ()) (tm ()) (l ()) (n ())) (n ()))], [none, some ⟨true, 3, .fl fun _ => stepW (st ()) (sp ()) (fd ()) (tm ()) (l ()) (n ())⟩], [fun _ => o () = 0 ∧ (l ()).length = 3 * n () ∧ n () ≤ 1048576])
    | _ => none
  | _, _ => none
def E105 : Env := fun g => envGetL [(88, ⟨true, s88, none⟩), (111, ⟨true, s111, none⟩), (91, ⟨true, s91, none⟩), (51, ⟨true, s51, none⟩)] g
theorem E105ok : EnvOk Try.prog E105 := envOk_cons ok88 (envOk_cons ok111 (envOk_cons ok91 (envOk_cons ok51 (envOk_nil _))))
set_option maxRecDepth 100000 in
set_option maxHeartbeats 1000000 in
theorem ok105 : Ok Try.prog 105 (s105) := ok_of_wpaH (E := E105) mixed tts E105ok fn105 fun args H v H' o hs ho => by
  split at hs
  · rename_i st sp fd o n tm x
    split at hs
    · rename_i l hl
      cases hs
      obtain ⟨ho0, hlen, hbig⟩ := ho.one
      try simp only [Unit.unit] at ho0 hlen hbig
      refine ⟨_, HLe.cons (BLe.fl hl) HLe.nil, ?_⟩
      cbv
      refine Ob.mk ⟨ho0, hlen, hbig⟩ ?_
      cbv
      refine loop_rule (α := Unit → Nat) (c := ⟨tt, E105, 1⟩)
          (fun i => fr 36 [(1, .c (.f .f32 tm)), (2, .c (.p 1 (.l 0))), (4, .c (.p 2 (.l 0))), (6, .c (.p 4 (.l 0))), (12, .c (.i .i64 (.x fun _ => n ()))), (13, .c (.i .i64 (.x fun _ => i ())))]) (fun i => [some ⟨false, 0, .fl l⟩, some ⟨true, 0, .lit [.f .f32 st, .f .f32 sp, .f .f32 fd, .sl 0 (.x o) (.x n)]⟩, some ⟨true, 0, .lit [.f .f32 fun _ => 0, .f .f32 fun _ => 0, .f .f32 fun _ => 0, .sn]⟩, some ⟨true, 3, .fl fun _ => tenTo (l ()) (stepF (st ()) (sp ()) (fd ()) (tm ()) (l ())) (i ())⟩, some ⟨true, 0, .lit [.f .f32 st, .f .f32 sp, .f .f32 fd, .sl 3 (.l 0) (.x n)]⟩])
          (fun i => i () ≤ n ()) (fun i => n () - i ()) (fun _ => n () + 1) ?_ ?_
      · refine .mk (fun _ => 0) (Nat.zero_le _) (by dsimp only; omega) ?_
        cbv
        repeat' (refine Ob.mk ?_ ?_; rotate_left)
        all_goals (try simp only [Unit.unit, Int.ofNat_lt, Int.ofNat_le, BE.val, IE.val, NE.val, ltB_iff, ltB_no, leB_iff, leB_no, Int.toNat_natCast, Nat.zero_add, Nat.add_zero, Nat.mul_one, forced, beq_iff_eq, beq_eq_false_iff_ne] at *)
        all_goals first | with_reducible rfl | trivial | exact (tenTo_zero _ _).symm
      · intro i hi
        cbv
        repeat' first
          | (refine alt_t (by assumption) ?_; cbv)
          | (refine alt_f (by assumption) ?_; cbv)
          | (refine alt_b (fun h => ?_) (fun h => ?_) <;> cbv)
          | (refine Br.mk (fun h => ?_) (fun h => ?_) <;> cbv)
          | (refine Ob.mk ?_ ?_; rotate_left; cbv)
          | (refine Lex.tail 16 (by decide +kernel) ?_; cbv)
          | (refine Lex.tail 3 (by decide +kernel) ?_; cbv)
          | (refine Next.mk (fun _ => i () + 1) ?_ ?_ ?_)
        all_goals (try simp only [Unit.unit, Int.ofNat_lt, Int.ofNat_le, BE.val, IE.val, NE.val, ltB_iff, ltB_no, leB_iff, leB_no, Int.toNat_natCast, Nat.zero_add, Nat.add_zero, Nat.mul_one, forced, beq_iff_eq, beq_eq_false_iff_ne] at *)
        all_goals (try simp only [ho0, Nat.zero_add, List.length_set] at *)
        all_goals first | with_reducible rfl | omega | exact wrap64_nat (by omega) | (refine ⟨Int.natCast_nonneg _, ?_⟩; omega) | exact tenTo_step (l ⟨⟩) (stepF (st ⟨⟩) (sp ⟨⟩) (fd ⟨⟩) (tm ⟨⟩) (l ⟨⟩)) (by omega) | exact ⟨by trivial, by rw [tenTo_len _ _ (by omega)]; exact hlen, hbig⟩ | exact ⟨ho0, hlen, hbig⟩ | (rw [tenTo_len _ _ (by omega)]; omega) | exact ⟨Int.natCast_nonneg _, by simpa using (by omega)⟩ | (rw [show i ⟨⟩ = n ⟨⟩ by omega]; rfl) | exact (tenTo_zero _ _).symm
    · cases hs
  · cases hs
theorem fn109 : FnOk Try.prog 109 Try.f109 (bodyOf Try.f109) := ⟨Try.func109, rfl, by rfl⟩
def s109T : Spec := hspec fun args H => match args, H with
  | [.c (.p 0 (.l 0)), .c (.f .f32 tm)], [some ⟨false, 0, .lit [.f .f32 st, .f .f32 sp, .f .f32 fd, .sl 1 (.x o) (.x n)]⟩, some ⟨false, 0, x⟩] => match x.toFl with
    | some l => some (.t [.a [.f .f32 st, .f .f32 sp, .f .f32 fd, .sl 2 (.l 0) (.x n)], vI 0], [none, none, some ⟨true, 3, .fl fun _ => stepW (st ()) (sp ()) (fd ()) (tm ()) (l ()) (n ())⟩], [fun _ => webOk (st ()) (sp ()) (fd ()) (stepW (st ()) (sp ()) (fd ()) (tm ()) (l ()) (n ())) (n ()) = true, fun _ => o () = 0 ∧ (l ()).length = 3 * n () ∧ n () ≤ 1048576])
    | _ => none
  | _, _ => none
def E109T : Env := fun g => envGetL [(89, ⟨true, s89, none⟩), (122, ⟨true, s122, none⟩), (86, ⟨true, s86, none⟩)] g
theorem E109Tok : EnvOk Try.prog E109T := envOk_cons ok89 (envOk_cons ok122 (envOk_cons ok86 (envOk_nil _)))
set_option maxRecDepth 100000 in
set_option maxHeartbeats 1000000 in
theorem ok109T : Ok Try.prog 109 (s109T) := ok_of_wpaH (E := E109T) mixed tts E109Tok fn109 fun args H v H' o hs ho => by
  split at hs
  · rename_i tm st sp fd o n x
    split at hs
    · rename_i l hl
      cases hs
      obtain ⟨hc, ⟨ho0, hlen, hbig⟩⟩ := ho.two
      try simp only [Unit.unit] at hc ho0 hlen hbig
      refine ⟨_, HLe.cons (BLe.refl _) (HLe.cons (BLe.fl hl) HLe.nil), ?_⟩
      cbv
      refine Ob.mk ⟨ho0, hlen, hbig⟩ ?_
      cbv
      refine loop_rule (α := Unit → Nat) (c := ⟨tt, E109T, 2⟩)
          (fun i => fr 42 [(0, .c (.p 0 (.l 0))), (1, .c (.f .f32 tm)), (4, .c (.p 2 (.l 0))), (6, .c (.p 4 (.l 0))), (7, .c (.i .i64 (.x fun _ => i ())))]) (fun i => [some ⟨false, 0, .lit [.f .f32 st, .f .f32 sp, .f .f32 fd, .sl 1 (.x o) (.x n)]⟩, some ⟨false, 0, .fl l⟩, some ⟨true, 0, .lit [.f .f32 fun _ => 0, .f .f32 fun _ => 0, .f .f32 fun _ => 0, .sn]⟩, some ⟨true, 3, .fl fun _ => tenTo (l ()) (stepF (st ()) (sp ()) (fd ()) (tm ()) (l ())) (i ())⟩, some ⟨true, 0, .lit [.f .f32 st, .f .f32 sp, .f .f32 fd, .sl 3 (.l 0) (.x n)]⟩])
          (fun i => i () ≤ n ()) (fun i => n () - i ()) (fun _ => n () + 1) ?_ ?_
      · refine .mk (fun _ => 0) (Nat.zero_le _) (by dsimp only; omega) ?_
        cbv
        repeat' (refine Ob.mk ?_ ?_; rotate_left)
        all_goals (try simp only [Unit.unit, Int.ofNat_lt, Int.ofNat_le, BE.val, IE.val, NE.val, ltB_iff, ltB_no, leB_iff, leB_no, Int.toNat_natCast, Nat.zero_add, Nat.add_zero, Nat.mul_one, forced, beq_iff_eq, beq_eq_false_iff_ne] at *)
        all_goals first | with_reducible rfl | trivial | exact (tenTo_zero _ _).symm
      · intro i hi
        cbv
        repeat' first
          | (refine alt_t (by assumption) ?_; cbv)
          | (refine alt_f (by assumption) ?_; cbv)
          | (refine alt_b (fun h => ?_) (fun h => ?_) <;> cbv)
          | (refine Br.mk (fun h => ?_) (fun h => ?_) <;> cbv)
          | (refine Ob.mk ?_ ?_; rotate_left; cbv)
          | (refine Lex.tail 19 (by decide +kernel) ?_; cbv)
          | (refine Next.mk (fun _ => i () + 1) ?_ ?_ ?_)
        all_goals (try simp only [Unit.unit, Int.ofNat_lt, Int.ofNat_le, BE.val, IE.val, NE.val, ltB_iff, ltB_no, leB_iff, leB_no, Int.toNat_natCast, Nat.zero_add, Nat.add_zero, Nat.mul_one, forced, beq_iff_eq, beq_eq_false_iff_ne] at *)
        all_goals (try simp only [ho0, Nat.zero_add, List.length_set] at *)
        all_goals first | with_reducible rfl | (exfalso; have e : i ⟨⟩ = n ⟨⟩ := (by omega); have hq := ‹(!webOk (st ⟨⟩) (sp ⟨⟩) (fd ⟨⟩) (tenTo (l ⟨⟩) (stepF (st ⟨⟩) (sp ⟨⟩) (fd ⟨⟩) (tm ⟨⟩) (l ⟨⟩)) (i ⟨⟩)) (n ⟨⟩)) = true›; rw [e] at hq; have hc' : webOk (st ⟨⟩) (sp ⟨⟩) (fd ⟨⟩) (tenTo (l ⟨⟩) (stepF (st ⟨⟩) (sp ⟨⟩) (fd ⟨⟩) (tm ⟨⟩) (l ⟨⟩)) (n ⟨⟩)) (n ⟨⟩) = true := hc; rw [hc'] at hq; simp at hq; done) | omega | exact wrap64_nat (by omega) | (refine ⟨Int.natCast_nonneg _, ?_⟩; omega) | exact tenTo_step (l ⟨⟩) (stepF (st ⟨⟩) (sp ⟨⟩) (fd ⟨⟩) (tm ⟨⟩) (l ⟨⟩)) (by omega) | exact ⟨by trivial, by rw [tenTo_len _ _ (by omega)]; exact hlen, hbig⟩ | exact ⟨ho0, hlen, hbig⟩ | (rw [tenTo_len _ _ (by omega)]; omega) | exact ⟨Int.natCast_nonneg _, by simpa using (by omega)⟩ | (rw [show i ⟨⟩ = n ⟨⟩ by omega]; rfl) | exact (tenTo_zero _ _).symm
    · cases hs
  · cases hs
def s109F : Spec := hspec fun args H => match args, H with
  | [.c (.p 0 (.l 0)), .c (.f .f32 tm)], [some ⟨false, 0, .lit [.f .f32 st, .f .f32 sp, .f .f32 fd, .sl 1 (.x o) (.x n)]⟩, some ⟨false, 0, x⟩] => match x.toFl with
    | some l => some (.t [.a [.f .f32 fun _ => 0, .f .f32 fun _ => 0, .f .f32 fun _ => 0, .sn], vI 4], [none, none], [fun _ => webOk (st ()) (sp ()) (fd ()) (stepW (st ()) (sp ()) (fd ()) (tm ()) (l ()) (n ())) (n ()) = false, fun _ => o () = 0 ∧ (l ()).length = 3 * n () ∧ n () ≤ 1048576])
    | _ => none
  | _, _ => none
def E109F : Env := fun g => envGetL [(89, ⟨true, s89, none⟩), (122, ⟨true, s122, none⟩), (86, ⟨true, s86, none⟩)] g
theorem E109Fok : EnvOk Try.prog E109F := envOk_cons ok89 (envOk_cons ok122 (envOk_cons ok86 (envOk_nil _)))
set_option maxRecDepth 100000 in
set_option maxHeartbeats 1000000 in
theorem ok109F : Ok Try.prog 109 (s109F) := ok_of_wpaH (E := E109F) mixed tts E109Fok fn109 fun args H v H' o hs ho => by
  split at hs
  · rename_i tm st sp fd o n x
    split at hs
    · rename_i l hl
      cases hs
      obtain ⟨hc, ⟨ho0, hlen, hbig⟩⟩ := ho.two
      try simp only [Unit.unit] at hc ho0 hlen hbig
      refine ⟨_, HLe.cons (BLe.refl _) (HLe.cons (BLe.fl hl) HLe.nil), ?_⟩
      cbv
      refine Ob.mk ⟨ho0, hlen, hbig⟩ ?_
      cbv
      refine loop_rule (α := Unit → Nat) (c := ⟨tt, E109F, 2⟩)
          (fun i => fr 42 [(0, .c (.p 0 (.l 0))), (1, .c (.f .f32 tm)), (4, .c (.p 2 (.l 0))), (6, .c (.p 4 (.l 0))), (7, .c (.i .i64 (.x fun _ => i ())))]) (fun i => [some ⟨false, 0, .lit [.f .f32 st, .f .f32 sp, .f .f32 fd, .sl 1 (.x o) (.x n)]⟩, some ⟨false, 0, .fl l⟩, some ⟨true, 0, .lit [.f .f32 fun _ => 0, .f .f32 fun _ => 0, .f .f32 fun _ => 0, .sn]⟩, some ⟨true, 3, .fl fun _ => tenTo (l ()) (stepF (st ()) (sp ()) (fd ()) (tm ()) (l ())) (i ())⟩, some ⟨true, 0, .lit [.f .f32 st, .f .f32 sp, .f .f32 fd, .sl 3 (.l 0) (.x n)]⟩])
          (fun i => i () ≤ n ()) (fun i => n () - i ()) (fun _ => n () + 1) ?_ ?_
      · refine .mk (fun _ => 0) (Nat.zero_le _) (by dsimp only; omega) ?_
        cbv
        repeat' (refine Ob.mk ?_ ?_; rotate_left)
        all_goals (try simp only [Unit.unit, Int.ofNat_lt, Int.ofNat_le, BE.val, IE.val, NE.val, ltB_iff, ltB_no, leB_iff, leB_no, Int.toNat_natCast, Nat.zero_add, Nat.add_zero, Nat.mul_one, forced, beq_iff_eq, beq_eq_false_iff_ne] at *)
        all_goals first | with_reducible rfl | trivial | exact (tenTo_zero _ _).symm
      · intro i hi
        cbv
        repeat' first
          | (refine alt_t (by assumption) ?_; cbv)
          | (refine alt_f (by assumption) ?_; cbv)
          | (refine alt_b (fun h => ?_) (fun h => ?_) <;> cbv)
          | (refine Br.mk (fun h => ?_) (fun h => ?_) <;> cbv)
          | (refine Ob.mk ?_ ?_; rotate_left; cbv)
          | (refine Lex.tail 19 (by decide +kernel) ?_; cbv)
          | (refine Next.mk (fun _ => i () + 1) ?_ ?_ ?_)
        all_goals (try simp only [Unit.unit, Int.ofNat_lt, Int.ofNat_le, BE.val, IE.val, NE.val, ltB_iff, ltB_no, leB_iff, leB_no, Int.toNat_natCast, Nat.zero_add, Nat.add_zero, Nat.mul_one, forced, beq_iff_eq, beq_eq_false_iff_ne] at *)
        all_goals (try simp only [ho0, Nat.zero_add, List.length_set] at *)
        all_goals first | with_reducible rfl | (exfalso; have e : i ⟨⟩ = n ⟨⟩ := (by omega); have hq := ‹(!webOk (st ⟨⟩) (sp ⟨⟩) (fd ⟨⟩) (tenTo (l ⟨⟩) (stepF (st ⟨⟩) (sp ⟨⟩) (fd ⟨⟩) (tm ⟨⟩) (l ⟨⟩)) (i ⟨⟩)) (n ⟨⟩)) = false›; rw [e] at hq; have hc' : webOk (st ⟨⟩) (sp ⟨⟩) (fd ⟨⟩) (tenTo (l ⟨⟩) (stepF (st ⟨⟩) (sp ⟨⟩) (fd ⟨⟩) (tm ⟨⟩) (l ⟨⟩)) (n ⟨⟩)) (n ⟨⟩) = false := hc; rw [hc'] at hq; simp at hq; done) | omega | exact wrap64_nat (by omega) | (refine ⟨Int.natCast_nonneg _, ?_⟩; omega) | exact tenTo_step (l ⟨⟩) (stepF (st ⟨⟩) (sp ⟨⟩) (fd ⟨⟩) (tm ⟨⟩) (l ⟨⟩)) (by omega) | exact ⟨by trivial, by rw [tenTo_len _ _ (by omega)]; exact hlen, hbig⟩ | exact ⟨ho0, hlen, hbig⟩ | (rw [tenTo_len _ _ (by omega)]; omega) | exact ⟨Int.natCast_nonneg _, by simpa using (by omega)⟩ | (rw [show i ⟨⟩ = n ⟨⟩ by omega]; rfl) | exact (tenTo_zero _ _).symm
    · cases hs
  · cases hs
end Go.Proofs.Ythkjlbggipocdaa.Sh
