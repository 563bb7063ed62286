/- What the speeds for a tension of this seat compute, each shown once. No condition. -/
import Derived.Test.YthkjlbggipocdaaVn
set_option linter.unusedVariables false
set_option linter.unusedSimpArgs false
set_option linter.unusedSectionVars false
namespace Go.Proofs.Ythkjlbggipocdaa.Sh
open Go Go.Proofs
section
variable {st sp fd t n : Nat} {l : List Nat}
theorem for_ok (h : (forC st sp fd l n t == 0) = true) : webOk st sp fd l n = true ∧ isPlain t = true ∧ webOk st sp fd (forTo st sp fd t l n) n = true := by
  rw [beq_iff_eq] at h
  unfold forC at h
  split at h
  · rename_i h1
    split at h
    · rename_i h2
      split at h
      · rename_i h3; exact ⟨h1, h2, h3⟩
      · cases h
    · cases h
  · cases h
theorem for_1 (h : webOk st sp fd l n = false) : forC st sp fd l n t = 1 := by simp [forC, h]
theorem for_2 (h : webOk st sp fd l n = true) (h2 : isPlain t = false) : forC st sp fd l n t = 2 := by simp [forC, h, h2]
theorem for_4 (h : webOk st sp fd l n = true) (h2 : isPlain t = true) (h3 : webOk st sp fd (forTo st sp fd t l n) n = false) : forC st sp fd l n t = 4 := by simp [forC, h, h2, h3]
theorem for_0 (h : webOk st sp fd l n = true) (h2 : isPlain t = true) (h3 : webOk st sp fd (forTo st sp fd t l n) n = true) : forC st sp fd l n t = 0 := by simp [forC, h, h2, h3]
theorem for_g (h : ¬ (webOk st sp fd l n = true ∧ isPlain t = true)) : forC st sp fd l n t = givenC (webOk st sp fd l n) (isPlain t) := by
  unfold forC givenC
  split
  · rename_i ha
    split
    · rename_i hb; exact absurd ⟨ha, hb⟩ h
    · rfl
  · rfl
theorem for_len {i : Nat} (h : l.length = 3 * n) (hi : i ≤ n) : (forTo st sp fd t l i).length = 3 * n := by rw [forTo_len _ _ _ _ _ (by omega)]; exact h
theorem for_next {i : Nat} : forU st sp fd t (i + 1) = fop .quo .f32 (fop .mul .f32 (forU st sp fd t i) (fop .sub .f32 st (if i = 0 then fd else t))) (fop .sub .f32 st t) := rfl
theorem for_s {i : Nat} : t = if i + 1 = 0 then fd else t := by simp
end
theorem fn32 : FnOk Try.prog 32 Try.f32 (bodyOf Try.f32) := ⟨Try.func32, rfl, by rfl⟩
def s32T : Spec := hspec fun args H => match args, H with
  | [.a [.f .f32 st, .f .f32 sp, .f .f32 fd, .sl 0 (.x o) (.x n)], .c (.f .f32 t)], [some ⟨false, 0, x⟩] => match x.toFl with
    | some l => some (.t [.a [.f .f32 st, .f .f32 sp, .f .f32 fd, .sl 1 (.l 0) (.x n)], vI 0], [none, some ⟨true, 3, .fl fun _ => forTo (st ()) (sp ()) (fd ()) (t ()) (l ()) (n ())⟩], [fun _ => (forC (st ()) (sp ()) (fd ()) (l ()) (n ()) (t ()) == 0) = true, fun _ => o () = 0 ∧ (l ()).length = 3 * n () ∧ n () ≤ 1048576])
    | _ => none
  | _, _ => none
def E32T : Env := fun g => envGetL [(93, ⟨true, s93, none⟩), (92, ⟨true, s92, none⟩), (89, ⟨true, s89, none⟩), (86, ⟨true, s86, none⟩)] g
theorem E32Tok : EnvOk Try.prog E32T := envOk_cons ok93 (envOk_cons ok92 (envOk_cons ok89 (envOk_cons ok86 (envOk_nil _))))
set_option maxRecDepth 100000 in
set_option maxHeartbeats 2000000 in
theorem ok32T : Ok Try.prog 32 (s32T) := ok_of_wpaH (E := E32T) mixed tts E32Tok fn32 fun args H v H' o hs ho => by
  split at hs
  · rename_i st sp fd o n t x
    split at hs
    · rename_i l hl
      cases hs
      obtain ⟨hc, ⟨ho0, hlen, hbig⟩⟩ := ho.two
      try simp only [Unit.unit] at hc ho0 hlen hbig
      obtain ⟨hv', hp', hw'⟩ := for_ok hc
      refine ⟨_, HLe.cons (BLe.fl hl) HLe.nil, ?_⟩
      cbv
      have hg0 := given_0 (a := webOk (st ⟨⟩) (sp ⟨⟩) (fd ⟨⟩) (l ⟨⟩) (n ⟨⟩)) (b := isPlain (t ⟨⟩)) ⟨hv', hp'⟩
      repeat' first
        | (refine Br.mk (fun h => ?_) (fun h => ?_) <;> cbv)
        | (refine Ob.mk ?_ ?_; rotate_left; cbv)
      all_goals try (first | exact ⟨ho0, hlen, hbig⟩ | (exfalso; simp only [Unit.unit, Int.ofNat_lt, Int.ofNat_le, BE.val, IE.val, NE.val, ltB_iff, ltB_no, leB_iff, leB_no, Int.toNat_natCast, Nat.zero_add, Nat.add_zero, Nat.mul_one, forced, beq_iff_eq, beq_eq_false_iff_ne, bne_iff_ne, bne_eq_false_iff_eq] at *; simp_all; done))
      refine loop_rule (α := Unit → Nat) (c := ⟨tt, E32T, 1⟩)
          (fun i => fr 58 [(1, .c (.f .f32 t)), (2, .c (.p 1 (.l 0))), (4, .c (.p 2 (.l 0))), (7, .c (.p 4 (.l 0))), (8, .c (.f .f32 fun _ => forU (st ()) (sp ()) (fd ()) (t ()) (i ()))), (9, .c (.f .f32 fun _ => if i () = 0 then fd () else t ())), (10, .c (.i .i64 (.x fun _ => i ())))]) (fun i => [some ⟨false, 0, .fl l⟩, some ⟨true, 0, .lit [.f .f32 st, .f .f32 sp, .f .f32 fd, .sl 0 (.x o) (.x n)]⟩, some ⟨true, 0, .lit [.f .f32 fun _ => 0, .f .f32 fun _ => 0, .f .f32 fun _ => 0, .sn]⟩, some ⟨true, 3, .fl fun _ => forTo (st ()) (sp ()) (fd ()) (t ()) (l ()) (i ())⟩, some ⟨true, 0, .lit [.f .f32 st, .f .f32 sp, .f .f32 fd, .sl 3 (.l 0) (.x n)]⟩])
          (fun i => i () ≤ n ()) (fun i => n () - i ()) (fun _ => n () + 1) ?_ ?_
      · refine .mk (fun _ => 0) (Nat.zero_le _) (by dsimp only; omega) ?_
        cbv
        repeat' (refine Ob.mk ?_ ?_; rotate_left)
        all_goals (try simp only [Unit.unit, Int.ofNat_lt, Int.ofNat_le, BE.val, IE.val, NE.val, ltB_iff, ltB_no, leB_iff, leB_no, Int.toNat_natCast, Nat.zero_add, Nat.add_zero, Nat.mul_one, forced, beq_iff_eq, beq_eq_false_iff_ne, bne_iff_ne, bne_eq_false_iff_eq] at *)
        all_goals first | with_reducible rfl | trivial | exact (forTo_zero (st ⟨⟩) (sp ⟨⟩) (fd ⟨⟩) (t ⟨⟩) (l ⟨⟩)).symm | rfl
      · intro i hi
        have hi' : i ⟨⟩ ≤ n ⟨⟩ := hi
        have hfl := for_len (st := st ⟨⟩) (sp := sp ⟨⟩) (fd := fd ⟨⟩) (t := t ⟨⟩) hlen hi'
        have hfn := for_len (st := st ⟨⟩) (sp := sp ⟨⟩) (fd := fd ⟨⟩) (t := t ⟨⟩) hlen (Nat.le_refl _)
        cbv
        refine Br.mk (fun h1 => ?_) (fun h1 => ?_)
        · have h1n : i ⟨⟩ < n ⟨⟩ := Int.ofNat_lt.1 (ltB_iff.1 h1)
          have hin : True := trivial
          cbv
          repeat' first
            | (refine alt_t (by assumption) ?_; cbv)
            | (refine alt_f (by assumption) ?_; cbv)
            | (refine alt_b (fun h => ?_) (fun h => ?_) <;> cbv)
            | (refine Br.mk (fun h => ?_) (fun h => ?_) <;> cbv)
            | (refine Ob.mk ?_ ?_; rotate_left; cbv)
            | (refine Lex.mk (by kernel_rfl) ?_; cbv)
            | (refine Next.mk (fun _ => i () + 1) ?_ ?_ ?_)
          all_goals (try simp only [Unit.unit, Int.ofNat_lt, Int.ofNat_le, BE.val, IE.val, NE.val, ltB_iff, ltB_no, leB_iff, leB_no, Int.toNat_natCast, Nat.zero_add, Nat.add_zero, Nat.mul_one, forced, beq_iff_eq, beq_eq_false_iff_ne, bne_iff_ne, bne_eq_false_iff_eq] at *)
          all_goals (try simp only [ho0, Nat.zero_add] at *)
          all_goals first | with_reducible rfl | omega | exact wrap64_nat (by omega) | (refine ⟨Int.natCast_nonneg _, ?_⟩; omega) | exact forTo_step (st ⟨⟩) (sp ⟨⟩) (fd ⟨⟩) (t ⟨⟩) (l ⟨⟩) (i := i ⟨⟩) (by omega) | exact for_s | exact for_next.symm | (rw [hfl]; omega) | (simp only [List.length_set]; rw [hfl]; omega) | exact ⟨by trivial, hfl, hbig⟩ | (refine ⟨by trivial, ?_, hbig⟩; rw [hin]; exact hfn) | (exfalso; rw [hin] at *; simp_all; done) | (rw [hin]; done) | rfl
        · have hin : i ⟨⟩ = n ⟨⟩ := Nat.le_antisymm hi' (Int.not_lt.1 (ltB_no.1 h1) |> Int.ofNat_le.1)
          cbv
          repeat' first
            | (refine alt_t (by assumption) ?_; cbv)
            | (refine alt_f (by assumption) ?_; cbv)
            | (refine alt_b (fun h => ?_) (fun h => ?_) <;> cbv)
            | (refine Br.mk (fun h => ?_) (fun h => ?_) <;> cbv)
            | (refine Ob.mk ?_ ?_; rotate_left; cbv)
            | (refine Lex.mk (by kernel_rfl) ?_; cbv)
          all_goals (try simp only [Unit.unit, Int.ofNat_lt, Int.ofNat_le, BE.val, IE.val, NE.val, ltB_iff, ltB_no, leB_iff, leB_no, Int.toNat_natCast, Nat.zero_add, Nat.add_zero, Nat.mul_one, forced, beq_iff_eq, beq_eq_false_iff_ne, bne_iff_ne, bne_eq_false_iff_eq] at *)
          all_goals (try simp only [ho0, Nat.zero_add] at *)
          all_goals first | with_reducible rfl | omega | exact wrap64_nat (by omega) | (refine ⟨Int.natCast_nonneg _, ?_⟩; omega) | exact forTo_step (st ⟨⟩) (sp ⟨⟩) (fd ⟨⟩) (t ⟨⟩) (l ⟨⟩) (i := i ⟨⟩) (by omega) | exact for_s | exact for_next.symm | (rw [hfl]; omega) | (simp only [List.length_set]; rw [hfl]; omega) | exact ⟨by trivial, hfl, hbig⟩ | (refine ⟨by trivial, ?_, hbig⟩; rw [hin]; exact hfn) | (exfalso; rw [hin] at *; simp_all; done) | (rw [hin]; done) | rfl
    · cases hs
  · cases hs
def s32F : Spec := hspec fun args H => match args, H with
  | [.a [.f .f32 st, .f .f32 sp, .f .f32 fd, .sl 0 (.x o) (.x n)], .c (.f .f32 t)], [some ⟨false, 0, x⟩] => match x.toFl with
    | some l => some (.t [.a [.f .f32 fun _ => 0, .f .f32 fun _ => 0, .f .f32 fun _ => 0, .sn], vI (forC (st ()) (sp ()) (fd ()) (l ()) (n ()) (t ()))], [none], [fun _ => (forC (st ()) (sp ()) (fd ()) (l ()) (n ()) (t ()) == 0) = false, fun _ => o () = 0 ∧ (l ()).length = 3 * n () ∧ n () ≤ 1048576])
    | _ => none
  | _, _ => none
def E32F : Env := fun g => envGetL [(93, ⟨true, s93, none⟩), (92, ⟨true, s92, none⟩), (89, ⟨true, s89, none⟩), (86, ⟨true, s86, none⟩)] g
theorem E32Fok : EnvOk Try.prog E32F := envOk_cons ok93 (envOk_cons ok92 (envOk_cons ok89 (envOk_cons ok86 (envOk_nil _))))
set_option maxRecDepth 100000 in
set_option maxHeartbeats 2000000 in
theorem ok32F : Ok Try.prog 32 (s32F) := ok_of_wpaH (E := E32F) mixed tts E32Fok fn32 fun args H v H' o hs ho => by
  split at hs
  · rename_i st sp fd o n t x
    split at hs
    · rename_i l hl
      cases hs
      obtain ⟨hc, ⟨ho0, hlen, hbig⟩⟩ := ho.two
      try simp only [Unit.unit] at hc ho0 hlen hbig
      refine ⟨_, HLe.cons (BLe.fl hl) HLe.nil, ?_⟩
      by_cases hg : webOk (st ⟨⟩) (sp ⟨⟩) (fd ⟨⟩) (l ⟨⟩) (n ⟨⟩) = true ∧ isPlain (t ⟨⟩) = true
      rotate_left
      · have hfg := for_g hg
        have hgn := given_no hg
        cbv
        repeat' first
          | (refine Br.mk (fun h => ?_) (fun h => ?_) <;> cbv)
          | (refine Ob.mk ?_ ?_; rotate_left; cbv)
        all_goals try (first | exact ⟨ho0, hlen, hbig⟩ | (rw [hfg]; done) | (exfalso; simp only [Unit.unit, Int.ofNat_lt, Int.ofNat_le, BE.val, IE.val, NE.val, ltB_iff, ltB_no, leB_iff, leB_no, Int.toNat_natCast, Nat.zero_add, Nat.add_zero, Nat.mul_one, forced, beq_iff_eq, beq_eq_false_iff_ne, bne_iff_ne, bne_eq_false_iff_eq] at *; simp_all; done))
        all_goals (try simp only [Unit.unit, Int.ofNat_lt, Int.ofNat_le, BE.val, IE.val, NE.val, ltB_iff, ltB_no, leB_iff, leB_no, Int.toNat_natCast, Nat.zero_add, Nat.add_zero, Nat.mul_one, forced, beq_iff_eq, beq_eq_false_iff_ne, bne_iff_ne, bne_eq_false_iff_eq] at *)
        all_goals first | with_reducible rfl | exact ⟨ho0, hlen, hbig⟩ | (rw [hfg]; done)
      obtain ⟨hv', hp'⟩ := hg
      cbv
      have hg0 := given_0 (a := webOk (st ⟨⟩) (sp ⟨⟩) (fd ⟨⟩) (l ⟨⟩) (n ⟨⟩)) (b := isPlain (t ⟨⟩)) ⟨hv', hp'⟩
      repeat' first
        | (refine Br.mk (fun h => ?_) (fun h => ?_) <;> cbv)
        | (refine Ob.mk ?_ ?_; rotate_left; cbv)
      all_goals try (first | exact ⟨ho0, hlen, hbig⟩ | (exfalso; simp only [Unit.unit, Int.ofNat_lt, Int.ofNat_le, BE.val, IE.val, NE.val, ltB_iff, ltB_no, leB_iff, leB_no, Int.toNat_natCast, Nat.zero_add, Nat.add_zero, Nat.mul_one, forced, beq_iff_eq, beq_eq_false_iff_ne, bne_iff_ne, bne_eq_false_iff_eq] at *; simp_all; done))
      refine loop_rule (α := Unit → Nat) (c := ⟨tt, E32F, 1⟩)
          (fun i => fr 58 [(1, .c (.f .f32 t)), (2, .c (.p 1 (.l 0))), (4, .c (.p 2 (.l 0))), (7, .c (.p 4 (.l 0))), (8, .c (.f .f32 fun _ => forU (st ()) (sp ()) (fd ()) (t ()) (i ()))), (9, .c (.f .f32 fun _ => if i () = 0 then fd () else t ())), (10, .c (.i .i64 (.x fun _ => i ())))]) (fun i => [some ⟨false, 0, .fl l⟩, some ⟨true, 0, .lit [.f .f32 st, .f .f32 sp, .f .f32 fd, .sl 0 (.x o) (.x n)]⟩, some ⟨true, 0, .lit [.f .f32 fun _ => 0, .f .f32 fun _ => 0, .f .f32 fun _ => 0, .sn]⟩, some ⟨true, 3, .fl fun _ => forTo (st ()) (sp ()) (fd ()) (t ()) (l ()) (i ())⟩, some ⟨true, 0, .lit [.f .f32 st, .f .f32 sp, .f .f32 fd, .sl 3 (.l 0) (.x n)]⟩])
          (fun i => i () ≤ n ()) (fun i => n () - i ()) (fun _ => n () + 1) ?_ ?_
      · refine .mk (fun _ => 0) (Nat.zero_le _) (by dsimp only; omega) ?_
        cbv
        repeat' (refine Ob.mk ?_ ?_; rotate_left)
        all_goals (try simp only [Unit.unit, Int.ofNat_lt, Int.ofNat_le, BE.val, IE.val, NE.val, ltB_iff, ltB_no, leB_iff, leB_no, Int.toNat_natCast, Nat.zero_add, Nat.add_zero, Nat.mul_one, forced, beq_iff_eq, beq_eq_false_iff_ne, bne_iff_ne, bne_eq_false_iff_eq] at *)
        all_goals first | with_reducible rfl | trivial | exact (forTo_zero (st ⟨⟩) (sp ⟨⟩) (fd ⟨⟩) (t ⟨⟩) (l ⟨⟩)).symm | rfl
      · intro i hi
        have hi' : i ⟨⟩ ≤ n ⟨⟩ := hi
        have hfl := for_len (st := st ⟨⟩) (sp := sp ⟨⟩) (fd := fd ⟨⟩) (t := t ⟨⟩) hlen hi'
        have hfn := for_len (st := st ⟨⟩) (sp := sp ⟨⟩) (fd := fd ⟨⟩) (t := t ⟨⟩) hlen (Nat.le_refl _)
        cbv
        refine Br.mk (fun h1 => ?_) (fun h1 => ?_)
        · have h1n : i ⟨⟩ < n ⟨⟩ := Int.ofNat_lt.1 (ltB_iff.1 h1)
          have hin : True := trivial
          cbv
          repeat' first
            | (refine alt_t (by assumption) ?_; cbv)
            | (refine alt_f (by assumption) ?_; cbv)
            | (refine alt_b (fun h => ?_) (fun h => ?_) <;> cbv)
            | (refine Br.mk (fun h => ?_) (fun h => ?_) <;> cbv)
            | (refine Ob.mk ?_ ?_; rotate_left; cbv)
            | (refine Lex.mk (by kernel_rfl) ?_; cbv)
            | (refine Next.mk (fun _ => i () + 1) ?_ ?_ ?_)
          all_goals (try simp only [Unit.unit, Int.ofNat_lt, Int.ofNat_le, BE.val, IE.val, NE.val, ltB_iff, ltB_no, leB_iff, leB_no, Int.toNat_natCast, Nat.zero_add, Nat.add_zero, Nat.mul_one, forced, beq_iff_eq, beq_eq_false_iff_ne, bne_iff_ne, bne_eq_false_iff_eq] at *)
          all_goals (try simp only [ho0, Nat.zero_add] at *)
          all_goals first | with_reducible rfl | omega | exact wrap64_nat (by omega) | (refine ⟨Int.natCast_nonneg _, ?_⟩; omega) | exact forTo_step (st ⟨⟩) (sp ⟨⟩) (fd ⟨⟩) (t ⟨⟩) (l ⟨⟩) (i := i ⟨⟩) (by omega) | exact for_s | exact for_next.symm | (rw [hfl]; omega) | (simp only [List.length_set]; rw [hfl]; omega) | exact ⟨by trivial, hfl, hbig⟩ | (refine ⟨by trivial, ?_, hbig⟩; rw [hin]; exact hfn) | (rw [hin] at *; exact (for_4 hv' hp' (not_t (by assumption))).symm) | (rw [hin] at *; rw [for_4 hv' hp' (not_t (by assumption))]; done) | (exfalso; rw [hin] at *; have h0 := for_0 hv' hp' (not_f (by assumption)); simp_all; done) | rfl
        · have hin : i ⟨⟩ = n ⟨⟩ := Nat.le_antisymm hi' (Int.not_lt.1 (ltB_no.1 h1) |> Int.ofNat_le.1)
          cbv
          repeat' first
            | (refine alt_t (by assumption) ?_; cbv)
            | (refine alt_f (by assumption) ?_; cbv)
            | (refine alt_b (fun h => ?_) (fun h => ?_) <;> cbv)
            | (refine Br.mk (fun h => ?_) (fun h => ?_) <;> cbv)
            | (refine Ob.mk ?_ ?_; rotate_left; cbv)
            | (refine Lex.mk (by kernel_rfl) ?_; cbv)
          all_goals (try simp only [Unit.unit, Int.ofNat_lt, Int.ofNat_le, BE.val, IE.val, NE.val, ltB_iff, ltB_no, leB_iff, leB_no, Int.toNat_natCast, Nat.zero_add, Nat.add_zero, Nat.mul_one, forced, beq_iff_eq, beq_eq_false_iff_ne, bne_iff_ne, bne_eq_false_iff_eq] at *)
          all_goals (try simp only [ho0, Nat.zero_add] at *)
          all_goals first | with_reducible rfl | omega | exact wrap64_nat (by omega) | (refine ⟨Int.natCast_nonneg _, ?_⟩; omega) | exact forTo_step (st ⟨⟩) (sp ⟨⟩) (fd ⟨⟩) (t ⟨⟩) (l ⟨⟩) (i := i ⟨⟩) (by omega) | exact for_s | exact for_next.symm | (rw [hfl]; omega) | (simp only [List.length_set]; rw [hfl]; omega) | exact ⟨by trivial, hfl, hbig⟩ | (refine ⟨by trivial, ?_, hbig⟩; rw [hin]; exact hfn) | (rw [hin] at *; exact (for_4 hv' hp' (not_t (by assumption))).symm) | (rw [hin] at *; rw [for_4 hv' hp' (not_t (by assumption))]; done) | (exfalso; rw [hin] at *; have h0 := for_0 hv' hp' (not_f (by assumption)); simp_all; done) | rfl
    · cases hs
  · cases hs
theorem fn31 : FnOk Try.prog 31 Try.f31 (bodyOf Try.f31) := ⟨Try.func31, rfl, by rfl⟩
def s31T : Spec := hspec fun args H => match args, H with
  | [.a [.f .f32 st, .f .f32 sp, .f .f32 fd, .sl 0 (.x o) (.x n)], .c (.f .f32 t)], [some ⟨false, 0, x⟩] => match x.toFl with
    | some l => some (.t [.a [.f .f32 st, .f .f32 sp, .f .f32 fd, .sl 1 (.l 0) (.x n)], vI 0], [none, some ⟨true, 3, .fl fun _ => forTo (st ()) (sp ()) (fd ()) (t ()) (l ()) (n ())⟩], [fun _ => (forC (st ()) (sp ()) (fd ()) (l ()) (n ()) (t ()) == 0) = true, fun _ => o () = 0 ∧ (l ()).length = 3 * n () ∧ n () ≤ 1048576])
    | _ => none
  | _, _ => none
def E31T : Env := fun g => envGetL [(51, ⟨true, s51, none⟩), (90, ⟨true, s90, none⟩), (88, ⟨true, s88, none⟩), (91, ⟨true, s91, none⟩)] g
theorem E31Tok : EnvOk Try.prog E31T := envOk_cons ok51 (envOk_cons ok90 (envOk_cons ok88 (envOk_cons ok91 (envOk_nil _))))
set_option maxRecDepth 100000 in
set_option maxHeartbeats 4000000 in
theorem ok31T : Ok Try.prog 31 (s31T) := ok_of_wpaH (E := E31T) mixed tts E31Tok fn31 fun args H v H' o hs ho => by
  split at hs
  · rename_i st sp fd o n t x
    split at hs
    · rename_i l hl
      cases hs
      obtain ⟨hc, ⟨ho0, hlen, hbig⟩⟩ := ho.two
      try simp only [Unit.unit] at hc ho0 hlen hbig
      obtain ⟨hv', hp', hw'⟩ := for_ok hc
      refine ⟨_, HLe.cons (BLe.fl hl) HLe.nil, ?_⟩
      cbv
      repeat' first
        | (refine Br.mk (fun h => ?_) (fun h => ?_) <;> cbv)
        | (refine Ob.mk ?_ ?_; rotate_left; cbv)
      all_goals try (first | exact ⟨ho0, hlen, hbig⟩ | (exfalso; simp only [Unit.unit, Int.ofNat_lt, Int.ofNat_le, BE.val, IE.val, NE.val, ltB_iff, ltB_no, leB_iff, leB_no, Int.toNat_natCast, Nat.zero_add, Nat.add_zero, Nat.mul_one, forced, beq_iff_eq, beq_eq_false_iff_ne, bne_iff_ne, bne_eq_false_iff_eq] at *; simp_all; done))
      refine Lex.pull [0, 2, 3, 4, 5] (by decide +kernel) ?_
      cbv
      repeat' first
        | (refine Both.mk ?_ ?_ <;> cbv)
        | (refine Ob.mk ?_ ?_; rotate_left; cbv)
      all_goals try (first | exact ⟨ho0, hlen, hbig⟩ | with_reducible rfl | trivial)
      · refine loop_rule (α := Unit → Nat) (c := ⟨tt, E31T, 1⟩)
            (fun i => fr 62 [(1, .c (.f .f32 t)), (2, .c (.p 1 (.l 0))), (4, .c (.p 2 (.l 0))), (6, .c (.p 4 (.l 0))), (7, .c (.f .f32 fun _ => forU (st ()) (sp ()) (fd ()) (t ()) (i ()))), (8, .c (.f .f32 fun _ => if i () = 0 then fd () else t ())), (28, .c (.i .i64 (.x fun _ => n ()))), (29, .c (.i .i64 (.x fun _ => i ())))]) (fun i => [some ⟨false, 0, .fl l⟩, some ⟨true, 0, .lit [.f .f32 st, .f .f32 sp, .f .f32 fd, .sl 0 (.x o) (.x n)]⟩, some ⟨true, 0, .lit [.f .f32 fun _ => 0, .f .f32 fun _ => 0, .f .f32 fun _ => 0, .sn]⟩, some ⟨true, 3, .fl fun _ => forTo (st ()) (sp ()) (fd ()) (t ()) (l ()) (i ())⟩, some ⟨true, 0, .lit [.f .f32 st, .f .f32 sp, .f .f32 fd, .sl 3 (.l 0) (.x n)]⟩])
            (fun i => i () ≤ n ()) (fun i => n () - i ()) (fun _ => n () + 1) ?_ ?_
        · refine .mk (fun _ => 0) (Nat.zero_le _) (by dsimp only; omega) ?_
          cbv
          repeat' (refine Ob.mk ?_ ?_; rotate_left)
          all_goals (try simp only [Unit.unit, Int.ofNat_lt, Int.ofNat_le, BE.val, IE.val, NE.val, ltB_iff, ltB_no, leB_iff, leB_no, Int.toNat_natCast, Nat.zero_add, Nat.add_zero, Nat.mul_one, forced, beq_iff_eq, beq_eq_false_iff_ne, bne_iff_ne, bne_eq_false_iff_eq] at *)
          all_goals first | with_reducible rfl | trivial | exact (forTo_zero (st ⟨⟩) (sp ⟨⟩) (fd ⟨⟩) (t ⟨⟩) (l ⟨⟩)).symm | rfl
        · intro i hi
          have hi' : i ⟨⟩ ≤ n ⟨⟩ := hi
          have hfl := for_len (st := st ⟨⟩) (sp := sp ⟨⟩) (fd := fd ⟨⟩) (t := t ⟨⟩) hlen hi'
          have hfn := for_len (st := st ⟨⟩) (sp := sp ⟨⟩) (fd := fd ⟨⟩) (t := t ⟨⟩) hlen (Nat.le_refl _)
          cbv
          refine Br.mk (fun h1 => ?_) (fun h1 => ?_)
          · have h1n : i ⟨⟩ < n ⟨⟩ := Int.ofNat_lt.1 (ltB_iff.1 h1)
            have hin : True := trivial
            cbv
            repeat' first
              | (refine alt_t (by assumption) ?_; cbv)
              | (refine alt_f (by assumption) ?_; cbv)
              | (refine alt_b (fun h => ?_) (fun h => ?_) <;> cbv)
              | (refine Br.mk (fun h => ?_) (fun h => ?_) <;> cbv)
              | (refine Ob.mk ?_ ?_; rotate_left; cbv)
              | (refine Lex.pull [0, 1, 3, 4, 2, 5, 6, 7, 8, 9] (by decide +kernel) ?_; cbv)
              | (refine Lex.mk (by decide +kernel) ?_; cbv)
              | (refine Next.mk (fun _ => i () + 1) ?_ ?_ ?_)
            all_goals (try simp only [Unit.unit, Int.ofNat_lt, Int.ofNat_le, BE.val, IE.val, NE.val, ltB_iff, ltB_no, leB_iff, leB_no, Int.toNat_natCast, Nat.zero_add, Nat.add_zero, Nat.mul_one, forced, beq_iff_eq, beq_eq_false_iff_ne, bne_iff_ne, bne_eq_false_iff_eq] at *)
            all_goals (try simp only [ho0, Nat.zero_add] at *)
            all_goals first | with_reducible rfl | omega | exact wrap64_nat (by omega) | (refine ⟨Int.natCast_nonneg _, ?_⟩; omega) | exact forTo_step (st ⟨⟩) (sp ⟨⟩) (fd ⟨⟩) (t ⟨⟩) (l ⟨⟩) (i := i ⟨⟩) (by omega) | exact for_s | exact for_next.symm | (rw [hfl]; omega) | (simp only [List.length_set]; rw [hfl]; omega) | exact ⟨by trivial, hfl, hbig⟩ | (refine ⟨by trivial, ?_, hbig⟩; rw [hin]; exact hfn) | (exfalso; rw [hin] at *; simp_all; done) | (rw [hin]; done) | rfl
          · have hin : i ⟨⟩ = n ⟨⟩ := Nat.le_antisymm hi' (Int.not_lt.1 (ltB_no.1 h1) |> Int.ofNat_le.1)
            cbv
            repeat' first
              | (refine alt_t (by assumption) ?_; cbv)
              | (refine alt_f (by assumption) ?_; cbv)
              | (refine alt_b (fun h => ?_) (fun h => ?_) <;> cbv)
              | (refine Br.mk (fun h => ?_) (fun h => ?_) <;> cbv)
              | (refine Ob.mk ?_ ?_; rotate_left; cbv)
              | (refine Lex.pull [0, 1, 3, 4, 2, 5, 6, 7, 8, 9] (by decide +kernel) ?_; cbv)
              | (refine Lex.mk (by decide +kernel) ?_; cbv)
            all_goals (try simp only [Unit.unit, Int.ofNat_lt, Int.ofNat_le, BE.val, IE.val, NE.val, ltB_iff, ltB_no, leB_iff, leB_no, Int.toNat_natCast, Nat.zero_add, Nat.add_zero, Nat.mul_one, forced, beq_iff_eq, beq_eq_false_iff_ne, bne_iff_ne, bne_eq_false_iff_eq] at *)
            all_goals (try simp only [ho0, Nat.zero_add] at *)
            all_goals first | with_reducible rfl | omega | exact wrap64_nat (by omega) | (refine ⟨Int.natCast_nonneg _, ?_⟩; omega) | exact forTo_step (st ⟨⟩) (sp ⟨⟩) (fd ⟨⟩) (t ⟨⟩) (l ⟨⟩) (i := i ⟨⟩) (by omega) | exact for_s | exact for_next.symm | (rw [hfl]; omega) | (simp only [List.length_set]; rw [hfl]; omega) | exact ⟨by trivial, hfl, hbig⟩ | (refine ⟨by trivial, ?_, hbig⟩; rw [hin]; exact hfn) | (exfalso; rw [hin] at *; simp_all; done) | (rw [hin]; done) | rfl
      · refine loop_rule (α := Unit → Nat) (c := ⟨tt, E31T, 1⟩)
            (fun i => fr 62 [(1, .c (.f .f32 t)), (2, .c (.p 1 (.l 0))), (4, .c (.p 2 (.l 0))), (6, .c (.p 3 (.l 0))), (7, .c (.f .f32 fun _ => forU (st ()) (sp ()) (fd ()) (t ()) (i ()))), (8, .c (.f .f32 fun _ => if i () = 0 then fd () else t ())), (28, .c (.i .i64 (.x fun _ => n ()))), (29, .c (.i .i64 (.x fun _ => i ())))]) (fun i => [some ⟨false, 0, .fl l⟩, some ⟨true, 0, .lit [.f .f32 st, .f .f32 sp, .f .f32 fd, .sl 0 (.x o) (.x n)]⟩, some ⟨true, 0, .lit [.f .f32 fun _ => 0, .f .f32 fun _ => 0, .f .f32 fun _ => 0, .sn]⟩, some ⟨true, 0, .lit [.f .f32 st, .f .f32 sp, .f .f32 fd, .sl 4 (.l 0) (.x n)]⟩, some ⟨true, 3, .fl fun _ => forTo (st ()) (sp ()) (fd ()) (t ()) (l ()) (i ())⟩])
            (fun i => i () ≤ n ()) (fun i => n () - i ()) (fun _ => n () + 1) ?_ ?_
        · refine .mk (fun _ => 0) (Nat.zero_le _) (by dsimp only; omega) ?_
          cbv
          repeat' (refine Ob.mk ?_ ?_; rotate_left)
          all_goals (try simp only [Unit.unit, Int.ofNat_lt, Int.ofNat_le, BE.val, IE.val, NE.val, ltB_iff, ltB_no, leB_iff, leB_no, Int.toNat_natCast, Nat.zero_add, Nat.add_zero, Nat.mul_one, forced, beq_iff_eq, beq_eq_false_iff_ne, bne_iff_ne, bne_eq_false_iff_eq] at *)
          all_goals first | with_reducible rfl | trivial | exact (forTo_zero (st ⟨⟩) (sp ⟨⟩) (fd ⟨⟩) (t ⟨⟩) (l ⟨⟩)).symm | rfl
        · intro i hi
          have hi' : i ⟨⟩ ≤ n ⟨⟩ := hi
          have hfl := for_len (st := st ⟨⟩) (sp := sp ⟨⟩) (fd := fd ⟨⟩) (t := t ⟨⟩) hlen hi'
          have hfn := for_len (st := st ⟨⟩) (sp := sp ⟨⟩) (fd := fd ⟨⟩) (t := t ⟨⟩) hlen (Nat.le_refl _)
          cbv
          refine Br.mk (fun h1 => ?_) (fun h1 => ?_)
          · have h1n : i ⟨⟩ < n ⟨⟩ := Int.ofNat_lt.1 (ltB_iff.1 h1)
            have hin : True := trivial
            cbv
            repeat' first
              | (refine alt_t (by assumption) ?_; cbv)
              | (refine alt_f (by assumption) ?_; cbv)
              | (refine alt_b (fun h => ?_) (fun h => ?_) <;> cbv)
              | (refine Br.mk (fun h => ?_) (fun h => ?_) <;> cbv)
              | (refine Ob.mk ?_ ?_; rotate_left; cbv)
              | (refine Lex.pull [0, 1, 3, 4, 2, 5, 6, 7, 8, 9] (by decide +kernel) ?_; cbv)
              | (refine Lex.mk (by decide +kernel) ?_; cbv)
              | (refine Next.mk (fun _ => i () + 1) ?_ ?_ ?_)
            all_goals (try simp only [Unit.unit, Int.ofNat_lt, Int.ofNat_le, BE.val, IE.val, NE.val, ltB_iff, ltB_no, leB_iff, leB_no, Int.toNat_natCast, Nat.zero_add, Nat.add_zero, Nat.mul_one, forced, beq_iff_eq, beq_eq_false_iff_ne, bne_iff_ne, bne_eq_false_iff_eq] at *)
            all_goals (try simp only [ho0, Nat.zero_add] at *)
            all_goals first | with_reducible rfl | omega | exact wrap64_nat (by omega) | (refine ⟨Int.natCast_nonneg _, ?_⟩; omega) | exact forTo_step (st ⟨⟩) (sp ⟨⟩) (fd ⟨⟩) (t ⟨⟩) (l ⟨⟩) (i := i ⟨⟩) (by omega) | exact for_s | exact for_next.symm | (rw [hfl]; omega) | (simp only [List.length_set]; rw [hfl]; omega) | exact ⟨by trivial, hfl, hbig⟩ | (refine ⟨by trivial, ?_, hbig⟩; rw [hin]; exact hfn) | (exfalso; rw [hin] at *; simp_all; done) | (rw [hin]; done) | rfl
          · have hin : i ⟨⟩ = n ⟨⟩ := Nat.le_antisymm hi' (Int.not_lt.1 (ltB_no.1 h1) |> Int.ofNat_le.1)
            cbv
            repeat' first
              | (refine alt_t (by assumption) ?_; cbv)
              | (refine alt_f (by assumption) ?_; cbv)
              | (refine alt_b (fun h => ?_) (fun h => ?_) <;> cbv)
              | (refine Br.mk (fun h => ?_) (fun h => ?_) <;> cbv)
              | (refine Ob.mk ?_ ?_; rotate_left; cbv)
              | (refine Lex.pull [0, 1, 3, 4, 2, 5, 6, 7, 8, 9] (by decide +kernel) ?_; cbv)
              | (refine Lex.mk (by decide +kernel) ?_; cbv)
            all_goals (try simp only [Unit.unit, Int.ofNat_lt, Int.ofNat_le, BE.val, IE.val, NE.val, ltB_iff, ltB_no, leB_iff, leB_no, Int.toNat_natCast, Nat.zero_add, Nat.add_zero, Nat.mul_one, forced, beq_iff_eq, beq_eq_false_iff_ne, bne_iff_ne, bne_eq_false_iff_eq] at *)
            all_goals (try simp only [ho0, Nat.zero_add] at *)
            all_goals first | with_reducible rfl | omega | exact wrap64_nat (by omega) | (refine ⟨Int.natCast_nonneg _, ?_⟩; omega) | exact forTo_step (st ⟨⟩) (sp ⟨⟩) (fd ⟨⟩) (t ⟨⟩) (l ⟨⟩) (i := i ⟨⟩) (by omega) | exact for_s | exact for_next.symm | (rw [hfl]; omega) | (simp only [List.length_set]; rw [hfl]; omega) | exact ⟨by trivial, hfl, hbig⟩ | (refine ⟨by trivial, ?_, hbig⟩; rw [hin]; exact hfn) | (exfalso; rw [hin] at *; simp_all; done) | (rw [hin]; done) | rfl
    · cases hs
  · cases hs
def s31F : Spec := hspec fun args H => match args, H with
  | [.a [.f .f32 st, .f .f32 sp, .f .f32 fd, .sl 0 (.x o) (.x n)], .c (.f .f32 t)], [some ⟨false, 0, x⟩] => match x.toFl with
    | some l => some (.t [.a [.f .f32 fun _ => 0, .f .f32 fun _ => 0, .f .f32 fun _ => 0, .sn], vI (forC (st ()) (sp ()) (fd ()) (l ()) (n ()) (t ()))], [none], [fun _ => (forC (st ()) (sp ()) (fd ()) (l ()) (n ()) (t ()) == 0) = false, fun _ => o () = 0 ∧ (l ()).length = 3 * n () ∧ n () ≤ 1048576])
    | _ => none
  | _, _ => none
def E31F : Env := fun g => envGetL [(51, ⟨true, s51, none⟩), (90, ⟨true, s90, none⟩), (88, ⟨true, s88, none⟩), (91, ⟨true, s91, none⟩)] g
theorem E31Fok : EnvOk Try.prog E31F := envOk_cons ok51 (envOk_cons ok90 (envOk_cons ok88 (envOk_cons ok91 (envOk_nil _))))
set_option maxRecDepth 100000 in
set_option maxHeartbeats 4000000 in
theorem ok31F : Ok Try.prog 31 (s31F) := ok_of_wpaH (E := E31F) mixed tts E31Fok fn31 fun args H v H' o hs ho => by
  split at hs
  · rename_i st sp fd o n t x
    split at hs
    · rename_i l hl
      cases hs
      obtain ⟨hc, ⟨ho0, hlen, hbig⟩⟩ := ho.two
      try simp only [Unit.unit] at hc ho0 hlen hbig
      refine ⟨_, HLe.cons (BLe.fl hl) HLe.nil, ?_⟩
      by_cases hg : webOk (st ⟨⟩) (sp ⟨⟩) (fd ⟨⟩) (l ⟨⟩) (n ⟨⟩) = true ∧ isPlain (t ⟨⟩) = true
      rotate_left
      · have hfg := for_g hg
        cbv
        repeat' first
          | (refine Br.mk (fun h => ?_) (fun h => ?_) <;> cbv)
          | (refine Ob.mk ?_ ?_; rotate_left; cbv)
        all_goals try (first | exact ⟨ho0, hlen, hbig⟩ | (exfalso; apply hg; simp only [Unit.unit, Int.ofNat_lt, Int.ofNat_le, BE.val, IE.val, NE.val, ltB_iff, ltB_no, leB_iff, leB_no, Int.toNat_natCast, Nat.zero_add, Nat.add_zero, Nat.mul_one, forced, beq_iff_eq, beq_eq_false_iff_ne, bne_iff_ne, bne_eq_false_iff_eq] at *; simp_all; done) | (rw [hfg]; simp_all [givenC]; done))
        all_goals (try simp only [Unit.unit, Int.ofNat_lt, Int.ofNat_le, BE.val, IE.val, NE.val, ltB_iff, ltB_no, leB_iff, leB_no, Int.toNat_natCast, Nat.zero_add, Nat.add_zero, Nat.mul_one, forced, beq_iff_eq, beq_eq_false_iff_ne, bne_iff_ne, bne_eq_false_iff_eq] at *)
        all_goals first | with_reducible rfl | exact ⟨ho0, hlen, hbig⟩ | (rw [hfg]; simp_all [givenC]; done)
      obtain ⟨hv', hp'⟩ := hg
      cbv
      repeat' first
        | (refine Br.mk (fun h => ?_) (fun h => ?_) <;> cbv)
        | (refine Ob.mk ?_ ?_; rotate_left; cbv)
      all_goals try (first | exact ⟨ho0, hlen, hbig⟩ | (exfalso; simp only [Unit.unit, Int.ofNat_lt, Int.ofNat_le, BE.val, IE.val, NE.val, ltB_iff, ltB_no, leB_iff, leB_no, Int.toNat_natCast, Nat.zero_add, Nat.add_zero, Nat.mul_one, forced, beq_iff_eq, beq_eq_false_iff_ne, bne_iff_ne, bne_eq_false_iff_eq] at *; simp_all; done))
      refine Lex.pull [0, 2, 3, 4, 5] (by decide +kernel) ?_
      cbv
      repeat' first
        | (refine Both.mk ?_ ?_ <;> cbv)
        | (refine Ob.mk ?_ ?_; rotate_left; cbv)
      all_goals try (first | exact ⟨ho0, hlen, hbig⟩ | with_reducible rfl | trivial)
      · refine loop_rule (α := Unit → Nat) (c := ⟨tt, E31F, 1⟩)
            (fun i => fr 62 [(1, .c (.f .f32 t)), (2, .c (.p 1 (.l 0))), (4, .c (.p 2 (.l 0))), (6, .c (.p 4 (.l 0))), (7, .c (.f .f32 fun _ => forU (st ()) (sp ()) (fd ()) (t ()) (i ()))), (8, .c (.f .f32 fun _ => if i () = 0 then fd () else t ())), (28, .c (.i .i64 (.x fun _ => n ()))), (29, .c (.i .i64 (.x fun _ => i ())))]) (fun i => [some ⟨false, 0, .fl l⟩, some ⟨true, 0, .lit [.f .f32 st, .f .f32 sp, .f .f32 fd, .sl 0 (.x o) (.x n)]⟩, some ⟨true, 0, .lit [.f .f32 fun _ => 0, .f .f32 fun _ => 0, .f .f32 fun _ => 0, .sn]⟩, some ⟨true, 3, .fl fun _ => forTo (st ()) (sp ()) (fd ()) (t ()) (l ()) (i ())⟩, some ⟨true, 0, .lit [.f .f32 st, .f .f32 sp, .f .f32 fd, .sl 3 (.l 0) (.x n)]⟩])
            (fun i => i () ≤ n ()) (fun i => n () - i ()) (fun _ => n () + 1) ?_ ?_
        · refine .mk (fun _ => 0) (Nat.zero_le _) (by dsimp only; omega) ?_
          cbv
          repeat' (refine Ob.mk ?_ ?_; rotate_left)
          all_goals (try simp only [Unit.unit, Int.ofNat_lt, Int.ofNat_le, BE.val, IE.val, NE.val, ltB_iff, ltB_no, leB_iff, leB_no, Int.toNat_natCast, Nat.zero_add, Nat.add_zero, Nat.mul_one, forced, beq_iff_eq, beq_eq_false_iff_ne, bne_iff_ne, bne_eq_false_iff_eq] at *)
          all_goals first | with_reducible rfl | trivial | exact (forTo_zero (st ⟨⟩) (sp ⟨⟩) (fd ⟨⟩) (t ⟨⟩) (l ⟨⟩)).symm | rfl
        · intro i hi
          have hi' : i ⟨⟩ ≤ n ⟨⟩ := hi
          have hfl := for_len (st := st ⟨⟩) (sp := sp ⟨⟩) (fd := fd ⟨⟩) (t := t ⟨⟩) hlen hi'
          have hfn := for_len (st := st ⟨⟩) (sp := sp ⟨⟩) (fd := fd ⟨⟩) (t := t ⟨⟩) hlen (Nat.le_refl _)
          cbv
          refine Br.mk (fun h1 => ?_) (fun h1 => ?_)
          · have h1n : i ⟨⟩ < n ⟨⟩ := Int.ofNat_lt.1 (ltB_iff.1 h1)
            have hin : True := trivial
            cbv
            repeat' first
              | (refine alt_t (by assumption) ?_; cbv)
              | (refine alt_f (by assumption) ?_; cbv)
              | (refine alt_b (fun h => ?_) (fun h => ?_) <;> cbv)
              | (refine Br.mk (fun h => ?_) (fun h => ?_) <;> cbv)
              | (refine Ob.mk ?_ ?_; rotate_left; cbv)
              | (refine Lex.pull [0, 1, 3, 4, 2, 5, 6, 7, 8, 9] (by decide +kernel) ?_; cbv)
              | (refine Lex.mk (by decide +kernel) ?_; cbv)
              | (refine Next.mk (fun _ => i () + 1) ?_ ?_ ?_)
            all_goals (try simp only [Unit.unit, Int.ofNat_lt, Int.ofNat_le, BE.val, IE.val, NE.val, ltB_iff, ltB_no, leB_iff, leB_no, Int.toNat_natCast, Nat.zero_add, Nat.add_zero, Nat.mul_one, forced, beq_iff_eq, beq_eq_false_iff_ne, bne_iff_ne, bne_eq_false_iff_eq] at *)
            all_goals (try simp only [ho0, Nat.zero_add] at *)
            all_goals first | with_reducible rfl | omega | exact wrap64_nat (by omega) | (refine ⟨Int.natCast_nonneg _, ?_⟩; omega) | exact forTo_step (st ⟨⟩) (sp ⟨⟩) (fd ⟨⟩) (t ⟨⟩) (l ⟨⟩) (i := i ⟨⟩) (by omega) | exact for_s | exact for_next.symm | (rw [hfl]; omega) | (simp only [List.length_set]; rw [hfl]; omega) | exact ⟨by trivial, hfl, hbig⟩ | (refine ⟨by trivial, ?_, hbig⟩; rw [hin]; exact hfn) | (rw [hin] at *; exact (for_4 hv' hp' (not_t (by assumption))).symm) | (rw [hin] at *; rw [for_4 hv' hp' (not_t (by assumption))]; done) | (exfalso; rw [hin] at *; have h0 := for_0 hv' hp' (not_f (by assumption)); simp_all; done) | rfl
          · have hin : i ⟨⟩ = n ⟨⟩ := Nat.le_antisymm hi' (Int.not_lt.1 (ltB_no.1 h1) |> Int.ofNat_le.1)
            cbv
            repeat' first
              | (refine alt_t (by assumption) ?_; cbv)
              | (refine alt_f (by assumption) ?_; cbv)
              | (refine alt_b (fun h => ?_) (fun h => ?_) <;> cbv)
              | (refine Br.mk (fun h => ?_) (fun h => ?_) <;> cbv)
              | (refine Ob.mk ?_ ?_; rotate_left; cbv)
              | (refine Lex.pull [0, 1, 3, 4, 2, 5, 6, 7, 8, 9] (by decide +kernel) ?_; cbv)
              | (refine Lex.mk (by decide +kernel) ?_; cbv)
            all_goals (try simp only [Unit.unit, Int.ofNat_lt, Int.ofNat_le, BE.val, IE.val, NE.val, ltB_iff, ltB_no, leB_iff, leB_no, Int.toNat_natCast, Nat.zero_add, Nat.add_zero, Nat.mul_one, forced, beq_iff_eq, beq_eq_false_iff_ne, bne_iff_ne, bne_eq_false_iff_eq] at *)
            all_goals (try simp only [ho0, Nat.zero_add] at *)
            all_goals first | with_reducible rfl | omega | exact wrap64_nat (by omega) | (refine ⟨Int.natCast_nonneg _, ?_⟩; omega) | exact forTo_step (st ⟨⟩) (sp ⟨⟩) (fd ⟨⟩) (t ⟨⟩) (l ⟨⟩) (i := i ⟨⟩) (by omega) | exact for_s | exact for_next.symm | (rw [hfl]; omega) | (simp only [List.length_set]; rw [hfl]; omega) | exact ⟨by trivial, hfl, hbig⟩ | (refine ⟨by trivial, ?_, hbig⟩; rw [hin]; exact hfn) | (rw [hin] at *; exact (for_4 hv' hp' (not_t (by assumption))).symm) | (rw [hin] at *; rw [for_4 hv' hp' (not_t (by assumption))]; done) | (exfalso; rw [hin] at *; have h0 := for_0 hv' hp' (not_f (by assumption)); simp_all; done) | rfl
      · refine loop_rule (α := Unit → Nat) (c := ⟨tt, E31F, 1⟩)
            (fun i => fr 62 [(1, .c (.f .f32 t)), (2, .c (.p 1 (.l 0))), (4, .c (.p 2 (.l 0))), (6, .c (.p 3 (.l 0))), (7, .c (.f .f32 fun _ => forU (st ()) (sp ()) (fd ()) (t ()) (i ()))), (8, .c (.f .f32 fun _ => if i () = 0 then fd () else t ())), (28, .c (.i .i64 (.x fun _ => n ()))), (29, .c (.i .i64 (.x fun _ => i ())))]) (fun i => [some ⟨false, 0, .fl l⟩, some ⟨true, 0, .lit [.f .f32 st, .f .f32 sp, .f .f32 fd, .sl 0 (.x o) (.x n)]⟩, some ⟨true, 0, .lit [.f .f32 fun _ => 0, .f .f32 fun _ => 0, .f .f32 fun _ => 0, .sn]⟩, some ⟨true, 0, .lit [.f .f32 st, .f .f32 sp, .f .f32 fd, .sl 4 (.l 0) (.x n)]⟩, some ⟨true, 3, .fl fun _ => forTo (st ()) (sp ()) (fd ()) (t ()) (l ()) (i ())⟩])
            (fun i => i () ≤ n ()) (fun i => n () - i ()) (fun _ => n () + 1) ?_ ?_
        · refine .mk (fun _ => 0) (Nat.zero_le _) (by dsimp only; omega) ?_
          cbv
          repeat' (refine Ob.mk ?_ ?_; rotate_left)
          all_goals (try simp only [Unit.unit, Int.ofNat_lt, Int.ofNat_le, BE.val, IE.val, NE.val, ltB_iff, ltB_no, leB_iff, leB_no, Int.toNat_natCast, Nat.zero_add, Nat.add_zero, Nat.mul_one, forced, beq_iff_eq, beq_eq_false_iff_ne, bne_iff_ne, bne_eq_false_iff_eq] at *)
          all_goals first | with_reducible rfl | trivial | exact (forTo_zero (st ⟨⟩) (sp ⟨⟩) (fd ⟨⟩) (t ⟨⟩) (l ⟨⟩)).symm | rfl
        · intro i hi
          have hi' : i ⟨⟩ ≤ n ⟨⟩ := hi
          have hfl := for_len (st := st ⟨⟩) (sp := sp ⟨⟩) (fd := fd ⟨⟩) (t := t ⟨⟩) hlen hi'
          have hfn := for_len (st := st ⟨⟩) (sp := sp ⟨⟩) (fd := fd ⟨⟩) (t := t ⟨⟩) hlen (Nat.le_refl _)
          cbv
          refine Br.mk (fun h1 => ?_) (fun h1 => ?_)
          · have h1n : i ⟨⟩ < n ⟨⟩ := Int.ofNat_lt.1 (ltB_iff.1 h1)
            have hin : True := trivial
            cbv
            repeat' first
              | (refine alt_t (by assumption) ?_; cbv)
              | (refine alt_f (by assumption) ?_; cbv)
              | (refine alt_b (fun h => ?_) (fun h => ?_) <;> cbv)
              | (refine Br.mk (fun h => ?_) (fun h => ?_) <;> cbv)
              | (refine Ob.mk ?_ ?_; rotate_left; cbv)
              | (refine Lex.pull [0, 1, 3, 4, 2, 5, 6, 7, 8, 9] (by decide +kernel) ?_; cbv)
              | (refine Lex.mk (by decide +kernel) ?_; cbv)
              | (refine Next.mk (fun _ => i () + 1) ?_ ?_ ?_)
            all_goals (try simp only [Unit.unit, Int.ofNat_lt, Int.ofNat_le, BE.val, IE.val, NE.val, ltB_iff, ltB_no, leB_iff, leB_no, Int.toNat_natCast, Nat.zero_add, Nat.add_zero, Nat.mul_one, forced, beq_iff_eq, beq_eq_false_iff_ne, bne_iff_ne, bne_eq_false_iff_eq] at *)
            all_goals (try simp only [ho0, Nat.zero_add] at *)
            all_goals first | with_reducible rfl | omega | exact wrap64_nat (by omega) | (refine ⟨Int.natCast_nonneg _, ?_⟩; omega) | exact forTo_step (st ⟨⟩) (sp ⟨⟩) (fd ⟨⟩) (t ⟨⟩) (l ⟨⟩) (i := i ⟨⟩) (by omega) | exact for_s | exact for_next.symm | (rw [hfl]; omega) | (simp only [List.length_set]; rw [hfl]; omega) | exact ⟨by trivial, hfl, hbig⟩ | (refine ⟨by trivial, ?_, hbig⟩; rw [hin]; exact hfn) | (rw [hin] at *; exact (for_4 hv' hp' (not_t (by assumption))).symm) | (rw [hin] at *; rw [for_4 hv' hp' (not_t (by assumption))]; done) | (exfalso; rw [hin] at *; have h0 := for_0 hv' hp' (not_f (by assumption)); simp_all; done) | rfl
          · have hin : i ⟨⟩ = n ⟨⟩ := Nat.le_antisymm hi' (Int.not_lt.1 (ltB_no.1 h1) |> Int.ofNat_le.1)
            cbv
            repeat' first
              | (refine alt_t (by assumption) ?_; cbv)
              | (refine alt_f (by assumption) ?_; cbv)
              | (refine alt_b (fun h => ?_) (fun h => ?_) <;> cbv)
              | (refine Br.mk (fun h => ?_) (fun h => ?_) <;> cbv)
              | (refine Ob.mk ?_ ?_; rotate_left; cbv)
              | (refine Lex.pull [0, 1, 3, 4, 2, 5, 6, 7, 8, 9] (by decide +kernel) ?_; cbv)
              | (refine Lex.mk (by decide +kernel) ?_; cbv)
            all_goals (try simp only [Unit.unit, Int.ofNat_lt, Int.ofNat_le, BE.val, IE.val, NE.val, ltB_iff, ltB_no, leB_iff, leB_no, Int.toNat_natCast, Nat.zero_add, Nat.add_zero, Nat.mul_one, forced, beq_iff_eq, beq_eq_false_iff_ne, bne_iff_ne, bne_eq_false_iff_eq] at *)
            all_goals (try simp only [ho0, Nat.zero_add] at *)
            all_goals first | with_reducible rfl | omega | exact wrap64_nat (by omega) | (refine ⟨Int.natCast_nonneg _, ?_⟩; omega) | exact forTo_step (st ⟨⟩) (sp ⟨⟩) (fd ⟨⟩) (t ⟨⟩) (l ⟨⟩) (i := i ⟨⟩) (by omega) | exact for_s | exact for_next.symm | (rw [hfl]; omega) | (simp only [List.length_set]; rw [hfl]; omega) | exact ⟨by trivial, hfl, hbig⟩ | (refine ⟨by trivial, ?_, hbig⟩; rw [hin]; exact hfn) | (rw [hin] at *; exact (for_4 hv' hp' (not_t (by assumption))).symm) | (rw [hin] at *; rw [for_4 hv' hp' (not_t (by assumption))]; done) | (exfalso; rw [hin] at *; have h0 := for_0 hv' hp' (not_f (by assumption)); simp_all; done) | rfl
    · cases hs
  · cases hs
end Go.Proofs.Ythkjlbggipocdaa.Sh
