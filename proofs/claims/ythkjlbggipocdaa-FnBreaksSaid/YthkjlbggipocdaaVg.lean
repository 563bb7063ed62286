/- What the webs behind steps of this seat compute, each shown once. No condition. -/
import Derived.Test.YthkjlbggipocdaaVf
set_option linter.unusedVariables false
set_option linter.unusedSimpArgs false
set_option linter.unusedSectionVars false
namespace Go.Proofs.Ythkjlbggipocdaa.Sh
open Go Go.Proofs
theorem steps_ok {st sp fd : Nat} {l : List Nat} {n tm : Nat} {k : Int} (h : (stepsC st sp fd l n tm k == 0) = true) : webOk st sp fd l n = true ∧ isTime tm = true ∧ isCount k = true ∧ allI (goodW st sp fd tm n l) k.toNat = true := by
  rw [beq_iff_eq] at h
  unfold stepsC at h
  split at h
  · rename_i h1
    split at h
    · rename_i h2
      split at h
      · rename_i h3
        simp only [Bool.and_eq_true] at h2
        exact ⟨h1, h2.1, h2.2, h3⟩
      · cases h
    · cases h
  · cases h
theorem steps_1 {st sp fd : Nat} {l : List Nat} {n tm : Nat} {k : Int} (h : webOk st sp fd l n = false) : stepsC st sp fd l n tm k = 1 := by simp [stepsC, h]
theorem steps_2 {st sp fd : Nat} {l : List Nat} {n tm : Nat} {k : Int} (h : webOk st sp fd l n = true) (h2 : (isTime tm && isCount k) = false) : stepsC st sp fd l n tm k = 2 := by simp [stepsC, h, h2]
theorem steps_4 {st sp fd : Nat} {l : List Nat} {n tm : Nat} {k : Int} (h : webOk st sp fd l n = true) (h2 : isTime tm = true) (h3 : isCount k = true) {i : Nat} (hi : i < k.toNat) (hg : webOk st sp fd (stepW st sp fd tm (runW st sp fd tm n l i) n) n = false) : stepsC st sp fd l n tm k = 4 := by
  have : allI (goodW st sp fd tm n l) k.toNat = false := allI_no hi hg
  simp [stepsC, h, h2, h3, this]
theorem steps_0 {st sp fd : Nat} {l : List Nat} {n tm : Nat} {k : Int} (h : webOk st sp fd l n = true) (h2 : isTime tm = true) (h3 : isCount k = true) (hg : allI (goodW st sp fd tm n l) k.toNat = true) : stepsC st sp fd l n tm k = 0 := by
  simp [stepsC, h, h2, h3, hg]
theorem count_le {k : Int} (h : isCount k = true) : 0 ≤ k ∧ k ≤ 1000 := by
  unfold isCount at h; rw [inI_iff] at h; exact h
theorem good_step {st sp fd tm n : Nat} {l : List Nat} {i : Nat} (h : allI (goodW st sp fd tm n l) i = true) (hg : webOk st sp fd (stepW st sp fd tm (runW st sp fd tm n l i) n) n = true) : allI (goodW st sp fd tm n l) (i + 1) = true := by
  simp only [allI, h, Bool.true_and]; exact hg
theorem fn77 : FnOk Try.prog 77 Try.f77 (bodyOf Try.f77) := ⟨Try.func77, rfl, by rfl⟩
def s77T : Spec := hspec fun args H => match args, H with
  | [.a [.f .f32 st, .f .f32 sp, .f .f32 fd, .sl 0 (.x o) (.x n)], .c (.f .f32 tm), .c (.i .i64 (.x k))], [some ⟨false, 0, x⟩] => match x.toFl with
    | some l => some (.t [.a [.f .f32 st, .f .f32 sp, .f .f32 fd, .sl 1 (.l 0) (.x n)], vI 0], [none, some ⟨true, 3, .fl fun _ => runW (st ()) (sp ()) (fd ()) (tm ()) (n ()) (l ()) (k ()).toNat⟩], [fun _ => (stepsC (st ()) (sp ()) (fd ()) (l ()) (n ()) (tm ()) (k ()) == 0) = true, fun _ => o () = 0 ∧ (l ()).length = 3 * n () ∧ n () ≤ 1048576])
    | _ => none
  | _, _ => none
def E77T : Env := fun g => envGetL [(51, ⟨true, s51, none⟩), (101, ⟨true, s101, none⟩), (103, ⟨true, s103, none⟩), (88, ⟨true, s88, none⟩), (105, ⟨true, s105, none⟩)] g
theorem E77Tok : EnvOk Try.prog E77T := envOk_cons ok51 (envOk_cons ok101 (envOk_cons ok103 (envOk_cons ok88 (envOk_cons ok105 (envOk_nil _)))))
set_option maxRecDepth 100000 in
set_option maxHeartbeats 2000000 in
theorem ok77T : Ok Try.prog 77 (s77T) := ok_of_wpaH (E := E77T) mixed tts E77Tok fn77 fun args H v H' o hs ho => by
  split at hs
  · rename_i st sp fd o n tm k x
    split at hs
    · rename_i l hl
      cases hs
      obtain ⟨hc, ⟨ho0, hlen, hbig⟩⟩ := ho.two
      try simp only [Unit.unit] at hc ho0 hlen hbig
      have hok := steps_ok hc
      refine ⟨_, HLe.cons (BLe.fl hl) HLe.nil, ?_⟩
      cbv
      refine Ob.mk ⟨ho0, hlen, hbig⟩ ?_
      cbv
      refine Br.mk (fun hv => ?_) (fun hv => ?_)
      · exact absurd hok.1 (by rw [show webOk (st ⟨⟩) (sp ⟨⟩) (fd ⟨⟩) (l ⟨⟩) (n ⟨⟩) = false from not_t hv]; decide)
      have hv' : webOk (st ⟨⟩) (sp ⟨⟩) (fd ⟨⟩) (l ⟨⟩) (n ⟨⟩) = true := not_f hv
      clear hv
      cbv
      by_cases htk : (isTime (tm ⟨⟩) && isCount (k ⟨⟩)) = true
      rotate_left
      · have htk' : (isTime (tm ⟨⟩) && isCount (k ⟨⟩)) = false := by simpa using htk
        exact absurd (by rw [hok.2.1, hok.2.2.1]; rfl) htk
      have ht' : isTime (tm ⟨⟩) = true := by simp only [Bool.and_eq_true] at htk; exact htk.1
      have hk' : isCount (k ⟨⟩) = true := by simp only [Bool.and_eq_true] at htk; exact htk.2
      have hk2 := count_le hk'
      repeat' first
        | (refine Br.mk (fun h => ?_) (fun h => ?_) <;> cbv)
        | (refine Ob.mk ?_ ?_; rotate_left; cbv)
      all_goals try (first | exact ⟨ho0, hlen, hbig⟩ | (exfalso; simp only [Unit.unit, Int.ofNat_lt, Int.ofNat_le, BE.val, IE.val, NE.val, ltB_iff, ltB_no, leB_iff, leB_no, Int.toNat_natCast, Nat.zero_add, Nat.add_zero, Nat.mul_one, forced, beq_iff_eq, beq_eq_false_iff_ne, bne_iff_ne, bne_eq_false_iff_eq] at *; simp_all; done))
      refine loop_rule (α := Unit → Nat) (c := ⟨tt, E77T, 1⟩)
          (fun i => fr 43 [(1, .c (.f .f32 tm)), (3, .c (.p 1 (.l 0))), (6, .c (.p 2 (.l 0))), (8, .c (.p 4 (.l 0))), (28, .c (.i .i64 (.x k))), (29, .c (.i .i64 (.x fun _ => i ())))]) (fun i => [some ⟨false, 0, .fl l⟩, some ⟨true, 0, .lit [.f .f32 st, .f .f32 sp, .f .f32 fd, .sl 0 (.x o) (.x n)]⟩, some ⟨true, 0, .lit [.f .f32 fun _ => 0, .f .f32 fun _ => 0, .f .f32 fun _ => 0, .sn]⟩, some ⟨true, 3, .fl fun _ => runW (st ()) (sp ()) (fd ()) (tm ()) (n ()) (l ()) (i ())⟩, some ⟨true, 0, .lit [.f .f32 st, .f .f32 sp, .f .f32 fd, .sl 3 (.l 0) (.x n)]⟩])
          (fun i => i () ≤ (k ()).toNat ∧ allI (goodW (st ()) (sp ()) (fd ()) (tm ()) (n ()) (l ())) (i ()) = true) (fun i => (k ()).toNat - i ()) (fun _ => (k ()).toNat + 1) ?_ ?_
      · refine .mk (fun _ => 0) ⟨Nat.zero_le _, rfl⟩ (by dsimp only; omega) ?_
        cbv
        repeat' (refine Ob.mk ?_ ?_; rotate_left)
        all_goals (try simp only [Unit.unit, Int.ofNat_lt, Int.ofNat_le, BE.val, IE.val, NE.val, ltB_iff, ltB_no, leB_iff, leB_no, Int.toNat_natCast, Nat.zero_add, Nat.add_zero, Nat.mul_one, forced, beq_iff_eq, beq_eq_false_iff_ne, bne_iff_ne, bne_eq_false_iff_eq] at *)
        all_goals first | with_reducible rfl | trivial
      · intro i hi
        have hrl := runW_len (st ⟨⟩) (sp ⟨⟩) (fd ⟨⟩) (tm ⟨⟩) (n ⟨⟩) (l ⟨⟩) hlen (i ⟨⟩)
        cbv
        refine Br.mk (fun h1 => ?_) (fun h1 => ?_)
        · have h1n : i ⟨⟩ < (k ⟨⟩).toNat := lt_k h1
          cbv
          repeat' first
            | (refine alt_t (by assumption) ?_; cbv)
            | (refine alt_f (by assumption) ?_; cbv)
            | (refine alt_b (fun h => ?_) (fun h => ?_) <;> cbv)
            | (refine Br.mk (fun h => ?_) (fun h => ?_) <;> cbv)
            | (refine Ob.mk ?_ ?_; rotate_left; cbv)
            | (refine Lex.mk (by kernel_rfl) ?_; cbv)
            | (refine Next.ren [1, 2, 5, 4] (fun _ => i () + 1) ?_ ?_ ?_)
          all_goals (try simp only [Unit.unit, Int.ofNat_lt, Int.ofNat_le, BE.val, IE.val, NE.val, ltB_iff, ltB_no, leB_iff, leB_no, Int.toNat_natCast, Nat.zero_add, Nat.add_zero, Nat.mul_one, forced, beq_iff_eq, beq_eq_false_iff_ne, bne_iff_ne, bne_eq_false_iff_eq] at *)
          all_goals (try simp only [ho0, Nat.zero_add] at *)
          all_goals first | with_reducible rfl | omega | (refine ⟨by trivial, ?_, hbig⟩; exact hrl) | (exfalso; have hg := allI_at hok.2.2.2 h1n; simp_all [goodW, runW]; done) | exact ⟨h1n, good_step hi.2 (by simp_all)⟩ | exact wrap64_nat (by omega) | (rw [hik]; done) | rfl
        · have h1n : (k ⟨⟩).toNat ≤ i ⟨⟩ := le_k h1
          have hik : i ⟨⟩ = (k ⟨⟩).toNat := Nat.le_antisymm hi.1 h1n
          cbv
          repeat' first
            | (refine alt_t (by assumption) ?_; cbv)
            | (refine alt_f (by assumption) ?_; cbv)
            | (refine alt_b (fun h => ?_) (fun h => ?_) <;> cbv)
            | (refine Br.mk (fun h => ?_) (fun h => ?_) <;> cbv)
            | (refine Ob.mk ?_ ?_; rotate_left; cbv)
            | (refine Lex.mk (by kernel_rfl) ?_; cbv)
            | (refine Next.ren [1, 2, 5, 4] (fun _ => i () + 1) ?_ ?_ ?_)
          all_goals (try simp only [Unit.unit, Int.ofNat_lt, Int.ofNat_le, BE.val, IE.val, NE.val, ltB_iff, ltB_no, leB_iff, leB_no, Int.toNat_natCast, Nat.zero_add, Nat.add_zero, Nat.mul_one, forced, beq_iff_eq, beq_eq_false_iff_ne, bne_iff_ne, bne_eq_false_iff_eq] at *)
          all_goals (try simp only [ho0, Nat.zero_add] at *)
          all_goals first | with_reducible rfl | omega | (refine ⟨by trivial, ?_, hbig⟩; exact hrl) | (exfalso; have hg := allI_at hok.2.2.2 h1n; simp_all [goodW, runW]; done) | exact ⟨h1n, good_step hi.2 (by simp_all)⟩ | exact wrap64_nat (by omega) | (rw [hik]; done) | rfl
    · cases hs
  · cases hs
def s77F : Spec := hspec fun args H => match args, H with
  | [.a [.f .f32 st, .f .f32 sp, .f .f32 fd, .sl 0 (.x o) (.x n)], .c (.f .f32 tm), .c (.i .i64 (.x k))], [some ⟨false, 0, x⟩] => match x.toFl with
    | some l => some (.t [.a [.f .f32 fun _ => 0, .f .f32 fun _ => 0, .f .f32 fun _ => 0, .sn], vI (stepsC (st ()) (sp ()) (fd ()) (l ()) (n ()) (tm ()) (k ()))], [none], [fun _ => (stepsC (st ()) (sp ()) (fd ()) (l ()) (n ()) (tm ()) (k ()) == 0) = false, fun _ => o () = 0 ∧ (l ()).length = 3 * n () ∧ n () ≤ 1048576])
    | _ => none
  | _, _ => none
def E77F : Env := fun g => envGetL [(51, ⟨true, s51, none⟩), (101, ⟨true, s101, none⟩), (103, ⟨true, s103, none⟩), (88, ⟨true, s88, none⟩), (105, ⟨true, s105, none⟩)] g
theorem E77Fok : EnvOk Try.prog E77F := envOk_cons ok51 (envOk_cons ok101 (envOk_cons ok103 (envOk_cons ok88 (envOk_cons ok105 (envOk_nil _)))))
set_option maxRecDepth 100000 in
set_option maxHeartbeats 2000000 in
theorem ok77F : Ok Try.prog 77 (s77F) := ok_of_wpaH (E := E77F) mixed tts E77Fok fn77 fun args H v H' o hs ho => by
  split at hs
  · rename_i st sp fd o n tm k x
    split at hs
    · rename_i l hl
      cases hs
      obtain ⟨hc, ⟨ho0, hlen, hbig⟩⟩ := ho.two
      try simp only [Unit.unit] at hc ho0 hlen hbig
      refine ⟨_, HLe.cons (BLe.fl hl) HLe.nil, ?_⟩
      cbv
      refine Ob.mk ⟨ho0, hlen, hbig⟩ ?_
      cbv
      refine Br.mk (fun hv => ?_) (fun hv => ?_)
      · have hv' : webOk (st ⟨⟩) (sp ⟨⟩) (fd ⟨⟩) (l ⟨⟩) (n ⟨⟩) = false := not_t hv
        cbv
        repeat' (refine Ob.mk ?_ ?_; rotate_left; cbv)
        all_goals (try simp only [Unit.unit, Int.ofNat_lt, Int.ofNat_le, BE.val, IE.val, NE.val, ltB_iff, ltB_no, leB_iff, leB_no, Int.toNat_natCast, Nat.zero_add, Nat.add_zero, Nat.mul_one, forced, beq_iff_eq, beq_eq_false_iff_ne, bne_iff_ne, bne_eq_false_iff_eq] at *)
        all_goals first | with_reducible rfl | (rw [steps_1 hv']; done)
      have hv' : webOk (st ⟨⟩) (sp ⟨⟩) (fd ⟨⟩) (l ⟨⟩) (n ⟨⟩) = true := not_f hv
      clear hv
      cbv
      by_cases htk : (isTime (tm ⟨⟩) && isCount (k ⟨⟩)) = true
      rotate_left
      · have htk' : (isTime (tm ⟨⟩) && isCount (k ⟨⟩)) = false := by simpa using htk
        repeat' first
          | (refine Br.mk (fun h => ?_) (fun h => ?_) <;> cbv)
          | (refine Ob.mk ?_ ?_; rotate_left; cbv)
        all_goals (try simp only [Unit.unit, Int.ofNat_lt, Int.ofNat_le, BE.val, IE.val, NE.val, ltB_iff, ltB_no, leB_iff, leB_no, Int.toNat_natCast, Nat.zero_add, Nat.add_zero, Nat.mul_one, forced, beq_iff_eq, beq_eq_false_iff_ne, bne_iff_ne, bne_eq_false_iff_eq] at *)
        all_goals first | with_reducible rfl | exact ⟨ho0, hlen, hbig⟩ | (rw [steps_2 hv' htk']; done) | (exfalso; simp_all; done)
      have ht' : isTime (tm ⟨⟩) = true := by simp only [Bool.and_eq_true] at htk; exact htk.1
      have hk' : isCount (k ⟨⟩) = true := by simp only [Bool.and_eq_true] at htk; exact htk.2
      have hk2 := count_le hk'
      repeat' first
        | (refine Br.mk (fun h => ?_) (fun h => ?_) <;> cbv)
        | (refine Ob.mk ?_ ?_; rotate_left; cbv)
      all_goals try (first | exact ⟨ho0, hlen, hbig⟩ | (exfalso; simp only [Unit.unit, Int.ofNat_lt, Int.ofNat_le, BE.val, IE.val, NE.val, ltB_iff, ltB_no, leB_iff, leB_no, Int.toNat_natCast, Nat.zero_add, Nat.add_zero, Nat.mul_one, forced, beq_iff_eq, beq_eq_false_iff_ne, bne_iff_ne, bne_eq_false_iff_eq] at *; simp_all; done))
      refine loop_rule (α := Unit → Nat) (c := ⟨tt, E77F, 1⟩)
          (fun i => fr 43 [(1, .c (.f .f32 tm)), (3, .c (.p 1 (.l 0))), (6, .c (.p 2 (.l 0))), (8, .c (.p 4 (.l 0))), (28, .c (.i .i64 (.x k))), (29, .c (.i .i64 (.x fun _ => i ())))]) (fun i => [some ⟨false, 0, .fl l⟩, some ⟨true, 0, .lit [.f .f32 st, .f .f32 sp, .f .f32 fd, .sl 0 (.x o) (.x n)]⟩, some ⟨true, 0, .lit [.f .f32 fun _ => 0, .f .f32 fun _ => 0, .f .f32 fun _ => 0, .sn]⟩, some ⟨true, 3, .fl fun _ => runW (st ()) (sp ()) (fd ()) (tm ()) (n ()) (l ()) (i ())⟩, some ⟨true, 0, .lit [.f .f32 st, .f .f32 sp, .f .f32 fd, .sl 3 (.l 0) (.x n)]⟩])
          (fun i => i () ≤ (k ()).toNat ∧ allI (goodW (st ()) (sp ()) (fd ()) (tm ()) (n ()) (l ())) (i ()) = true) (fun i => (k ()).toNat - i ()) (fun _ => (k ()).toNat + 1) ?_ ?_
      · refine .mk (fun _ => 0) ⟨Nat.zero_le _, rfl⟩ (by dsimp only; omega) ?_
        cbv
        repeat' (refine Ob.mk ?_ ?_; rotate_left)
        all_goals (try simp only [Unit.unit, Int.ofNat_lt, Int.ofNat_le, BE.val, IE.val, NE.val, ltB_iff, ltB_no, leB_iff, leB_no, Int.toNat_natCast, Nat.zero_add, Nat.add_zero, Nat.mul_one, forced, beq_iff_eq, beq_eq_false_iff_ne, bne_iff_ne, bne_eq_false_iff_eq] at *)
        all_goals first | with_reducible rfl | trivial
      · intro i hi
        have hrl := runW_len (st ⟨⟩) (sp ⟨⟩) (fd ⟨⟩) (tm ⟨⟩) (n ⟨⟩) (l ⟨⟩) hlen (i ⟨⟩)
        cbv
        refine Br.mk (fun h1 => ?_) (fun h1 => ?_)
        · have h1n : i ⟨⟩ < (k ⟨⟩).toNat := lt_k h1
          cbv
          repeat' first
            | (refine alt_t (by assumption) ?_; cbv)
            | (refine alt_f (by assumption) ?_; cbv)
            | (refine alt_b (fun h => ?_) (fun h => ?_) <;> cbv)
            | (refine Br.mk (fun h => ?_) (fun h => ?_) <;> cbv)
            | (refine Ob.mk ?_ ?_; rotate_left; cbv)
            | (refine Lex.mk (by kernel_rfl) ?_; cbv)
            | (refine Next.ren [1, 2, 5, 4] (fun _ => i () + 1) ?_ ?_ ?_)
          all_goals (try simp only [Unit.unit, Int.ofNat_lt, Int.ofNat_le, BE.val, IE.val, NE.val, ltB_iff, ltB_no, leB_iff, leB_no, Int.toNat_natCast, Nat.zero_add, Nat.add_zero, Nat.mul_one, forced, beq_iff_eq, beq_eq_false_iff_ne, bne_iff_ne, bne_eq_false_iff_eq] at *)
          all_goals (try simp only [ho0, Nat.zero_add] at *)
          all_goals first | with_reducible rfl | omega | (refine ⟨by trivial, ?_, hbig⟩; exact hrl) | exact (steps_4 hv' ht' hk' h1n (by simp_all)).symm | exact ⟨h1n, good_step hi.2 (by simp_all)⟩ | exact wrap64_nat (by omega) | (exfalso; rw [hik] at hi; have h0 := steps_0 hv' ht' hk' hi.2; simp_all; done) | rfl
        · have h1n : (k ⟨⟩).toNat ≤ i ⟨⟩ := le_k h1
          have hik : i ⟨⟩ = (k ⟨⟩).toNat := Nat.le_antisymm hi.1 h1n
          cbv
          repeat' first
            | (refine alt_t (by assumption) ?_; cbv)
            | (refine alt_f (by assumption) ?_; cbv)
            | (refine alt_b (fun h => ?_) (fun h => ?_) <;> cbv)
            | (refine Br.mk (fun h => ?_) (fun h => ?_) <;> cbv)
            | (refine Ob.mk ?_ ?_; rotate_left; cbv)
            | (refine Lex.mk (by kernel_rfl) ?_; cbv)
            | (refine Next.ren [1, 2, 5, 4] (fun _ => i () + 1) ?_ ?_ ?_)
          all_goals (try simp only [Unit.unit, Int.ofNat_lt, Int.ofNat_le, BE.val, IE.val, NE.val, ltB_iff, ltB_no, leB_iff, leB_no, Int.toNat_natCast, Nat.zero_add, Nat.add_zero, Nat.mul_one, forced, beq_iff_eq, beq_eq_false_iff_ne, bne_iff_ne, bne_eq_false_iff_eq] at *)
          all_goals (try simp only [ho0, Nat.zero_add] at *)
          all_goals first | with_reducible rfl | omega | (refine ⟨by trivial, ?_, hbig⟩; exact hrl) | exact (steps_4 hv' ht' hk' h1n (by simp_all)).symm | exact ⟨h1n, good_step hi.2 (by simp_all)⟩ | exact wrap64_nat (by omega) | (exfalso; rw [hik] at hi; have h0 := steps_0 hv' ht' hk' hi.2; simp_all; done) | rfl
    · cases hs
  · cases hs
theorem fn75 : FnOk Try.prog 75 Try.f75 (bodyOf Try.f75) := ⟨Try.func75, rfl, by rfl⟩
def s75T : Spec := hspec fun args H => match args, H with
  | [.a [.f .f32 st, .f .f32 sp, .f .f32 fd, .sl 0 (.x o) (.x n)], .c (.f .f32 tm)], [some ⟨false, 0, x⟩] => match x.toFl with
    | some l => some (.t [.a [.f .f32 st, .f .f32 sp, .f .f32 fd, .sl 1 (.l 0) (.x n)], vI 0], [none, some ⟨true, 3, .fl fun _ => runW (st ()) (sp ()) (fd ()) (tm ()) (n ()) (l ()) 1⟩], [fun _ => (stepsC (st ()) (sp ()) (fd ()) (l ()) (n ()) (tm ()) 1 == 0) = true, fun _ => o () = 0 ∧ (l ()).length = 3 * n () ∧ n () ≤ 1048576])
    | _ => none
  | _, _ => none
def E75T : Env := fun g => envGetL [(77, ⟨true, sNo, some (s77T, s77F)⟩)] g
theorem E75Tok : EnvOk Try.prog E75T := envOk_alt ok77T ok77F (envOk_nil _)
set_option maxRecDepth 100000 in
set_option maxHeartbeats 2000000 in
theorem ok75T : Ok Try.prog 75 (s75T) := ok_of_wpaH (E := E75T) mixed tts E75Tok fn75 fun args H v H' o hs ho => by
  split at hs
  · rename_i st sp fd o n tm x
    split at hs
    · rename_i l hl
      cases hs
      obtain ⟨hc, ⟨ho0, hlen, hbig⟩⟩ := ho.two
      try simp only [Unit.unit] at hc ho0 hlen hbig
      refine ⟨_, HLe.cons (BLe.fl hl) HLe.nil, ?_⟩
      cbv
      repeat' first
        | (refine alt_t (by assumption) ?_; cbv)
        | (refine alt_f (by assumption) ?_; cbv)
        | (refine alt_b (fun h => ?_) (fun h => ?_) <;> cbv)
        | (refine Br.mk (fun h => ?_) (fun h => ?_) <;> cbv)
        | (refine Ob.mk ?_ ?_; rotate_left; cbv)
        | (refine Lex.mk (by kernel_rfl) ?_; cbv)
      all_goals (try simp only [Unit.unit, Int.ofNat_lt, Int.ofNat_le, BE.val, IE.val, NE.val, ltB_iff, ltB_no, leB_iff, leB_no, Int.toNat_natCast, Nat.zero_add, Nat.add_zero, Nat.mul_one, forced, beq_iff_eq, beq_eq_false_iff_ne, bne_iff_ne, bne_eq_false_iff_eq] at *)
      all_goals first | with_reducible rfl | exact ⟨ho0, hlen, hbig⟩ | exact ⟨by trivial, hlen, hbig⟩ | exact hc | (simp_all; done)
    · cases hs
  · cases hs
def s75F : Spec := hspec fun args H => match args, H with
  | [.a [.f .f32 st, .f .f32 sp, .f .f32 fd, .sl 0 (.x o) (.x n)], .c (.f .f32 tm)], [some ⟨false, 0, x⟩] => match x.toFl with
    | some l => some (.t [.a [.f .f32 fun _ => 0, .f .f32 fun _ => 0, .f .f32 fun _ => 0, .sn], vI (stepsC (st ()) (sp ()) (fd ()) (l ()) (n ()) (tm ()) 1)], [none], [fun _ => (stepsC (st ()) (sp ()) (fd ()) (l ()) (n ()) (tm ()) 1 == 0) = false, fun _ => o () = 0 ∧ (l ()).length = 3 * n () ∧ n () ≤ 1048576])
    | _ => none
  | _, _ => none
def E75F : Env := fun g => envGetL [(77, ⟨true, sNo, some (s77T, s77F)⟩)] g
theorem E75Fok : EnvOk Try.prog E75F := envOk_alt ok77T ok77F (envOk_nil _)
set_option maxRecDepth 100000 in
set_option maxHeartbeats 2000000 in
theorem ok75F : Ok Try.prog 75 (s75F) := ok_of_wpaH (E := E75F) mixed tts E75Fok fn75 fun args H v H' o hs ho => by
  split at hs
  · rename_i st sp fd o n tm x
    split at hs
    · rename_i l hl
      cases hs
      obtain ⟨hc, ⟨ho0, hlen, hbig⟩⟩ := ho.two
      try simp only [Unit.unit] at hc ho0 hlen hbig
      refine ⟨_, HLe.cons (BLe.fl hl) HLe.nil, ?_⟩
      cbv
      repeat' first
        | (refine alt_t (by assumption) ?_; cbv)
        | (refine alt_f (by assumption) ?_; cbv)
        | (refine alt_b (fun h => ?_) (fun h => ?_) <;> cbv)
        | (refine Br.mk (fun h => ?_) (fun h => ?_) <;> cbv)
        | (refine Ob.mk ?_ ?_; rotate_left; cbv)
        | (refine Lex.mk (by kernel_rfl) ?_; cbv)
      all_goals (try simp only [Unit.unit, Int.ofNat_lt, Int.ofNat_le, BE.val, IE.val, NE.val, ltB_iff, ltB_no, leB_iff, leB_no, Int.toNat_natCast, Nat.zero_add, Nat.add_zero, Nat.mul_one, forced, beq_iff_eq, beq_eq_false_iff_ne, bne_iff_ne, bne_eq_false_iff_eq] at *)
      all_goals first | with_reducible rfl | exact ⟨ho0, hlen, hbig⟩ | exact ⟨by trivial, hlen, hbig⟩ | exact hc | (simp_all; done)
    · cases hs
  · cases hs
theorem given_0 {a b : Bool} (h : a = true ∧ b = true) : givenC a b = 0 := by simp [givenC, h.1, h.2]
theorem given_no {a b : Bool} (h : ¬ (a = true ∧ b = true)) : givenC a b ≠ 0 := by
  unfold givenC
  split
  · rename_i ha
    split
    · rename_i hb; exact absurd ⟨ha, hb⟩ h
    · decide
  · decide
theorem steps_g {st sp fd : Nat} {l : List Nat} {n tm : Nat} {k : Int} {b : Bool} (hb : b = (isTime tm && isCount k)) (h : ¬ (webOk st sp fd l n = true ∧ b = true)) : stepsC st sp fd l n tm k = givenC (webOk st sp fd l n) b := by
  unfold stepsC givenC
  rw [← hb]
  split
  · rename_i ha
    split
    · rename_i hb; exact absurd ⟨ha, hb⟩ h
    · rfl
  · rfl
theorem fn76 : FnOk Try.prog 76 Try.f76 (bodyOf Try.f76) := ⟨Try.func76, rfl, by rfl⟩
def s76T : Spec := hspec fun args H => match args, H with
  | [.a [.f .f32 st, .f .f32 sp, .f .f32 fd, .sl 0 (.x o) (.x n)], .c (.f .f32 tm), .c (.i .i64 (.x k))], [some ⟨false, 0, x⟩] => match x.toFl with
    | some l => some (.t [.a [.f .f32 st, .f .f32 sp, .f .f32 fd, .sl 1 (.l 0) (.x n)], vI 0], [none, some ⟨true, 3, .fl fun _ => runW (st ()) (sp ()) (fd ()) (tm ()) (n ()) (l ()) (k ()).toNat⟩], [fun _ => (stepsC (st ()) (sp ()) (fd ()) (l ()) (n ()) (tm ()) (k ()) == 0) = true, fun _ => o () = 0 ∧ (l ()).length = 3 * n () ∧ n () ≤ 1048576])
    | _ => none
  | _, _ => none
def E76T : Env := fun g => envGetL [(106, ⟨true, s106, none⟩), (107, ⟨true, s107, none⟩), (92, ⟨true, s92, none⟩), (89, ⟨true, s89, none⟩), (109, ⟨true, sNo, some (s109T, s109F)⟩)] g
theorem E76Tok : EnvOk Try.prog E76T := envOk_cons ok106 (envOk_cons ok107 (envOk_cons ok92 (envOk_cons ok89 (envOk_alt ok109T ok109F (envOk_nil _)))))
set_option maxRecDepth 100000 in
set_option maxHeartbeats 2000000 in
theorem ok76T : Ok Try.prog 76 (s76T) := ok_of_wpaH (E := E76T) mixed tts E76Tok fn76 fun args H v H' o hs ho => by
  split at hs
  · rename_i st sp fd o n tm k x
    split at hs
    · rename_i l hl
      cases hs
      obtain ⟨hc, ⟨ho0, hlen, hbig⟩⟩ := ho.two
      try simp only [Unit.unit] at hc ho0 hlen hbig
      have hok := steps_ok hc
      refine ⟨_, HLe.cons (BLe.fl hl) HLe.nil, ?_⟩
      cbv
      repeat' first
        | (refine Br.mk (fun h => ?_) (fun h => ?_) <;> cbv)
        | (refine Ob.mk ?_ ?_; rotate_left; cbv)
      all_goals try (first | exact ⟨ho0, hlen, hbig⟩ | (exfalso; simp only [Unit.unit, Int.ofNat_lt, Int.ofNat_le, BE.val, IE.val, NE.val, ltB_iff, ltB_no, leB_iff, leB_no, Int.toNat_natCast, Nat.zero_add, Nat.add_zero, Nat.mul_one, forced, beq_iff_eq, beq_eq_false_iff_ne, bne_iff_ne, bne_eq_false_iff_eq] at *; simp_all; done))
      refine loop_rule (α := (Unit → Nat) ⊕ ((Unit → Nat) × (Unit → Int))) (c := ⟨tt, E76T, 1⟩)
          (fun a => match a with | .inl i => fr 38 [(1, .c (.f .f32 tm)), (2, .c (.i .i64 (.x k))), (3, .c (.p 1 (.l 0))), (6, .c (.p 2 (.l 0))), (8, .c (.i .i64 (.l 0))), (9, .c (.p 4 (.l 0))), (10, .c (.i .i64 (.x fun _ => i ())))] | .inr q => fr 38 [(2, .c (.i .i64 (.x k))), (6, .c (.p 2 (.l 0))), (8, .c (.i .i64 (.x fun _ => q.2 ()))), (10, .c (.i .i64 (.x fun _ => q.1 ())))]) (fun a => match a with | .inl i => [some ⟨false, 0, .fl l⟩, some ⟨true, 0, .lit [.f .f32 st, .f .f32 sp, .f .f32 fd, .sl 0 (.x o) (.x n)]⟩, some ⟨true, 0, .lit [.f .f32 fun _ => 0, .f .f32 fun _ => 0, .f .f32 fun _ => 0, .sn]⟩, some ⟨true, 3, .fl fun _ => runW (st ()) (sp ()) (fd ()) (tm ()) (n ()) (l ()) (i ())⟩, some ⟨true, 0, .lit [.f .f32 st, .f .f32 sp, .f .f32 fd, .sl 3 (.l 0) (.x n)]⟩] | .inr q => [some ⟨false, 0, .fl l⟩, none, some ⟨true, 0, .lit [.f .f32 fun _ => 0, .f .f32 fun _ => 0, .f .f32 fun _ => 0, .sn]⟩])
          (fun a => match a with | .inl i => (i () ≤ (k ()).toNat ∧ allI (goodW (st ()) (sp ()) (fd ()) (tm ()) (n ()) (l ())) (i ()) = true) ∧ (webOk (st ()) (sp ()) (fd ()) (l ()) (n ()) = true ∧ isTime (tm ()) = true ∧ isCount (k ()) = true) | .inr q => q.2 () ≠ 0 ∧ stepsC (st ()) (sp ()) (fd ()) (l ()) (n ()) (tm ()) (k ()) = q.2 ()) (fun a => match a with | .inl i => (k ()).toNat - i () + 1 | .inr q => 0) (fun _ => (k ()).toNat + 2) ?_ ?_
      · refine .mk (.inl fun _ => 0) ⟨⟨Nat.zero_le _, rfl⟩, hok.1, hok.2.1, hok.2.2.1⟩ (by dsimp only; omega) ?_
        cbv
        repeat' (refine Ob.mk ?_ ?_; rotate_left)
        all_goals (try simp only [Unit.unit, Int.ofNat_lt, Int.ofNat_le, BE.val, IE.val, NE.val, ltB_iff, ltB_no, leB_iff, leB_no, Int.toNat_natCast, Nat.zero_add, Nat.add_zero, Nat.mul_one, forced, beq_iff_eq, beq_eq_false_iff_ne, bne_iff_ne, bne_eq_false_iff_eq] at *)
        all_goals first | with_reducible rfl | trivial | exact given_0 (by simp_all) | (rw [given_0 (by simp_all)]; done)
      · rintro (i | ⟨i, c⟩) hi
        · have hrl := runW_len (st ⟨⟩) (sp ⟨⟩) (fd ⟨⟩) (tm ⟨⟩) (n ⟨⟩) (l ⟨⟩) hlen (i ⟨⟩)
          have hk2 : 0 ≤ k ⟨⟩ ∧ k ⟨⟩ ≤ 1000 := count_le hi.2.2.2
          cbv
          refine Br.mk (fun h1 => ?_) (fun h1 => ?_)
          · have h1n : i ⟨⟩ < (k ⟨⟩).toNat := lt_k h1
            cbv
            repeat' (refine Ob.mk ?_ ?_; rotate_left; cbv)
            refine alt_b (fun h => ?_) (fun h => ?_)
            · cbv
              repeat' first | (refine Ob.mk ?_ ?_; rotate_left; cbv) | (refine Lex.mk (by kernel_rfl) ?_; cbv) | (refine Next.ren [1, 2, 5, 4] (.inl fun _ => i () + 1) ?_ ?_ ?_)
              all_goals (try simp only [Unit.unit, Int.ofNat_lt, Int.ofNat_le, BE.val, IE.val, NE.val, ltB_iff, ltB_no, leB_iff, leB_no, Int.toNat_natCast, Nat.zero_add, Nat.add_zero, Nat.mul_one, forced, beq_iff_eq, beq_eq_false_iff_ne, bne_iff_ne, bne_eq_false_iff_eq] at *)
              all_goals (try simp only [ho0, Nat.zero_add] at *)
              all_goals first | with_reducible rfl | (refine ⟨by trivial, ?_, hbig⟩; exact hrl) | exact wrap64_nat (by omega) | omega | (exfalso; have hg := allI_at hok.2.2.2 h1n; simp_all [goodW, runW]; done) | exact ⟨⟨h1n, good_step hi.1.2 (by assumption)⟩, hi.2⟩ | (rw [hik]; done) | rfl
            · cbv
              repeat' first | (refine Ob.mk ?_ ?_; rotate_left; cbv) | (refine Lex.mk (by kernel_rfl) ?_; cbv) | (refine Next.mk (.inr (fun _ => i () + 1, fun _ => 4)) ?_ ?_ ?_)
              all_goals (try simp only [Unit.unit, Int.ofNat_lt, Int.ofNat_le, BE.val, IE.val, NE.val, ltB_iff, ltB_no, leB_iff, leB_no, Int.toNat_natCast, Nat.zero_add, Nat.add_zero, Nat.mul_one, forced, beq_iff_eq, beq_eq_false_iff_ne, bne_iff_ne, bne_eq_false_iff_eq] at *)
              all_goals (try simp only [ho0, Nat.zero_add] at *)
              all_goals first | with_reducible rfl | (refine ⟨by trivial, ?_, hbig⟩; exact hrl) | exact wrap64_nat (by omega) | omega | (exfalso; have hg := allI_at hok.2.2.2 h1n; simp_all [goodW, runW]; done) | exact ⟨⟨h1n, good_step hi.1.2 (by assumption)⟩, hi.2⟩ | (rw [hik]; done) | rfl
            all_goals (try simp only [Unit.unit, Int.ofNat_lt, Int.ofNat_le, BE.val, IE.val, NE.val, ltB_iff, ltB_no, leB_iff, leB_no, Int.toNat_natCast, Nat.zero_add, Nat.add_zero, Nat.mul_one, forced, beq_iff_eq, beq_eq_false_iff_ne, bne_iff_ne, bne_eq_false_iff_eq] at *)
            all_goals first | (refine ⟨by trivial, ?_, hbig⟩; exact hrl) | exact wrap64_nat (by omega) | omega | (exfalso; have hg := allI_at hok.2.2.2 h1n; simp_all [goodW, runW]; done) | exact ⟨⟨h1n, good_step hi.1.2 (by assumption)⟩, hi.2⟩ | (rw [hik]; done) | rfl
          · have h1n : (k ⟨⟩).toNat ≤ i ⟨⟩ := le_k h1
            have hik : i ⟨⟩ = (k ⟨⟩).toNat := Nat.le_antisymm hi.1.1 h1n
            cbv
            repeat' first | (refine Ob.mk ?_ ?_; rotate_left; cbv) | (refine Br.mk (fun h => ?_) (fun h => ?_) <;> cbv)
            all_goals (try simp only [Unit.unit, Int.ofNat_lt, Int.ofNat_le, BE.val, IE.val, NE.val, ltB_iff, ltB_no, leB_iff, leB_no, Int.toNat_natCast, Nat.zero_add, Nat.add_zero, Nat.mul_one, forced, beq_iff_eq, beq_eq_false_iff_ne, bne_iff_ne, bne_eq_false_iff_eq] at *)
            all_goals first | with_reducible rfl | (refine ⟨by trivial, ?_, hbig⟩; exact hrl) | exact wrap64_nat (by omega) | omega | (exfalso; have hg := allI_at hok.2.2.2 h1n; simp_all [goodW, runW]; done) | exact ⟨⟨h1n, good_step hi.1.2 (by assumption)⟩, hi.2⟩ | (rw [hik]; done) | rfl
        · have hi1 : c ⟨⟩ ≠ 0 := hi.1
          have hi2 : stepsC (st ⟨⟩) (sp ⟨⟩) (fd ⟨⟩) (l ⟨⟩) (n ⟨⟩) (tm ⟨⟩) (k ⟨⟩) = c ⟨⟩ := hi.2
          exact absurd (hi2.symm.trans (beq_iff_eq.1 hc)) hi1
    · cases hs
  · cases hs
def s76F : Spec := hspec fun args H => match args, H with
  | [.a [.f .f32 st, .f .f32 sp, .f .f32 fd, .sl 0 (.x o) (.x n)], .c (.f .f32 tm), .c (.i .i64 (.x k))], [some ⟨false, 0, x⟩] => match x.toFl with
    | some l => some (.t [.a [.f .f32 fun _ => 0, .f .f32 fun _ => 0, .f .f32 fun _ => 0, .sn], vI (stepsC (st ()) (sp ()) (fd ()) (l ()) (n ()) (tm ()) (k ()))], [none], [fun _ => (stepsC (st ()) (sp ()) (fd ()) (l ()) (n ()) (tm ()) (k ()) == 0) = false, fun _ => o () = 0 ∧ (l ()).length = 3 * n () ∧ n () ≤ 1048576])
    | _ => none
  | _, _ => none
def E76F : Env := fun g => envGetL [(106, ⟨true, s106, none⟩), (107, ⟨true, s107, none⟩), (92, ⟨true, s92, none⟩), (89, ⟨true, s89, none⟩), (109, ⟨true, sNo, some (s109T, s109F)⟩)] g
theorem E76Fok : EnvOk Try.prog E76F := envOk_cons ok106 (envOk_cons ok107 (envOk_cons ok92 (envOk_cons ok89 (envOk_alt ok109T ok109F (envOk_nil _)))))
set_option maxRecDepth 100000 in
set_option maxHeartbeats 2000000 in
theorem ok76F : Ok Try.prog 76 (s76F) := ok_of_wpaH (E := E76F) mixed tts E76Fok fn76 fun args H v H' o hs ho => by
  split at hs
  · rename_i st sp fd o n tm k x
    split at hs
    · rename_i l hl
      cases hs
      obtain ⟨hc, ⟨ho0, hlen, hbig⟩⟩ := ho.two
      try simp only [Unit.unit] at hc ho0 hlen hbig
      refine ⟨_, HLe.cons (BLe.fl hl) HLe.nil, ?_⟩
      cbv
      repeat' first
        | (refine Br.mk (fun h => ?_) (fun h => ?_) <;> cbv)
        | (refine Ob.mk ?_ ?_; rotate_left; cbv)
      all_goals try (first | exact ⟨ho0, hlen, hbig⟩ | (exfalso; simp only [Unit.unit, Int.ofNat_lt, Int.ofNat_le, BE.val, IE.val, NE.val, ltB_iff, ltB_no, leB_iff, leB_no, Int.toNat_natCast, Nat.zero_add, Nat.add_zero, Nat.mul_one, forced, beq_iff_eq, beq_eq_false_iff_ne, bne_iff_ne, bne_eq_false_iff_eq] at *; simp_all; done))
      · by_cases hno : ¬ (webOk (st ⟨⟩) (sp ⟨⟩) (fd ⟨⟩) (l ⟨⟩) (n ⟨⟩) = true ∧ isCount (k ⟨⟩) = true)
        · refine loop_rule (α := (Unit → Nat) ⊕ ((Unit → Nat) × (Unit → Int))) (c := ⟨tt, E76F, 1⟩)
              (fun a => match a with | .inl i => fr 38 [(1, .c (.f .f32 tm)), (2, .c (.i .i64 (.x k))), (3, .c (.p 1 (.l 0))), (6, .c (.p 2 (.l 0))), (8, .c (.i .i64 (.l 0))), (9, .c (.p 4 (.l 0))), (10, .c (.i .i64 (.x fun _ => i ())))] | .inr q => fr 38 [(2, .c (.i .i64 (.x k))), (6, .c (.p 2 (.l 0))), (8, .c (.i .i64 (.x fun _ => q.2 ()))), (10, .c (.i .i64 (.x fun _ => q.1 ())))]) (fun a => match a with | .inl i => [some ⟨false, 0, .fl l⟩, some ⟨true, 0, .lit [.f .f32 st, .f .f32 sp, .f .f32 fd, .sl 0 (.x o) (.x n)]⟩, some ⟨true, 0, .lit [.f .f32 fun _ => 0, .f .f32 fun _ => 0, .f .f32 fun _ => 0, .sn]⟩, some ⟨true, 3, .fl fun _ => runW (st ()) (sp ()) (fd ()) (tm ()) (n ()) (l ()) (i ())⟩, some ⟨true, 0, .lit [.f .f32 st, .f .f32 sp, .f .f32 fd, .sl 3 (.l 0) (.x n)]⟩] | .inr q => [some ⟨false, 0, .fl l⟩, none, some ⟨true, 0, .lit [.f .f32 fun _ => 0, .f .f32 fun _ => 0, .f .f32 fun _ => 0, .sn]⟩])
              (fun a => match a with | .inl i => (i () ≤ (k ()).toNat ∧ allI (goodW (st ()) (sp ()) (fd ()) (tm ()) (n ()) (l ())) (i ()) = true) ∧ (webOk (st ()) (sp ()) (fd ()) (l ()) (n ()) = true ∧ isTime (tm ()) = true ∧ isCount (k ()) = true) | .inr q => q.2 () ≠ 0 ∧ stepsC (st ()) (sp ()) (fd ()) (l ()) (n ()) (tm ()) (k ()) = q.2 ()) (fun a => match a with | .inl i => (k ()).toNat - i () + 1 | .inr q => 0) (fun _ => (k ()).toNat + 2) ?_ ?_
          · refine .mk (.inr (fun _ => 0, fun _ => givenC (webOk (st ⟨⟩) (sp ⟨⟩) (fd ⟨⟩) (l ⟨⟩) (n ⟨⟩)) (isCount (k ⟨⟩)))) ⟨given_no hno, steps_g (by simp_all) hno⟩ (by dsimp only; omega) ?_
            cbv
            repeat' (refine Ob.mk ?_ ?_; rotate_left)
            all_goals (try simp only [Unit.unit, Int.ofNat_lt, Int.ofNat_le, BE.val, IE.val, NE.val, ltB_iff, ltB_no, leB_iff, leB_no, Int.toNat_natCast, Nat.zero_add, Nat.add_zero, Nat.mul_one, forced, beq_iff_eq, beq_eq_false_iff_ne, bne_iff_ne, bne_eq_false_iff_eq] at *)
            all_goals first | with_reducible rfl | trivial
          · rintro (i | ⟨i, c⟩) hi
            · have hrl := runW_len (st ⟨⟩) (sp ⟨⟩) (fd ⟨⟩) (tm ⟨⟩) (n ⟨⟩) (l ⟨⟩) hlen (i ⟨⟩)
              have hk2 : 0 ≤ k ⟨⟩ ∧ k ⟨⟩ ≤ 1000 := count_le hi.2.2.2
              cbv
              refine Br.mk (fun h1 => ?_) (fun h1 => ?_)
              · have h1n : i ⟨⟩ < (k ⟨⟩).toNat := lt_k h1
                cbv
                repeat' (refine Ob.mk ?_ ?_; rotate_left; cbv)
                refine alt_b (fun h => ?_) (fun h => ?_)
                · cbv
                  repeat' first | (refine Ob.mk ?_ ?_; rotate_left; cbv) | (refine Lex.mk (by kernel_rfl) ?_; cbv) | (refine Next.ren [1, 2, 5, 4] (.inl fun _ => i () + 1) ?_ ?_ ?_)
                  all_goals (try simp only [Unit.unit, Int.ofNat_lt, Int.ofNat_le, BE.val, IE.val, NE.val, ltB_iff, ltB_no, leB_iff, leB_no, Int.toNat_natCast, Nat.zero_add, Nat.add_zero, Nat.mul_one, forced, beq_iff_eq, beq_eq_false_iff_ne, bne_iff_ne, bne_eq_false_iff_eq] at *)
                  all_goals (try simp only [ho0, Nat.zero_add] at *)
                  all_goals first | with_reducible rfl | (refine ⟨by trivial, ?_, hbig⟩; exact hrl) | exact wrap64_nat (by omega) | omega | exact ⟨by decide, steps_4 hi.2.1 hi.2.2.1 hi.2.2.2 h1n (by assumption)⟩ | exact ⟨⟨h1n, good_step hi.1.2 (by assumption)⟩, hi.2⟩ | (exfalso; have hg := hi.1.2; rw [hik] at hg; have h0 := steps_0 hi.2.1 hi.2.2.1 hi.2.2.2 hg; simp_all; done) | rfl
                · cbv
                  repeat' first | (refine Ob.mk ?_ ?_; rotate_left; cbv) | (refine Lex.mk (by kernel_rfl) ?_; cbv) | (refine Next.mk (.inr (fun _ => i () + 1, fun _ => 4)) ?_ ?_ ?_)
                  all_goals (try simp only [Unit.unit, Int.ofNat_lt, Int.ofNat_le, BE.val, IE.val, NE.val, ltB_iff, ltB_no, leB_iff, leB_no, Int.toNat_natCast, Nat.zero_add, Nat.add_zero, Nat.mul_one, forced, beq_iff_eq, beq_eq_false_iff_ne, bne_iff_ne, bne_eq_false_iff_eq] at *)
                  all_goals (try simp only [ho0, Nat.zero_add] at *)
                  all_goals first | with_reducible rfl | (refine ⟨by trivial, ?_, hbig⟩; exact hrl) | exact wrap64_nat (by omega) | omega | exact ⟨by decide, steps_4 hi.2.1 hi.2.2.1 hi.2.2.2 h1n (by assumption)⟩ | exact ⟨⟨h1n, good_step hi.1.2 (by assumption)⟩, hi.2⟩ | (exfalso; have hg := hi.1.2; rw [hik] at hg; have h0 := steps_0 hi.2.1 hi.2.2.1 hi.2.2.2 hg; simp_all; done) | rfl
                all_goals (try simp only [Unit.unit, Int.ofNat_lt, Int.ofNat_le, BE.val, IE.val, NE.val, ltB_iff, ltB_no, leB_iff, leB_no, Int.toNat_natCast, Nat.zero_add, Nat.add_zero, Nat.mul_one, forced, beq_iff_eq, beq_eq_false_iff_ne, bne_iff_ne, bne_eq_false_iff_eq] at *)
                all_goals first | (refine ⟨by trivial, ?_, hbig⟩; exact hrl) | exact wrap64_nat (by omega) | omega | exact ⟨by decide, steps_4 hi.2.1 hi.2.2.1 hi.2.2.2 h1n (by assumption)⟩ | exact ⟨⟨h1n, good_step hi.1.2 (by assumption)⟩, hi.2⟩ | (exfalso; have hg := hi.1.2; rw [hik] at hg; have h0 := steps_0 hi.2.1 hi.2.2.1 hi.2.2.2 hg; simp_all; done) | rfl
              · have h1n : (k ⟨⟩).toNat ≤ i ⟨⟩ := le_k h1
                have hik : i ⟨⟩ = (k ⟨⟩).toNat := Nat.le_antisymm hi.1.1 h1n
                cbv
                repeat' first | (refine Ob.mk ?_ ?_; rotate_left; cbv) | (refine Br.mk (fun h => ?_) (fun h => ?_) <;> cbv)
                all_goals (try simp only [Unit.unit, Int.ofNat_lt, Int.ofNat_le, BE.val, IE.val, NE.val, ltB_iff, ltB_no, leB_iff, leB_no, Int.toNat_natCast, Nat.zero_add, Nat.add_zero, Nat.mul_one, forced, beq_iff_eq, beq_eq_false_iff_ne, bne_iff_ne, bne_eq_false_iff_eq] at *)
                all_goals first | with_reducible rfl | (refine ⟨by trivial, ?_, hbig⟩; exact hrl) | exact wrap64_nat (by omega) | omega | exact ⟨by decide, steps_4 hi.2.1 hi.2.2.1 hi.2.2.2 h1n (by assumption)⟩ | exact ⟨⟨h1n, good_step hi.1.2 (by assumption)⟩, hi.2⟩ | (exfalso; have hg := hi.1.2; rw [hik] at hg; have h0 := steps_0 hi.2.1 hi.2.2.1 hi.2.2.2 hg; simp_all; done) | rfl
            · have hi1 : c ⟨⟩ ≠ 0 := hi.1
              have hi2 : stepsC (st ⟨⟩) (sp ⟨⟩) (fd ⟨⟩) (l ⟨⟩) (n ⟨⟩) (tm ⟨⟩) (k ⟨⟩) = c ⟨⟩ := hi.2
              skip
              cbv
              repeat' first
                | (refine Br.mk (fun h => ?_) (fun h => ?_) <;> cbv)
                | (refine Ob.mk ?_ ?_; rotate_left; cbv)
              all_goals (try simp only [Unit.unit, Int.ofNat_lt, Int.ofNat_le, BE.val, IE.val, NE.val, ltB_iff, ltB_no, leB_iff, leB_no, Int.toNat_natCast, Nat.zero_add, Nat.add_zero, Nat.mul_one, forced, beq_iff_eq, beq_eq_false_iff_ne, bne_iff_ne, bne_eq_false_iff_eq] at *)
              all_goals first | with_reducible rfl | exact hi2.symm | (exfalso; simp_all; done)
        · have hyes := Classical.not_not.1 hno
          refine loop_rule (α := (Unit → Nat) ⊕ ((Unit → Nat) × (Unit → Int))) (c := ⟨tt, E76F, 1⟩)
              (fun a => match a with | .inl i => fr 38 [(1, .c (.f .f32 tm)), (2, .c (.i .i64 (.x k))), (3, .c (.p 1 (.l 0))), (6, .c (.p 2 (.l 0))), (8, .c (.i .i64 (.l 0))), (9, .c (.p 4 (.l 0))), (10, .c (.i .i64 (.x fun _ => i ())))] | .inr q => fr 38 [(2, .c (.i .i64 (.x k))), (6, .c (.p 2 (.l 0))), (8, .c (.i .i64 (.x fun _ => q.2 ()))), (10, .c (.i .i64 (.x fun _ => q.1 ())))]) (fun a => match a with | .inl i => [some ⟨false, 0, .fl l⟩, some ⟨true, 0, .lit [.f .f32 st, .f .f32 sp, .f .f32 fd, .sl 0 (.x o) (.x n)]⟩, some ⟨true, 0, .lit [.f .f32 fun _ => 0, .f .f32 fun _ => 0, .f .f32 fun _ => 0, .sn]⟩, some ⟨true, 3, .fl fun _ => runW (st ()) (sp ()) (fd ()) (tm ()) (n ()) (l ()) (i ())⟩, some ⟨true, 0, .lit [.f .f32 st, .f .f32 sp, .f .f32 fd, .sl 3 (.l 0) (.x n)]⟩] | .inr q => [some ⟨false, 0, .fl l⟩, none, some ⟨true, 0, .lit [.f .f32 fun _ => 0, .f .f32 fun _ => 0, .f .f32 fun _ => 0, .sn]⟩])
              (fun a => match a with | .inl i => (i () ≤ (k ()).toNat ∧ allI (goodW (st ()) (sp ()) (fd ()) (tm ()) (n ()) (l ())) (i ()) = true) ∧ (webOk (st ()) (sp ()) (fd ()) (l ()) (n ()) = true ∧ isTime (tm ()) = true ∧ isCount (k ()) = true) | .inr q => q.2 () ≠ 0 ∧ stepsC (st ()) (sp ()) (fd ()) (l ()) (n ()) (tm ()) (k ()) = q.2 ()) (fun a => match a with | .inl i => (k ()).toNat - i () + 1 | .inr q => 0) (fun _ => (k ()).toNat + 2) ?_ ?_
          · refine .mk (.inl fun _ => 0) ⟨⟨Nat.zero_le _, rfl⟩, hyes.1, (by assumption), hyes.2⟩ (by dsimp only; omega) ?_
            cbv
            repeat' (refine Ob.mk ?_ ?_; rotate_left)
            all_goals (try simp only [Unit.unit, Int.ofNat_lt, Int.ofNat_le, BE.val, IE.val, NE.val, ltB_iff, ltB_no, leB_iff, leB_no, Int.toNat_natCast, Nat.zero_add, Nat.add_zero, Nat.mul_one, forced, beq_iff_eq, beq_eq_false_iff_ne, bne_iff_ne, bne_eq_false_iff_eq] at *)
            all_goals first | with_reducible rfl | trivial | exact given_0 (by simp_all) | (rw [given_0 (by simp_all)]; done)
          · rintro (i | ⟨i, c⟩) hi
            · have hrl := runW_len (st ⟨⟩) (sp ⟨⟩) (fd ⟨⟩) (tm ⟨⟩) (n ⟨⟩) (l ⟨⟩) hlen (i ⟨⟩)
              have hk2 : 0 ≤ k ⟨⟩ ∧ k ⟨⟩ ≤ 1000 := count_le hi.2.2.2
              cbv
              refine Br.mk (fun h1 => ?_) (fun h1 => ?_)
              · have h1n : i ⟨⟩ < (k ⟨⟩).toNat := lt_k h1
                cbv
                repeat' (refine Ob.mk ?_ ?_; rotate_left; cbv)
                refine alt_b (fun h => ?_) (fun h => ?_)
                · cbv
                  repeat' first | (refine Ob.mk ?_ ?_; rotate_left; cbv) | (refine Lex.mk (by kernel_rfl) ?_; cbv) | (refine Next.ren [1, 2, 5, 4] (.inl fun _ => i () + 1) ?_ ?_ ?_)
                  all_goals (try simp only [Unit.unit, Int.ofNat_lt, Int.ofNat_le, BE.val, IE.val, NE.val, ltB_iff, ltB_no, leB_iff, leB_no, Int.toNat_natCast, Nat.zero_add, Nat.add_zero, Nat.mul_one, forced, beq_iff_eq, beq_eq_false_iff_ne, bne_iff_ne, bne_eq_false_iff_eq] at *)
                  all_goals (try simp only [ho0, Nat.zero_add] at *)
                  all_goals first | with_reducible rfl | (refine ⟨by trivial, ?_, hbig⟩; exact hrl) | exact wrap64_nat (by omega) | omega | exact ⟨by decide, steps_4 hi.2.1 hi.2.2.1 hi.2.2.2 h1n (by assumption)⟩ | exact ⟨⟨h1n, good_step hi.1.2 (by assumption)⟩, hi.2⟩ | (exfalso; have hg := hi.1.2; rw [hik] at hg; have h0 := steps_0 hi.2.1 hi.2.2.1 hi.2.2.2 hg; simp_all; done) | rfl
                · cbv
                  repeat' first | (refine Ob.mk ?_ ?_; rotate_left; cbv) | (refine Lex.mk (by kernel_rfl) ?_; cbv) | (refine Next.mk (.inr (fun _ => i () + 1, fun _ => 4)) ?_ ?_ ?_)
                  all_goals (try simp only [Unit.unit, Int.ofNat_lt, Int.ofNat_le, BE.val, IE.val, NE.val, ltB_iff, ltB_no, leB_iff, leB_no, Int.toNat_natCast, Nat.zero_add, Nat.add_zero, Nat.mul_one, forced, beq_iff_eq, beq_eq_false_iff_ne, bne_iff_ne, bne_eq_false_iff_eq] at *)
                  all_goals (try simp only [ho0, Nat.zero_add] at *)
                  all_goals first | with_reducible rfl | (refine ⟨by trivial, ?_, hbig⟩; exact hrl) | exact wrap64_nat (by omega) | omega | exact ⟨by decide, steps_4 hi.2.1 hi.2.2.1 hi.2.2.2 h1n (by assumption)⟩ | exact ⟨⟨h1n, good_step hi.1.2 (by assumption)⟩, hi.2⟩ | (exfalso; have hg := hi.1.2; rw [hik] at hg; have h0 := steps_0 hi.2.1 hi.2.2.1 hi.2.2.2 hg; simp_all; done) | rfl
                all_goals (try simp only [Unit.unit, Int.ofNat_lt, Int.ofNat_le, BE.val, IE.val, NE.val, ltB_iff, ltB_no, leB_iff, leB_no, Int.toNat_natCast, Nat.zero_add, Nat.add_zero, Nat.mul_one, forced, beq_iff_eq, beq_eq_false_iff_ne, bne_iff_ne, bne_eq_false_iff_eq] at *)
                all_goals first | (refine ⟨by trivial, ?_, hbig⟩; exact hrl) | exact wrap64_nat (by omega) | omega | exact ⟨by decide, steps_4 hi.2.1 hi.2.2.1 hi.2.2.2 h1n (by assumption)⟩ | exact ⟨⟨h1n, good_step hi.1.2 (by assumption)⟩, hi.2⟩ | (exfalso; have hg := hi.1.2; rw [hik] at hg; have h0 := steps_0 hi.2.1 hi.2.2.1 hi.2.2.2 hg; simp_all; done) | rfl
              · have h1n : (k ⟨⟩).toNat ≤ i ⟨⟩ := le_k h1
                have hik : i ⟨⟩ = (k ⟨⟩).toNat := Nat.le_antisymm hi.1.1 h1n
                cbv
                repeat' first | (refine Ob.mk ?_ ?_; rotate_left; cbv) | (refine Br.mk (fun h => ?_) (fun h => ?_) <;> cbv)
                all_goals (try simp only [Unit.unit, Int.ofNat_lt, Int.ofNat_le, BE.val, IE.val, NE.val, ltB_iff, ltB_no, leB_iff, leB_no, Int.toNat_natCast, Nat.zero_add, Nat.add_zero, Nat.mul_one, forced, beq_iff_eq, beq_eq_false_iff_ne, bne_iff_ne, bne_eq_false_iff_eq] at *)
                all_goals first | with_reducible rfl | (refine ⟨by trivial, ?_, hbig⟩; exact hrl) | exact wrap64_nat (by omega) | omega | exact ⟨by decide, steps_4 hi.2.1 hi.2.2.1 hi.2.2.2 h1n (by assumption)⟩ | exact ⟨⟨h1n, good_step hi.1.2 (by assumption)⟩, hi.2⟩ | (exfalso; have hg := hi.1.2; rw [hik] at hg; have h0 := steps_0 hi.2.1 hi.2.2.1 hi.2.2.2 hg; simp_all; done) | rfl
            · have hi1 : c ⟨⟩ ≠ 0 := hi.1
              have hi2 : stepsC (st ⟨⟩) (sp ⟨⟩) (fd ⟨⟩) (l ⟨⟩) (n ⟨⟩) (tm ⟨⟩) (k ⟨⟩) = c ⟨⟩ := hi.2
              skip
              cbv
              repeat' first
                | (refine Br.mk (fun h => ?_) (fun h => ?_) <;> cbv)
                | (refine Ob.mk ?_ ?_; rotate_left; cbv)
              all_goals (try simp only [Unit.unit, Int.ofNat_lt, Int.ofNat_le, BE.val, IE.val, NE.val, ltB_iff, ltB_no, leB_iff, leB_no, Int.toNat_natCast, Nat.zero_add, Nat.add_zero, Nat.mul_one, forced, beq_iff_eq, beq_eq_false_iff_ne, bne_iff_ne, bne_eq_false_iff_eq] at *)
              all_goals first | with_reducible rfl | exact hi2.symm | (exfalso; simp_all; done)
      · have hno : ¬ (webOk (st ⟨⟩) (sp ⟨⟩) (fd ⟨⟩) (l ⟨⟩) (n ⟨⟩) = true ∧ false = true) := fun e => by cases e.2
        refine loop_rule (α := (Unit → Nat) ⊕ ((Unit → Nat) × (Unit → Int))) (c := ⟨tt, E76F, 1⟩)
            (fun a => match a with | .inl i => fr 38 [(1, .c (.f .f32 tm)), (2, .c (.i .i64 (.x k))), (3, .c (.p 1 (.l 0))), (6, .c (.p 2 (.l 0))), (8, .c (.i .i64 (.l 0))), (9, .c (.p 4 (.l 0))), (10, .c (.i .i64 (.x fun _ => i ())))] | .inr q => fr 38 [(2, .c (.i .i64 (.x k))), (6, .c (.p 2 (.l 0))), (8, .c (.i .i64 (.x fun _ => q.2 ()))), (10, .c (.i .i64 (.x fun _ => q.1 ())))]) (fun a => match a with | .inl i => [some ⟨false, 0, .fl l⟩, some ⟨true, 0, .lit [.f .f32 st, .f .f32 sp, .f .f32 fd, .sl 0 (.x o) (.x n)]⟩, some ⟨true, 0, .lit [.f .f32 fun _ => 0, .f .f32 fun _ => 0, .f .f32 fun _ => 0, .sn]⟩, some ⟨true, 3, .fl fun _ => runW (st ()) (sp ()) (fd ()) (tm ()) (n ()) (l ()) (i ())⟩, some ⟨true, 0, .lit [.f .f32 st, .f .f32 sp, .f .f32 fd, .sl 3 (.l 0) (.x n)]⟩] | .inr q => [some ⟨false, 0, .fl l⟩, none, some ⟨true, 0, .lit [.f .f32 fun _ => 0, .f .f32 fun _ => 0, .f .f32 fun _ => 0, .sn]⟩])
            (fun a => match a with | .inl i => (i () ≤ (k ()).toNat ∧ allI (goodW (st ()) (sp ()) (fd ()) (tm ()) (n ()) (l ())) (i ()) = true) ∧ (webOk (st ()) (sp ()) (fd ()) (l ()) (n ()) = true ∧ isTime (tm ()) = true ∧ isCount (k ()) = true) | .inr q => q.2 () ≠ 0 ∧ stepsC (st ()) (sp ()) (fd ()) (l ()) (n ()) (tm ()) (k ()) = q.2 ()) (fun a => match a with | .inl i => (k ()).toNat - i () + 1 | .inr q => 0) (fun _ => (k ()).toNat + 2) ?_ ?_
        · refine .mk (.inr (fun _ => 0, fun _ => givenC (webOk (st ⟨⟩) (sp ⟨⟩) (fd ⟨⟩) (l ⟨⟩) (n ⟨⟩)) false)) ⟨given_no hno, steps_g (by simp_all) hno⟩ (by dsimp only; omega) ?_
          cbv
          repeat' (refine Ob.mk ?_ ?_; rotate_left)
          all_goals (try simp only [Unit.unit, Int.ofNat_lt, Int.ofNat_le, BE.val, IE.val, NE.val, ltB_iff, ltB_no, leB_iff, leB_no, Int.toNat_natCast, Nat.zero_add, Nat.add_zero, Nat.mul_one, forced, beq_iff_eq, beq_eq_false_iff_ne, bne_iff_ne, bne_eq_false_iff_eq] at *)
          all_goals first | with_reducible rfl | trivial
        · rintro (i | ⟨i, c⟩) hi
          · have hrl := runW_len (st ⟨⟩) (sp ⟨⟩) (fd ⟨⟩) (tm ⟨⟩) (n ⟨⟩) (l ⟨⟩) hlen (i ⟨⟩)
            have hk2 : 0 ≤ k ⟨⟩ ∧ k ⟨⟩ ≤ 1000 := count_le hi.2.2.2
            cbv
            refine Br.mk (fun h1 => ?_) (fun h1 => ?_)
            · have h1n : i ⟨⟩ < (k ⟨⟩).toNat := lt_k h1
              cbv
              repeat' (refine Ob.mk ?_ ?_; rotate_left; cbv)
              refine alt_b (fun h => ?_) (fun h => ?_)
              · cbv
                repeat' first | (refine Ob.mk ?_ ?_; rotate_left; cbv) | (refine Lex.mk (by kernel_rfl) ?_; cbv) | (refine Next.ren [1, 2, 5, 4] (.inl fun _ => i () + 1) ?_ ?_ ?_)
                all_goals (try simp only [Unit.unit, Int.ofNat_lt, Int.ofNat_le, BE.val, IE.val, NE.val, ltB_iff, ltB_no, leB_iff, leB_no, Int.toNat_natCast, Nat.zero_add, Nat.add_zero, Nat.mul_one, forced, beq_iff_eq, beq_eq_false_iff_ne, bne_iff_ne, bne_eq_false_iff_eq] at *)
                all_goals (try simp only [ho0, Nat.zero_add] at *)
                all_goals first | with_reducible rfl | (refine ⟨by trivial, ?_, hbig⟩; exact hrl) | exact wrap64_nat (by omega) | omega | exact ⟨by decide, steps_4 hi.2.1 hi.2.2.1 hi.2.2.2 h1n (by assumption)⟩ | exact ⟨⟨h1n, good_step hi.1.2 (by assumption)⟩, hi.2⟩ | (exfalso; have hg := hi.1.2; rw [hik] at hg; have h0 := steps_0 hi.2.1 hi.2.2.1 hi.2.2.2 hg; simp_all; done) | rfl
              · cbv
                repeat' first | (refine Ob.mk ?_ ?_; rotate_left; cbv) | (refine Lex.mk (by kernel_rfl) ?_; cbv) | (refine Next.mk (.inr (fun _ => i () + 1, fun _ => 4)) ?_ ?_ ?_)
                all_goals (try simp only [Unit.unit, Int.ofNat_lt, Int.ofNat_le, BE.val, IE.val, NE.val, ltB_iff, ltB_no, leB_iff, leB_no, Int.toNat_natCast, Nat.zero_add, Nat.add_zero, Nat.mul_one, forced, beq_iff_eq, beq_eq_false_iff_ne, bne_iff_ne, bne_eq_false_iff_eq] at *)
                all_goals (try simp only [ho0, Nat.zero_add] at *)
                all_goals first | with_reducible rfl | (refine ⟨by trivial, ?_, hbig⟩; exact hrl) | exact wrap64_nat (by omega) | omega | exact ⟨by decide, steps_4 hi.2.1 hi.2.2.1 hi.2.2.2 h1n (by assumption)⟩ | exact ⟨⟨h1n, good_step hi.1.2 (by assumption)⟩, hi.2⟩ | (exfalso; have hg := hi.1.2; rw [hik] at hg; have h0 := steps_0 hi.2.1 hi.2.2.1 hi.2.2.2 hg; simp_all; done) | rfl
              all_goals (try simp only [Unit.unit, Int.ofNat_lt, Int.ofNat_le, BE.val, IE.val, NE.val, ltB_iff, ltB_no, leB_iff, leB_no, Int.toNat_natCast, Nat.zero_add, Nat.add_zero, Nat.mul_one, forced, beq_iff_eq, beq_eq_false_iff_ne, bne_iff_ne, bne_eq_false_iff_eq] at *)
              all_goals first | (refine ⟨by trivial, ?_, hbig⟩; exact hrl) | exact wrap64_nat (by omega) | omega | exact ⟨by decide, steps_4 hi.2.1 hi.2.2.1 hi.2.2.2 h1n (by assumption)⟩ | exact ⟨⟨h1n, good_step hi.1.2 (by assumption)⟩, hi.2⟩ | (exfalso; have hg := hi.1.2; rw [hik] at hg; have h0 := steps_0 hi.2.1 hi.2.2.1 hi.2.2.2 hg; simp_all; done) | rfl
            · have h1n : (k ⟨⟩).toNat ≤ i ⟨⟩ := le_k h1
              have hik : i ⟨⟩ = (k ⟨⟩).toNat := Nat.le_antisymm hi.1.1 h1n
              cbv
              repeat' first | (refine Ob.mk ?_ ?_; rotate_left; cbv) | (refine Br.mk (fun h => ?_) (fun h => ?_) <;> cbv)
              all_goals (try simp only [Unit.unit, Int.ofNat_lt, Int.ofNat_le, BE.val, IE.val, NE.val, ltB_iff, ltB_no, leB_iff, leB_no, Int.toNat_natCast, Nat.zero_add, Nat.add_zero, Nat.mul_one, forced, beq_iff_eq, beq_eq_false_iff_ne, bne_iff_ne, bne_eq_false_iff_eq] at *)
              all_goals first | with_reducible rfl | (refine ⟨by trivial, ?_, hbig⟩; exact hrl) | exact wrap64_nat (by omega) | omega | exact ⟨by decide, steps_4 hi.2.1 hi.2.2.1 hi.2.2.2 h1n (by assumption)⟩ | exact ⟨⟨h1n, good_step hi.1.2 (by assumption)⟩, hi.2⟩ | (exfalso; have hg := hi.1.2; rw [hik] at hg; have h0 := steps_0 hi.2.1 hi.2.2.1 hi.2.2.2 hg; simp_all; done) | rfl
          · have hi1 : c ⟨⟩ ≠ 0 := hi.1
            have hi2 : stepsC (st ⟨⟩) (sp ⟨⟩) (fd ⟨⟩) (l ⟨⟩) (n ⟨⟩) (tm ⟨⟩) (k ⟨⟩) = c ⟨⟩ := hi.2
            skip
            cbv
            repeat' first
              | (refine Br.mk (fun h => ?_) (fun h => ?_) <;> cbv)
              | (refine Ob.mk ?_ ?_; rotate_left; cbv)
            all_goals (try simp only [Unit.unit, Int.ofNat_lt, Int.ofNat_le, BE.val, IE.val, NE.val, ltB_iff, ltB_no, leB_iff, leB_no, Int.toNat_natCast, Nat.zero_add, Nat.add_zero, Nat.mul_one, forced, beq_iff_eq, beq_eq_false_iff_ne, bne_iff_ne, bne_eq_false_iff_eq] at *)
            all_goals first | with_reducible rfl | exact hi2.symm | (exfalso; simp_all; done)
    · cases hs
  · cases hs
theorem marks_full {k : Int} {l : List Nat} {n : Nat} (h : l.length = 3 * n) : (marks k l n).length = 3 * n := by rw [marks_len _ _ (by omega)]; exact h
theorem steps_one {st sp fd : Nat} {l : List Nat} {n tm : Nat} : stepsC st sp fd l n tm 1 = if webOk st sp fd l n then if isTime tm then if webOk st sp fd (stepW st sp fd tm l n) n then 0 else 4 else 2 else 1 := by
  have h1 : isCount 1 = true := by decide
  have h2 : allI (goodW st sp fd tm n l) (1 : Int).toNat = webOk st sp fd (stepW st sp fd tm l n) n := by simp [allI, goodW, runW]
  unfold stepsC
  rw [h1, h2, Bool.and_true]
theorem fn74 : FnOk Try.prog 74 Try.f74 (bodyOf Try.f74) := ⟨Try.func74, rfl, by rfl⟩
def s74T : Spec := hspec fun args H => match args, H with
  | [.a [.f .f32 st, .f .f32 sp, .f .f32 fd, .sl 0 (.x o) (.x n)], .c (.f .f32 tm)], [some ⟨false, 0, x⟩] => match x.toFl with
    | some l => some (.t [.a [.f .f32 st, .f .f32 sp, .f .f32 fd, .sl 1 (.l 0) (.x n)], vI 0], [none, some ⟨true, 3, .fl fun _ => runW (st ()) (sp ()) (fd ()) (tm ()) (n ()) (l ()) 1⟩], [fun _ => (stepsC (st ()) (sp ()) (fd ()) (l ()) (n ()) (tm ()) 1 == 0) = true, fun _ => o () = 0 ∧ (l ()).length = 3 * n () ∧ n () ≤ 1048576])
    | _ => none
  | _, _ => none
def E74T : Env := fun g => envGetL [(106, ⟨true, s106, none⟩), (92, ⟨true, s92, none⟩), (109, ⟨true, sNo, some (s109T, s109F)⟩)] g
theorem E74Tok : EnvOk Try.prog E74T := envOk_cons ok106 (envOk_cons ok92 (envOk_alt ok109T ok109F (envOk_nil _)))
set_option maxRecDepth 100000 in
set_option maxHeartbeats 2000000 in
theorem ok74T : Ok Try.prog 74 (s74T) := ok_of_wpaH (E := E74T) mixed tts E74Tok fn74 fun args H v H' o hs ho => by
  split at hs
  · rename_i st sp fd o n tm x
    split at hs
    · rename_i l hl
      cases hs
      obtain ⟨hc, ⟨ho0, hlen, hbig⟩⟩ := ho.two
      try simp only [Unit.unit] at hc ho0 hlen hbig
      refine ⟨_, HLe.cons (BLe.fl hl) HLe.nil, ?_⟩
      cbv
      repeat' first
        | (refine alt_t (by assumption) ?_; cbv)
        | (refine alt_f (by assumption) ?_; cbv)
        | (refine alt_b (fun h => ?_) (fun h => ?_) <;> cbv)
        | (refine Br.mk (fun h => ?_) (fun h => ?_) <;> cbv)
        | (refine Ob.mk ?_ ?_; rotate_left; cbv)
        | (refine Lex.mk (by kernel_rfl) ?_; cbv)
      all_goals (try simp only [Unit.unit, Int.ofNat_lt, Int.ofNat_le, BE.val, IE.val, NE.val, ltB_iff, ltB_no, leB_iff, leB_no, Int.toNat_natCast, Nat.zero_add, Nat.add_zero, Nat.mul_one, forced, beq_iff_eq, beq_eq_false_iff_ne, bne_iff_ne, bne_eq_false_iff_eq] at *)
      all_goals first | with_reducible rfl | exact ⟨ho0, hlen, hbig⟩ | exact ⟨by trivial, hlen, hbig⟩ | (show stepW _ _ _ _ _ _ = runW _ _ _ _ _ _ 1; rfl) | (exfalso; simp_all [steps_one, givenC]; done) | (simp_all [steps_one, givenC]; done) | grind [steps_one, givenC]
    · cases hs
  · cases hs
def s74F : Spec := hspec fun args H => match args, H with
  | [.a [.f .f32 st, .f .f32 sp, .f .f32 fd, .sl 0 (.x o) (.x n)], .c (.f .f32 tm)], [some ⟨false, 0, x⟩] => match x.toFl with
    | some l => some (.t [.a [.f .f32 fun _ => 0, .f .f32 fun _ => 0, .f .f32 fun _ => 0, .sn], vI (stepsC (st ()) (sp ()) (fd ()) (l ()) (n ()) (tm ()) 1)], [none], [fun _ => (stepsC (st ()) (sp ()) (fd ()) (l ()) (n ()) (tm ()) 1 == 0) = false, fun _ => o () = 0 ∧ (l ()).length = 3 * n () ∧ n () ≤ 1048576])
    | _ => none
  | _, _ => none
def E74F : Env := fun g => envGetL [(106, ⟨true, s106, none⟩), (92, ⟨true, s92, none⟩), (109, ⟨true, sNo, some (s109T, s109F)⟩)] g
theorem E74Fok : EnvOk Try.prog E74F := envOk_cons ok106 (envOk_cons ok92 (envOk_alt ok109T ok109F (envOk_nil _)))
set_option maxRecDepth 100000 in
set_option maxHeartbeats 2000000 in
theorem ok74F : Ok Try.prog 74 (s74F) := ok_of_wpaH (E := E74F) mixed tts E74Fok fn74 fun args H v H' o hs ho => by
  split at hs
  · rename_i st sp fd o n tm x
    split at hs
    · rename_i l hl
      cases hs
      obtain ⟨hc, ⟨ho0, hlen, hbig⟩⟩ := ho.two
      try simp only [Unit.unit] at hc ho0 hlen hbig
      refine ⟨_, HLe.cons (BLe.fl hl) HLe.nil, ?_⟩
      cbv
      repeat' first
        | (refine alt_t (by assumption) ?_; cbv)
        | (refine alt_f (by assumption) ?_; cbv)
        | (refine alt_b (fun h => ?_) (fun h => ?_) <;> cbv)
        | (refine Br.mk (fun h => ?_) (fun h => ?_) <;> cbv)
        | (refine Ob.mk ?_ ?_; rotate_left; cbv)
        | (refine Lex.mk (by kernel_rfl) ?_; cbv)
      all_goals (try simp only [Unit.unit, Int.ofNat_lt, Int.ofNat_le, BE.val, IE.val, NE.val, ltB_iff, ltB_no, leB_iff, leB_no, Int.toNat_natCast, Nat.zero_add, Nat.add_zero, Nat.mul_one, forced, beq_iff_eq, beq_eq_false_iff_ne, bne_iff_ne, bne_eq_false_iff_eq] at *)
      all_goals first | with_reducible rfl | exact ⟨ho0, hlen, hbig⟩ | exact ⟨by trivial, hlen, hbig⟩ | (show stepW _ _ _ _ _ _ = runW _ _ _ _ _ _ 1; rfl) | (exfalso; simp_all [steps_one, givenC]; done) | (simp_all [steps_one, givenC]; done) | grind [steps_one, givenC]
    · cases hs
  · cases hs
end Go.Proofs.Ythkjlbggipocdaa.Sh
