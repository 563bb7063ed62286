/- What the dancers of this seat compute, each shown once. No condition. -/
import Derived.Test.YthkjlbggipocdaaVh
set_option linter.unusedVariables false
set_option linter.unusedSimpArgs false
set_option linter.unusedSectionVars false
namespace Go.Proofs.Ythkjlbggipocdaa.Sh
open Go Go.Proofs
section
variable {st sp fd : Nat} {l : List Nat} {n : Nat} {k : Int} {tg sh tm : Nat} {q : Int}
theorem dance_ok (h : (danceC st sp fd l n k tg sh tm q == 0) = true) : askedC (webOk st sp fd l n) k n = 0 ∧ (isPlain tg && isPlain sh && isTime tm && isCount q) = true ∧ allI (danceG st sp fd tg sh tm k.toNat n l) q.toNat = true := by
  rw [beq_iff_eq] at h
  unfold danceC at h
  split at h
  · rename_i h1
    split at h
    · rename_i h2
      split at h
      · rename_i h3; exact ⟨h1, h2, h3⟩
      · cases h
    · cases h
  · rename_i h1; exact absurd h h1
theorem dance_a (h : ¬ askedC (webOk st sp fd l n) k n = 0) : danceC st sp fd l n k tg sh tm q = askedC (webOk st sp fd l n) k n := by unfold danceC; rw [if_neg h]
theorem dance_2 (h : askedC (webOk st sp fd l n) k n = 0) (h2 : (isPlain tg && isPlain sh && isTime tm && isCount q) = false) : danceC st sp fd l n k tg sh tm q = 2 := by unfold danceC; rw [if_pos h, h2]; rfl
theorem dance_4 (h : askedC (webOk st sp fd l n) k n = 0) (h2 : (isPlain tg && isPlain sh && isTime tm && isCount q) = true) {i : Nat} (hi : i < q.toNat) (hg : danceG st sp fd tg sh tm k.toNat n l i = false) : danceC st sp fd l n k tg sh tm q = 4 := by
  have : allI (danceG st sp fd tg sh tm k.toNat n l) q.toNat = false := allI_no hi hg
  unfold danceC; rw [if_pos h, h2, this]; rfl
theorem dance_0 (h : askedC (webOk st sp fd l n) k n = 0) (h2 : (isPlain tg && isPlain sh && isTime tm && isCount q) = true) (hg : allI (danceG st sp fd tg sh tm k.toNat n l) q.toNat = true) : danceC st sp fd l n k tg sh tm q = 0 := by
  unfold danceC; rw [if_pos h, h2, hg]; rfl
theorem dg_no1 {j i : Nat} (h : webOk st sp fd (danceL tg sh j (danceN st sp fd tg sh tm j n l i)) n = false) : danceG st sp fd tg sh tm j n l i = false := by unfold danceG danceOk; rw [h]; rfl
theorem dg_no2 {j i : Nat} (h : webOk st sp fd (stepW st sp fd tm (danceL tg sh j (danceN st sp fd tg sh tm j n l i)) n) n = false) : danceG st sp fd tg sh tm j n l i = false := by
  unfold danceG danceOk; rw [show danceW st sp fd tg sh tm j n (danceN st sp fd tg sh tm j n l i) = stepW st sp fd tm (danceL tg sh j (danceN st sp fd tg sh tm j n l i)) n from rfl, h, Bool.and_false]
theorem dg_yes {j i : Nat} (h : webOk st sp fd (danceL tg sh j (danceN st sp fd tg sh tm j n l i)) n = true) (h2 : webOk st sp fd (stepW st sp fd tm (danceL tg sh j (danceN st sp fd tg sh tm j n l i)) n) n = true) : danceG st sp fd tg sh tm j n l i = true := by
  unfold danceG danceOk; rw [show danceW st sp fd tg sh tm j n (danceN st sp fd tg sh tm j n l i) = stepW st sp fd tm (danceL tg sh j (danceN st sp fd tg sh tm j n l i)) n from rfl, h, h2]; rfl
theorem dg_1 {j i : Nat} (h : danceG st sp fd tg sh tm j n l i = true) : webOk st sp fd (danceL tg sh j (danceN st sp fd tg sh tm j n l i)) n = true := by
  cases e : webOk st sp fd (danceL tg sh j (danceN st sp fd tg sh tm j n l i)) n
  · rw [dg_no1 e] at h; cases h
  · rfl
theorem dg_2 {j i : Nat} (h : danceG st sp fd tg sh tm j n l i = true) : webOk st sp fd (stepW st sp fd tm (danceL tg sh j (danceN st sp fd tg sh tm j n l i)) n) n = true := by
  cases e : webOk st sp fd (stepW st sp fd tm (danceL tg sh j (danceN st sp fd tg sh tm j n l i)) n) n
  · rw [dg_no2 e] at h; cases h
  · rfl
theorem dall {j i : Nat} (h : allI (danceG st sp fd tg sh tm j n l) i = true) (hg : danceG st sp fd tg sh tm j n l i = true) : allI (danceG st sp fd tg sh tm j n l) (i + 1) = true := by
  simp only [allI, h, hg]; rfl
theorem stepW_len {tm : Nat} (h : l.length = 3 * n) : (stepW st sp fd tm l n).length = 3 * n := by unfold stepW; rw [tenTo_len _ _ (by omega)]; exact h
theorem danceL_len {i : Nat} (h : l.length = 3 * n) : (danceL tg sh i l).length = 3 * n := by unfold danceL; simp [h]
theorem danceN_len {j : Nat} (h : l.length = 3 * n) : ∀ i, (danceN st sp fd tg sh tm j n l i).length = 3 * n
  | 0 => h
  | i + 1 => stepW_len (danceL_len (danceN_len h i))
theorem fine4 (h : (isPlain tg && isPlain sh && isTime tm && isCount q) = true) : isPlain tg = true ∧ isPlain sh = true ∧ isTime tm = true ∧ isCount q = true := by
  simp only [Bool.and_eq_true] at h; exact ⟨h.1.1.1, h.1.1.2, h.1.2, h.2⟩
end
theorem fn81 : FnOk Try.prog 81 Try.f81 (bodyOf Try.f81) := ⟨Try.func81, rfl, by rfl⟩
def s81T : Spec := hspec fun args H => match args, H with
  | [.a [.f .f32 st, .f .f32 sp, .f .f32 fd, .sl 0 (.x o) (.x n)], .c (.i .i64 (.x k)), .c (.f .f32 tg), .c (.f .f32 sh), .c (.f .f32 tm), .c (.i .i64 (.x q))], [some ⟨false, 0, x⟩] => match x.toFl with
    | some l => some (.t [.a [.f .f32 st, .f .f32 sp, .f .f32 fd, .sl 1 (.l 0) (.x n)], vI 0], [none, some ⟨true, 3, .fl fun _ => danceN (st ()) (sp ()) (fd ()) (tg ()) (sh ()) (tm ()) (k ()).toNat (n ()) (l ()) (q ()).toNat⟩], [fun _ => (danceC (st ()) (sp ()) (fd ()) (l ()) (n ()) (k ()) (tg ()) (sh ()) (tm ()) (q ()) == 0) = true, fun _ => o () = 0 ∧ (l ()).length = 3 * n () ∧ n () ≤ 1048576])
    | _ => none
  | _, _ => none
def E81T : Env := fun g => envGetL [(110, ⟨true, s110, none⟩), (90, ⟨true, s90, none⟩), (101, ⟨true, s101, none⟩), (103, ⟨true, s103, none⟩), (88, ⟨true, s88, none⟩), (91, ⟨true, s91, none⟩), (51, ⟨true, s51, none⟩), (105, ⟨true, s105, none⟩)] g
theorem E81Tok : EnvOk Try.prog E81T := envOk_cons ok110 (envOk_cons ok90 (envOk_cons ok101 (envOk_cons ok103 (envOk_cons ok88 (envOk_cons ok91 (envOk_cons ok51 (envOk_cons ok105 (envOk_nil _))))))))
set_option maxRecDepth 100000 in
set_option maxHeartbeats 4000000 in
theorem ok81T : Ok Try.prog 81 (s81T) := ok_of_wpaH (E := E81T) mixed tts E81Tok fn81 fun args H v H' o hs ho => by
  split at hs
  · rename_i st sp fd o n k tg sh tm q x
    split at hs
    · rename_i l hl
      cases hs
      obtain ⟨hc, ⟨ho0, hlen, hbig⟩⟩ := ho.two
      try simp only [Unit.unit] at hc ho0 hlen hbig
      have hok := dance_ok hc
      refine ⟨_, HLe.cons (BLe.fl hl) HLe.nil, ?_⟩
      by_cases ha : askedC (webOk (st ⟨⟩) (sp ⟨⟩) (fd ⟨⟩) (l ⟨⟩) (n ⟨⟩)) (k ⟨⟩) (n ⟨⟩) = 0
      rotate_left
      · exact absurd hok.1 ha
      by_cases hf : (isPlain (tg ⟨⟩) && isPlain (sh ⟨⟩) && isTime (tm ⟨⟩) && isCount (q ⟨⟩)) = true
      rotate_left
      · exact absurd hok.2.1 hf
      obtain ⟨hf1, hf2, hf3, hf4⟩ := fine4 hf
      have hq2 := count_le hf4
      have hkn := (asked_ok ha).2
      cbv
      repeat' first
        | (refine Br.mk (fun h => ?_) (fun h => ?_) <;> cbv)
        | (refine Ob.mk ?_ ?_; rotate_left; cbv)
      all_goals try (first | exact ⟨ho0, hlen, hbig⟩ | (exfalso; simp only [Unit.unit, Int.ofNat_lt, Int.ofNat_le, BE.val, IE.val, NE.val, ltB_iff, ltB_no, leB_iff, leB_no, Int.toNat_natCast, Nat.zero_add, Nat.add_zero, Nat.mul_one, forced, beq_iff_eq, beq_eq_false_iff_ne, bne_iff_ne, bne_eq_false_iff_eq] at *; simp_all; done))
      refine loop_rule (α := Unit → Nat) (c := ⟨tt, E81T, 1⟩)
          (fun i => fr 86 [(1, .c (.i .i64 (.x k))), (2, .c (.f .f32 tg)), (3, .c (.f .f32 sh)), (4, .c (.f .f32 tm)), (6, .c (.p 1 (.l 0))), (12, .c (.p 2 (.l 0))), (15, .c (.p 4 (.l 0))), (47, .c (.i .i64 (.x q))), (48, .c (.i .i64 (.x fun _ => i ())))]) (fun i => [some ⟨false, 0, .fl l⟩, some ⟨true, 0, .lit [.f .f32 st, .f .f32 sp, .f .f32 fd, .sl 0 (.x o) (.x n)]⟩, some ⟨true, 0, .lit [.f .f32 fun _ => 0, .f .f32 fun _ => 0, .f .f32 fun _ => 0, .sn]⟩, some ⟨true, 3, .fl fun _ => danceN (st ()) (sp ()) (fd ()) (tg ()) (sh ()) (tm ()) (k ()).toNat (n ()) (l ()) (i ())⟩, some ⟨true, 0, .lit [.f .f32 st, .f .f32 sp, .f .f32 fd, .sl 3 (.l 0) (.x n)]⟩])
          (fun i => i () ≤ (q ()).toNat ∧ allI (danceG (st ()) (sp ()) (fd ()) (tg ()) (sh ()) (tm ()) (k ()).toNat (n ()) (l ())) (i ()) = true) (fun i => (q ()).toNat - i ()) (fun _ => (q ()).toNat + 1) ?_ ?_
      · refine .mk (fun _ => 0) ⟨Nat.zero_le _, rfl⟩ (by dsimp only; omega) ?_
        cbv
        repeat' (refine Ob.mk ?_ ?_; rotate_left)
        all_goals (try simp only [Unit.unit, Int.ofNat_lt, Int.ofNat_le, BE.val, IE.val, NE.val, ltB_iff, ltB_no, leB_iff, leB_no, Int.toNat_natCast, Nat.zero_add, Nat.add_zero, Nat.mul_one, forced, beq_iff_eq, beq_eq_false_iff_ne, bne_iff_ne, bne_eq_false_iff_eq] at *)
        all_goals first | with_reducible rfl | trivial
      · intro i hi
        have hrl := danceN_len (st := st ⟨⟩) (sp := sp ⟨⟩) (fd := fd ⟨⟩) (tg := tg ⟨⟩) (sh := sh ⟨⟩) (tm := tm ⟨⟩) (j := (k ⟨⟩).toNat) hlen (i ⟨⟩)
        cbv
        refine Br.mk (fun h1 => ?_) (fun h1 => ?_)
        · have h1n : i ⟨⟩ < (q ⟨⟩).toNat := lt_k h1
          cbv
          repeat' first
            | (refine alt_t (by assumption) ?_; cbv)
            | (refine alt_f (by assumption) ?_; cbv)
            | (refine alt_b (fun h => ?_) (fun h => ?_) <;> cbv)
            | (refine Br.mk (fun h => ?_) (fun h => ?_) <;> cbv)
            | (refine Ob.mk ?_ ?_; rotate_left; cbv)
            | (refine Lex.tail 16 (by decide +kernel) ?_; cbv)
            | (refine Next.ren [1, 2, 5, 4] (fun _ => i () + 1) ?_ ?_ ?_)
          all_goals (try simp only [Unit.unit, Int.ofNat_lt, Int.ofNat_le, BE.val, IE.val, NE.val, ltB_iff, ltB_no, leB_iff, leB_no, Int.toNat_natCast, Nat.zero_add, Nat.add_zero, Nat.mul_one, forced, beq_iff_eq, beq_eq_false_iff_ne, bne_iff_ne, bne_eq_false_iff_eq] at *)
          all_goals (try simp only [ho0, Nat.zero_add] at *)
          all_goals first | with_reducible rfl | omega | (refine ⟨by trivial, ?_, hbig⟩; first | exact hrl | exact danceL_len hrl) | exact kn hkn | (rw [hrl]; omega) | (simp only [List.length_set]; rw [hrl]; omega) | exact wrap64_nat (by omega) | (exfalso; have hg := allI_at hok.2.2 h1n; first | (have h0 := dg_1 hg; revert h0; show webOk _ _ _ (List.set _ _ _) _ = true → False; simp_all; done) | (have h0 := dg_2 hg; revert h0; show webOk _ _ _ (stepW _ _ _ _ (List.set _ _ _) _) _ = true → False; simp_all; done)) | exact ⟨h1n, dall hi.2 (allI_at hok.2.2 h1n)⟩ | (rw [hik]; done) | rfl
        · have h1n : (q ⟨⟩).toNat ≤ i ⟨⟩ := le_k h1
          have hik : i ⟨⟩ = (q ⟨⟩).toNat := Nat.le_antisymm hi.1 h1n
          cbv
          repeat' first
            | (refine alt_t (by assumption) ?_; cbv)
            | (refine alt_f (by assumption) ?_; cbv)
            | (refine alt_b (fun h => ?_) (fun h => ?_) <;> cbv)
            | (refine Br.mk (fun h => ?_) (fun h => ?_) <;> cbv)
            | (refine Ob.mk ?_ ?_; rotate_left; cbv)
            | (refine Lex.tail 16 (by decide +kernel) ?_; cbv)
            | (refine Next.ren [1, 2, 5, 4] (fun _ => i () + 1) ?_ ?_ ?_)
          all_goals (try simp only [Unit.unit, Int.ofNat_lt, Int.ofNat_le, BE.val, IE.val, NE.val, ltB_iff, ltB_no, leB_iff, leB_no, Int.toNat_natCast, Nat.zero_add, Nat.add_zero, Nat.mul_one, forced, beq_iff_eq, beq_eq_false_iff_ne, bne_iff_ne, bne_eq_false_iff_eq] at *)
          all_goals (try simp only [ho0, Nat.zero_add] at *)
          all_goals first | with_reducible rfl | omega | (refine ⟨by trivial, ?_, hbig⟩; first | exact hrl | exact danceL_len hrl) | exact kn hkn | (rw [hrl]; omega) | (simp only [List.length_set]; rw [hrl]; omega) | exact wrap64_nat (by omega) | (exfalso; have hg := allI_at hok.2.2 h1n; first | (have h0 := dg_1 hg; revert h0; show webOk _ _ _ (List.set _ _ _) _ = true → False; simp_all; done) | (have h0 := dg_2 hg; revert h0; show webOk _ _ _ (stepW _ _ _ _ (List.set _ _ _) _) _ = true → False; simp_all; done)) | exact ⟨h1n, dall hi.2 (allI_at hok.2.2 h1n)⟩ | (rw [hik]; done) | rfl
    · cases hs
  · cases hs
def s81F : Spec := hspec fun args H => match args, H with
  | [.a [.f .f32 st, .f .f32 sp, .f .f32 fd, .sl 0 (.x o) (.x n)], .c (.i .i64 (.x k)), .c (.f .f32 tg), .c (.f .f32 sh), .c (.f .f32 tm), .c (.i .i64 (.x q))], [some ⟨false, 0, x⟩] => match x.toFl with
    | some l => some (.t [.a [.f .f32 fun _ => 0, .f .f32 fun _ => 0, .f .f32 fun _ => 0, .sn], vI (danceC (st ()) (sp ()) (fd ()) (l ()) (n ()) (k ()) (tg ()) (sh ()) (tm ()) (q ()))], [none], [fun _ => (danceC (st ()) (sp ()) (fd ()) (l ()) (n ()) (k ()) (tg ()) (sh ()) (tm ()) (q ()) == 0) = false, fun _ => o () = 0 ∧ (l ()).length = 3 * n () ∧ n () ≤ 1048576])
    | _ => none
  | _, _ => none
def E81F : Env := fun g => envGetL [(110, ⟨true, s110, none⟩), (90, ⟨true, s90, none⟩), (101, ⟨true, s101, none⟩), (103, ⟨true, s103, none⟩), (88, ⟨true, s88, none⟩), (91, ⟨true, s91, none⟩), (51, ⟨true, s51, none⟩), (105, ⟨true, s105, none⟩)] g
theorem E81Fok : EnvOk Try.prog E81F := envOk_cons ok110 (envOk_cons ok90 (envOk_cons ok101 (envOk_cons ok103 (envOk_cons ok88 (envOk_cons ok91 (envOk_cons ok51 (envOk_cons ok105 (envOk_nil _))))))))
set_option maxRecDepth 100000 in
set_option maxHeartbeats 4000000 in
theorem ok81F : Ok Try.prog 81 (s81F) := ok_of_wpaH (E := E81F) mixed tts E81Fok fn81 fun args H v H' o hs ho => by
  split at hs
  · rename_i st sp fd o n k tg sh tm q x
    split at hs
    · rename_i l hl
      cases hs
      obtain ⟨hc, ⟨ho0, hlen, hbig⟩⟩ := ho.two
      try simp only [Unit.unit] at hc ho0 hlen hbig
      refine ⟨_, HLe.cons (BLe.fl hl) HLe.nil, ?_⟩
      by_cases ha : askedC (webOk (st ⟨⟩) (sp ⟨⟩) (fd ⟨⟩) (l ⟨⟩) (n ⟨⟩)) (k ⟨⟩) (n ⟨⟩) = 0
      rotate_left
      · have hda := dance_a (tg := tg ⟨⟩) (sh := sh ⟨⟩) (tm := tm ⟨⟩) (q := q ⟨⟩) ha
        cbv
        repeat' first
          | (refine Br.mk (fun h => ?_) (fun h => ?_) <;> cbv)
          | (refine Ob.mk ?_ ?_; rotate_left; cbv)
        all_goals (try simp only [Unit.unit, Int.ofNat_lt, Int.ofNat_le, BE.val, IE.val, NE.val, ltB_iff, ltB_no, leB_iff, leB_no, Int.toNat_natCast, Nat.zero_add, Nat.add_zero, Nat.mul_one, forced, beq_iff_eq, beq_eq_false_iff_ne, bne_iff_ne, bne_eq_false_iff_eq] at *)
        all_goals first | with_reducible rfl | exact ⟨ho0, hlen, hbig⟩ | (rw [hda]; done) | (exfalso; simp_all; done)
      by_cases hf : (isPlain (tg ⟨⟩) && isPlain (sh ⟨⟩) && isTime (tm ⟨⟩) && isCount (q ⟨⟩)) = true
      rotate_left
      · have hd2 := dance_2 ha (by simpa using hf)
        cbv
        repeat' first
          | (refine Br.mk (fun h => ?_) (fun h => ?_) <;> cbv)
          | (refine Ob.mk ?_ ?_; rotate_left; cbv)
        all_goals (try simp only [Unit.unit, Int.ofNat_lt, Int.ofNat_le, BE.val, IE.val, NE.val, ltB_iff, ltB_no, leB_iff, leB_no, Int.toNat_natCast, Nat.zero_add, Nat.add_zero, Nat.mul_one, forced, beq_iff_eq, beq_eq_false_iff_ne, bne_iff_ne, bne_eq_false_iff_eq] at *)
        all_goals first | with_reducible rfl | exact ⟨ho0, hlen, hbig⟩ | (rw [hd2]; done) | (exfalso; simp_all; done)
      obtain ⟨hf1, hf2, hf3, hf4⟩ := fine4 hf
      have hq2 := count_le hf4
      have hkn := (asked_ok ha).2
      cbv
      repeat' first
        | (refine Br.mk (fun h => ?_) (fun h => ?_) <;> cbv)
        | (refine Ob.mk ?_ ?_; rotate_left; cbv)
      all_goals try (first | exact ⟨ho0, hlen, hbig⟩ | (exfalso; simp only [Unit.unit, Int.ofNat_lt, Int.ofNat_le, BE.val, IE.val, NE.val, ltB_iff, ltB_no, leB_iff, leB_no, Int.toNat_natCast, Nat.zero_add, Nat.add_zero, Nat.mul_one, forced, beq_iff_eq, beq_eq_false_iff_ne, bne_iff_ne, bne_eq_false_iff_eq] at *; simp_all; done))
      refine loop_rule (α := Unit → Nat) (c := ⟨tt, E81F, 1⟩)
          (fun i => fr 86 [(1, .c (.i .i64 (.x k))), (2, .c (.f .f32 tg)), (3, .c (.f .f32 sh)), (4, .c (.f .f32 tm)), (6, .c (.p 1 (.l 0))), (12, .c (.p 2 (.l 0))), (15, .c (.p 4 (.l 0))), (47, .c (.i .i64 (.x q))), (48, .c (.i .i64 (.x fun _ => i ())))]) (fun i => [some ⟨false, 0, .fl l⟩, some ⟨true, 0, .lit [.f .f32 st, .f .f32 sp, .f .f32 fd, .sl 0 (.x o) (.x n)]⟩, some ⟨true, 0, .lit [.f .f32 fun _ => 0, .f .f32 fun _ => 0, .f .f32 fun _ => 0, .sn]⟩, some ⟨true, 3, .fl fun _ => danceN (st ()) (sp ()) (fd ()) (tg ()) (sh ()) (tm ()) (k ()).toNat (n ()) (l ()) (i ())⟩, some ⟨true, 0, .lit [.f .f32 st, .f .f32 sp, .f .f32 fd, .sl 3 (.l 0) (.x n)]⟩])
          (fun i => i () ≤ (q ()).toNat ∧ allI (danceG (st ()) (sp ()) (fd ()) (tg ()) (sh ()) (tm ()) (k ()).toNat (n ()) (l ())) (i ()) = true) (fun i => (q ()).toNat - i ()) (fun _ => (q ()).toNat + 1) ?_ ?_
      · refine .mk (fun _ => 0) ⟨Nat.zero_le _, rfl⟩ (by dsimp only; omega) ?_
        cbv
        repeat' (refine Ob.mk ?_ ?_; rotate_left)
        all_goals (try simp only [Unit.unit, Int.ofNat_lt, Int.ofNat_le, BE.val, IE.val, NE.val, ltB_iff, ltB_no, leB_iff, leB_no, Int.toNat_natCast, Nat.zero_add, Nat.add_zero, Nat.mul_one, forced, beq_iff_eq, beq_eq_false_iff_ne, bne_iff_ne, bne_eq_false_iff_eq] at *)
        all_goals first | with_reducible rfl | trivial
      · intro i hi
        have hrl := danceN_len (st := st ⟨⟩) (sp := sp ⟨⟩) (fd := fd ⟨⟩) (tg := tg ⟨⟩) (sh := sh ⟨⟩) (tm := tm ⟨⟩) (j := (k ⟨⟩).toNat) hlen (i ⟨⟩)
        cbv
        refine Br.mk (fun h1 => ?_) (fun h1 => ?_)
        · have h1n : i ⟨⟩ < (q ⟨⟩).toNat := lt_k h1
          cbv
          repeat' first
            | (refine alt_t (by assumption) ?_; cbv)
            | (refine alt_f (by assumption) ?_; cbv)
            | (refine alt_b (fun h => ?_) (fun h => ?_) <;> cbv)
            | (refine Br.mk (fun h => ?_) (fun h => ?_) <;> cbv)
            | (refine Ob.mk ?_ ?_; rotate_left; cbv)
            | (refine Lex.tail 16 (by decide +kernel) ?_; cbv)
            | (refine Next.ren [1, 2, 5, 4] (fun _ => i () + 1) ?_ ?_ ?_)
          all_goals (try simp only [Unit.unit, Int.ofNat_lt, Int.ofNat_le, BE.val, IE.val, NE.val, ltB_iff, ltB_no, leB_iff, leB_no, Int.toNat_natCast, Nat.zero_add, Nat.add_zero, Nat.mul_one, forced, beq_iff_eq, beq_eq_false_iff_ne, bne_iff_ne, bne_eq_false_iff_eq] at *)
          all_goals (try simp only [ho0, Nat.zero_add] at *)
          all_goals first | with_reducible rfl | omega | (refine ⟨by trivial, ?_, hbig⟩; first | exact hrl | exact danceL_len hrl) | exact kn hkn | (rw [hrl]; omega) | (simp only [List.length_set]; rw [hrl]; omega) | exact wrap64_nat (by omega) | exact (dance_4 ha hf h1n (dg_no1 (not_t (by assumption)))).symm | exact (dance_4 ha hf h1n (dg_no2 (not_t (by assumption)))).symm | exact ⟨h1n, dall hi.2 (dg_yes (not_f (by assumption)) (not_f (by assumption)))⟩ | (exfalso; rw [hik] at hi; have h0 := dance_0 ha hf hi.2; simp_all; done) | rfl
        · have h1n : (q ⟨⟩).toNat ≤ i ⟨⟩ := le_k h1
          have hik : i ⟨⟩ = (q ⟨⟩).toNat := Nat.le_antisymm hi.1 h1n
          cbv
          repeat' first
            | (refine alt_t (by assumption) ?_; cbv)
            | (refine alt_f (by assumption) ?_; cbv)
            | (refine alt_b (fun h => ?_) (fun h => ?_) <;> cbv)
            | (refine Br.mk (fun h => ?_) (fun h => ?_) <;> cbv)
            | (refine Ob.mk ?_ ?_; rotate_left; cbv)
            | (refine Lex.tail 16 (by decide +kernel) ?_; cbv)
            | (refine Next.ren [1, 2, 5, 4] (fun _ => i () + 1) ?_ ?_ ?_)
          all_goals (try simp only [Unit.unit, Int.ofNat_lt, Int.ofNat_le, BE.val, IE.val, NE.val, ltB_iff, ltB_no, leB_iff, leB_no, Int.toNat_natCast, Nat.zero_add, Nat.add_zero, Nat.mul_one, forced, beq_iff_eq, beq_eq_false_iff_ne, bne_iff_ne, bne_eq_false_iff_eq] at *)
          all_goals (try simp only [ho0, Nat.zero_add] at *)
          all_goals first | with_reducible rfl | omega | (refine ⟨by trivial, ?_, hbig⟩; first | exact hrl | exact danceL_len hrl) | exact kn hkn | (rw [hrl]; omega) | (simp only [List.length_set]; rw [hrl]; omega) | exact wrap64_nat (by omega) | exact (dance_4 ha hf h1n (dg_no1 (not_t (by assumption)))).symm | exact (dance_4 ha hf h1n (dg_no2 (not_t (by assumption)))).symm | exact ⟨h1n, dall hi.2 (dg_yes (not_f (by assumption)) (not_f (by assumption)))⟩ | (exfalso; rw [hik] at hi; have h0 := dance_0 ha hf hi.2; simp_all; done) | rfl
    · cases hs
  · cases hs
theorem fn79 : FnOk Try.prog 79 Try.f79 (bodyOf Try.f79) := ⟨Try.func79, rfl, by rfl⟩
def s79T : Spec := hspec fun args H => match args, H with
  | [.a [.f .f32 st, .f .f32 sp, .f .f32 fd, .sl 0 (.x o) (.x n)], .c (.i .i64 (.x k)), .c (.f .f32 tg), .c (.f .f32 sh), .c (.f .f32 tm)], [some ⟨false, 0, x⟩] => match x.toFl with
    | some l => some (.t [.a [.f .f32 st, .f .f32 sp, .f .f32 fd, .sl 1 (.l 0) (.x n)], vI 0], [none, some ⟨true, 3, .fl fun _ => danceN (st ()) (sp ()) (fd ()) (tg ()) (sh ()) (tm ()) (k ()).toNat (n ()) (l ()) 1⟩], [fun _ => (danceC (st ()) (sp ()) (fd ()) (l ()) (n ()) (k ()) (tg ()) (sh ()) (tm ()) 1 == 0) = true, fun _ => o () = 0 ∧ (l ()).length = 3 * n () ∧ n () ≤ 1048576])
    | _ => none
  | _, _ => none
def E79T : Env := fun g => envGetL [(81, ⟨true, sNo, some (s81T, s81F)⟩)] g
theorem E79Tok : EnvOk Try.prog E79T := envOk_alt ok81T ok81F (envOk_nil _)
set_option maxRecDepth 100000 in
set_option maxHeartbeats 2000000 in
theorem ok79T : Ok Try.prog 79 (s79T) := ok_of_wpaH (E := E79T) mixed tts E79Tok fn79 fun args H v H' o hs ho => by
  split at hs
  · rename_i st sp fd o n k tg sh tm x
    split at hs
    · rename_i l hl
      cases hs
      obtain ⟨hc, ⟨ho0, hlen, hbig⟩⟩ := ho.two
      try simp only [Unit.unit] at hc ho0 hlen hbig
      refine ⟨_, HLe.cons (BLe.fl hl) HLe.nil, ?_⟩
      cbv
      repeat' first
        | (refine alt_t (by assumption) ?_; cbv)
        | (refine alt_f (by assumption) ?_; cbv)
        | (refine alt_b (fun h => ?_) (fun h => ?_) <;> cbv)
        | (refine Br.mk (fun h => ?_) (fun h => ?_) <;> cbv)
        | (refine Ob.mk ?_ ?_; rotate_left; cbv)
        | (refine Lex.mk (by kernel_rfl) ?_; cbv)
      all_goals (try simp only [Unit.unit, Int.ofNat_lt, Int.ofNat_le, BE.val, IE.val, NE.val, ltB_iff, ltB_no, leB_iff, leB_no, Int.toNat_natCast, Nat.zero_add, Nat.add_zero, Nat.mul_one, forced, beq_iff_eq, beq_eq_false_iff_ne, bne_iff_ne, bne_eq_false_iff_eq] at *)
      all_goals first | with_reducible rfl | exact ⟨ho0, hlen, hbig⟩ | exact ⟨by trivial, hlen, hbig⟩ | exact hc | (simp_all; done)
    · cases hs
  · cases hs
def s79F : Spec := hspec fun args H => match args, H with
  | [.a [.f .f32 st, .f .f32 sp, .f .f32 fd, .sl 0 (.x o) (.x n)], .c (.i .i64 (.x k)), .c (.f .f32 tg), .c (.f .f32 sh), .c (.f .f32 tm)], [some ⟨false, 0, x⟩] => match x.toFl with
    | some l => some (.t [.a [.f .f32 fun _ => 0, .f .f32 fun _ => 0, .f .f32 fun _ => 0, .sn], vI (danceC (st ()) (sp ()) (fd ()) (l ()) (n ()) (k ()) (tg ()) (sh ()) (tm ()) 1)], [none], [fun _ => (danceC (st ()) (sp ()) (fd ()) (l ()) (n ()) (k ()) (tg ()) (sh ()) (tm ()) 1 == 0) = false, fun _ => o () = 0 ∧ (l ()).length = 3 * n () ∧ n () ≤ 1048576])
    | _ => none
  | _, _ => none
def E79F : Env := fun g => envGetL [(81, ⟨true, sNo, some (s81T, s81F)⟩)] g
theorem E79Fok : EnvOk Try.prog E79F := envOk_alt ok81T ok81F (envOk_nil _)
set_option maxRecDepth 100000 in
set_option maxHeartbeats 2000000 in
theorem ok79F : Ok Try.prog 79 (s79F) := ok_of_wpaH (E := E79F) mixed tts E79Fok fn79 fun args H v H' o hs ho => by
  split at hs
  · rename_i st sp fd o n k tg sh tm x
    split at hs
    · rename_i l hl
      cases hs
      obtain ⟨hc, ⟨ho0, hlen, hbig⟩⟩ := ho.two
      try simp only [Unit.unit] at hc ho0 hlen hbig
      refine ⟨_, HLe.cons (BLe.fl hl) HLe.nil, ?_⟩
      cbv
      repeat' first
        | (refine alt_t (by assumption) ?_; cbv)
        | (refine alt_f (by assumption) ?_; cbv)
        | (refine alt_b (fun h => ?_) (fun h => ?_) <;> cbv)
        | (refine Br.mk (fun h => ?_) (fun h => ?_) <;> cbv)
        | (refine Ob.mk ?_ ?_; rotate_left; cbv)
        | (refine Lex.mk (by kernel_rfl) ?_; cbv)
      all_goals (try simp only [Unit.unit, Int.ofNat_lt, Int.ofNat_le, BE.val, IE.val, NE.val, ltB_iff, ltB_no, leB_iff, leB_no, Int.toNat_natCast, Nat.zero_add, Nat.add_zero, Nat.mul_one, forced, beq_iff_eq, beq_eq_false_iff_ne, bne_iff_ne, bne_eq_false_iff_eq] at *)
      all_goals first | with_reducible rfl | exact ⟨ho0, hlen, hbig⟩ | exact ⟨by trivial, hlen, hbig⟩ | exact hc | (simp_all; done)
    · cases hs
  · cases hs
def preD (a : Int) (f : Bool) : Int := if a = 0 then if f then 0 else 2 else a
theorem preD_0 {a : Int} {f : Bool} (h : a = 0 ∧ f = true) : preD a f = 0 := by simp [preD, h.1, h.2]
theorem preD_a {a : Int} {f : Bool} (h : preD a f = 0) : a = 0 := by
  unfold preD at h
  split at h
  · assumption
  · exact h
theorem preD_no {a : Int} {f : Bool} (h : ¬ (a = 0 ∧ f = true)) : preD a f ≠ 0 := by
  unfold preD
  split
  · rename_i ha
    split
    · rename_i hf; exact absurd ⟨ha, hf⟩ h
    · decide
  · assumption
theorem dance_pre {st sp fd : Nat} {l : List Nat} {n : Nat} {k : Int} {tg sh tm : Nat} {q : Int} (h : ¬ (askedC (webOk st sp fd l n) k n = 0 ∧ (isPlain tg && isPlain sh && isTime tm && isCount q) = true)) :
    danceC st sp fd l n k tg sh tm q = preD (askedC (webOk st sp fd l n) k n) (isPlain tg && isPlain sh && isTime tm && isCount q) := by
  unfold preD
  split
  · rename_i ha
    split
    · rename_i hf; exact absurd ⟨ha, hf⟩ h
    · rename_i hf; exact dance_2 ha (by simpa using hf)
  · rename_i ha; exact dance_a ha
theorem dance_one {st sp fd : Nat} {l : List Nat} {n : Nat} {k : Int} {tg sh tm : Nat} : danceC st sp fd l n k tg sh tm 1 = if preD (askedC (webOk st sp fd l n) k n) (isPlain tg && isPlain sh && isTime tm && isCount 0) = 0 then if danceOk st sp fd tg sh tm k.toNat n l then 0 else 4 else preD (askedC (webOk st sp fd l n) k n) (isPlain tg && isPlain sh && isTime tm && isCount 0) := by
  have e : isCount 0 = isCount 1 := by decide
  have h2 : allI (danceG st sp fd tg sh tm k.toNat n l) (1 : Int).toNat = danceOk st sp fd tg sh tm k.toNat n l := by simp [allI, danceG, danceN]
  rw [e]
  by_cases h : askedC (webOk st sp fd l n) k n = 0 ∧ (isPlain tg && isPlain sh && isTime tm && isCount 1) = true
  · rw [if_pos (preD_0 h)]
    unfold danceC
    rw [if_pos h.1, if_pos h.2, h2]
  · rw [if_neg (preD_no h), dance_pre h]
theorem fn129 : FnOk Try.prog 129 Try.f129 (bodyOf Try.f129) := ⟨Try.func129, rfl, by rfl⟩
def s129 : Spec := hspec fun args H => match args, H with
  | [.c (.p 0 (.l 0)), .c (.i .i64 (.x k)), .c (.f .f32 tg), .c (.f .f32 sh), .c (.f .f32 tm), .c (.i .i64 (.x q))], [some ⟨false, 0, .lit [.f .f32 st, .f .f32 sp, .f .f32 fd, .sl 1 (.x o) (.x n)]⟩, some ⟨false, 0, x⟩] => match x.toFl with
    | some l => some (vI (preD (askedC (webOk (st ()) (sp ()) (fd ()) (l ()) (n ())) (k ()) (n ())) (isPlain (tg ()) && isPlain (sh ()) && isTime (tm ()) && isCount (q ()))), [none, none], [fun _ => o () = 0 ∧ (l ()).length = 3 * n () ∧ n () ≤ 1048576])
    | _ => none
  | _, _ => none
def E129 : Env := fun g => envGetL [(119, ⟨true, s119, none⟩), (93, ⟨true, s93, none⟩), (106, ⟨true, s106, none⟩), (107, ⟨true, s107, none⟩)] g
theorem E129ok : EnvOk Try.prog E129 := envOk_cons ok119 (envOk_cons ok93 (envOk_cons ok106 (envOk_cons ok107 (envOk_nil _))))
set_option maxRecDepth 100000 in
set_option maxHeartbeats 2000000 in
theorem ok129 : Ok Try.prog 129 (s129) := ok_of_wpaH (E := E129) mixed tts E129ok fn129 fun args H v H' o hs ho => by
  split at hs
  · rename_i k tg sh tm q st sp fd o n x
    split at hs
    · rename_i l hl
      cases hs
      obtain ⟨ho0, hlen, hbig⟩ := ho.one
      try simp only [Unit.unit] at ho0 hlen hbig
      refine ⟨_, HLe.cons (BLe.refl _) (HLe.cons (BLe.fl hl) HLe.nil), ?_⟩
      cbv
      repeat' first
        | (refine alt_t (by assumption) ?_; cbv)
        | (refine alt_f (by assumption) ?_; cbv)
        | (refine alt_b (fun h => ?_) (fun h => ?_) <;> cbv)
        | (refine Br.mk (fun h => ?_) (fun h => ?_) <;> cbv)
        | (refine Ob.mk ?_ ?_; rotate_left; cbv)
        | (refine Lex.mk (by kernel_rfl) ?_; cbv)
      all_goals (try simp only [Unit.unit, Int.ofNat_lt, Int.ofNat_le, BE.val, IE.val, NE.val, ltB_iff, ltB_no, leB_iff, leB_no, Int.toNat_natCast, Nat.zero_add, Nat.add_zero, Nat.mul_one, forced, beq_iff_eq, beq_eq_false_iff_ne, bne_iff_ne, bne_eq_false_iff_eq] at *)
      all_goals first | with_reducible rfl | exact ⟨ho0, hlen, hbig⟩ | exact ⟨by trivial, hlen, hbig⟩ | (simp_all [preD]; done) | grind [preD]
    · cases hs
  · cases hs
theorem fn130 : FnOk Try.prog 130 Try.f130 (bodyOf Try.f130) := ⟨Try.func130, rfl, by rfl⟩
def s130T : Spec := hspec fun args H => match args, H with
  | [.c (.p 0 (.l 0)), .c (.i .i64 (.x k)), .c (.f .f32 tg), .c (.f .f32 sh), .c (.f .f32 tm)], [some ⟨false, 0, .lit [.f .f32 st, .f .f32 sp, .f .f32 fd, .sl 1 (.x o) (.x n)]⟩, some ⟨false, 0, x⟩] => match x.toFl with
    | some l => some (.t [.a [.f .f32 st, .f .f32 sp, .f .f32 fd, .sl 2 (.l 0) (.x n)], vI 0], [none, none, some ⟨true, 3, .fl fun _ => danceW (st ()) (sp ()) (fd ()) (tg ()) (sh ()) (tm ()) (k ()).toNat (n ()) (l ())⟩], [fun _ => danceOk (st ()) (sp ()) (fd ()) (tg ()) (sh ()) (tm ()) (k ()).toNat (n ()) (l ()) = true, fun _ => o () = 0 ∧ (l ()).length = 3 * n () ∧ n () ≤ 1048576, fun _ => 0 ≤ k () ∧ (k ()).toNat < n ()])
    | _ => none
  | _, _ => none
def E130T : Env := fun g => envGetL [(89, ⟨true, s89, none⟩), (86, ⟨true, s86, none⟩), (109, ⟨true, sNo, some (s109T, s109F)⟩)] g
theorem E130Tok : EnvOk Try.prog E130T := envOk_cons ok89 (envOk_cons ok86 (envOk_alt ok109T ok109F (envOk_nil _)))
set_option maxRecDepth 100000 in
set_option maxHeartbeats 2000000 in
theorem ok130T : Ok Try.prog 130 (s130T) := ok_of_wpaH (E := E130T) mixed tts E130Tok fn130 fun args H v H' o hs ho => by
  split at hs
  · rename_i k tg sh tm st sp fd o n x
    split at hs
    · rename_i l hl
      cases hs
      obtain ⟨hc, ⟨ho0, hlen, hbig⟩, hx0⟩ := ho.three
      try simp only [Unit.unit] at hc ho0 hlen hbig hx0
      have hd : danceOk (st ⟨⟩) (sp ⟨⟩) (fd ⟨⟩) (tg ⟨⟩) (sh ⟨⟩) (tm ⟨⟩) (k ⟨⟩).toNat (n ⟨⟩) (l ⟨⟩) = true := hc
      simp only [danceOk, danceW, danceL, Bool.and_eq_true, Bool.and_eq_false_iff] at hd
      refine ⟨_, HLe.cons (BLe.refl _) (HLe.cons (BLe.fl hl) HLe.nil), ?_⟩
      cbv
      repeat' first
        | (refine alt_t (by assumption) ?_; cbv)
        | (refine alt_f (by assumption) ?_; cbv)
        | (refine alt_b (fun h => ?_) (fun h => ?_) <;> cbv)
        | (refine Br.mk (fun h => ?_) (fun h => ?_) <;> cbv)
        | (refine Ob.mk ?_ ?_; rotate_left; cbv)
        | (refine Lex.mk (by kernel_rfl) ?_; cbv)
      all_goals (try simp only [Unit.unit, Int.ofNat_lt, Int.ofNat_le, BE.val, IE.val, NE.val, ltB_iff, ltB_no, leB_iff, leB_no, Int.toNat_natCast, Nat.zero_add, Nat.add_zero, Nat.mul_one, forced, beq_iff_eq, beq_eq_false_iff_ne, bne_iff_ne, bne_eq_false_iff_eq] at *)
      all_goals first | with_reducible rfl | exact ⟨ho0, hlen, hbig⟩ | exact ⟨by trivial, hlen, hbig⟩ | exact kn hx0 | omega | (refine ⟨by trivial, ?_, hbig⟩; exact danceL_len hlen) | (simp only [List.length_set]; omega) | (simp only [ho0, Nat.zero_add]; rfl) | (exfalso; simp_all; done) | rfl | (simp_all; done)
    · cases hs
  · cases hs
def s130F : Spec := hspec fun args H => match args, H with
  | [.c (.p 0 (.l 0)), .c (.i .i64 (.x k)), .c (.f .f32 tg), .c (.f .f32 sh), .c (.f .f32 tm)], [some ⟨false, 0, .lit [.f .f32 st, .f .f32 sp, .f .f32 fd, .sl 1 (.x o) (.x n)]⟩, some ⟨false, 0, x⟩] => match x.toFl with
    | some l => some (.t [.a [.f .f32 fun _ => 0, .f .f32 fun _ => 0, .f .f32 fun _ => 0, .sn], vI 4], [none, none], [fun _ => danceOk (st ()) (sp ()) (fd ()) (tg ()) (sh ()) (tm ()) (k ()).toNat (n ()) (l ()) = false, fun _ => o () = 0 ∧ (l ()).length = 3 * n () ∧ n () ≤ 1048576, fun _ => 0 ≤ k () ∧ (k ()).toNat < n ()])
    | _ => none
  | _, _ => none
def E130F : Env := fun g => envGetL [(89, ⟨true, s89, none⟩), (86, ⟨true, s86, none⟩), (109, ⟨true, sNo, some (s109T, s109F)⟩)] g
theorem E130Fok : EnvOk Try.prog E130F := envOk_cons ok89 (envOk_cons ok86 (envOk_alt ok109T ok109F (envOk_nil _)))
set_option maxRecDepth 100000 in
set_option maxHeartbeats 2000000 in
theorem ok130F : Ok Try.prog 130 (s130F) := ok_of_wpaH (E := E130F) mixed tts E130Fok fn130 fun args H v H' o hs ho => by
  split at hs
  · rename_i k tg sh tm st sp fd o n x
    split at hs
    · rename_i l hl
      cases hs
      obtain ⟨hc, ⟨ho0, hlen, hbig⟩, hx0⟩ := ho.three
      try simp only [Unit.unit] at hc ho0 hlen hbig hx0
      have hd : danceOk (st ⟨⟩) (sp ⟨⟩) (fd ⟨⟩) (tg ⟨⟩) (sh ⟨⟩) (tm ⟨⟩) (k ⟨⟩).toNat (n ⟨⟩) (l ⟨⟩) = false := hc
      simp only [danceOk, danceW, danceL, Bool.and_eq_true, Bool.and_eq_false_iff] at hd
      refine ⟨_, HLe.cons (BLe.refl _) (HLe.cons (BLe.fl hl) HLe.nil), ?_⟩
      cbv
      repeat' first
        | (refine alt_t (by assumption) ?_; cbv)
        | (refine alt_f (by assumption) ?_; cbv)
        | (refine alt_b (fun h => ?_) (fun h => ?_) <;> cbv)
        | (refine Br.mk (fun h => ?_) (fun h => ?_) <;> cbv)
        | (refine Ob.mk ?_ ?_; rotate_left; cbv)
        | (refine Lex.mk (by kernel_rfl) ?_; cbv)
      all_goals (try simp only [Unit.unit, Int.ofNat_lt, Int.ofNat_le, BE.val, IE.val, NE.val, ltB_iff, ltB_no, leB_iff, leB_no, Int.toNat_natCast, Nat.zero_add, Nat.add_zero, Nat.mul_one, forced, beq_iff_eq, beq_eq_false_iff_ne, bne_iff_ne, bne_eq_false_iff_eq] at *)
      all_goals first | with_reducible rfl | exact ⟨ho0, hlen, hbig⟩ | exact ⟨by trivial, hlen, hbig⟩ | exact kn hx0 | omega | (refine ⟨by trivial, ?_, hbig⟩; exact danceL_len hlen) | (simp only [List.length_set]; omega) | (simp only [ho0, Nat.zero_add]; rfl) | (exfalso; simp_all; done) | rfl | (simp_all; done)
    · cases hs
  · cases hs
theorem fn78 : FnOk Try.prog 78 Try.f78 (bodyOf Try.f78) := ⟨Try.func78, rfl, by rfl⟩
def s78T : Spec := hspec fun args H => match args, H with
  | [.a [.f .f32 st, .f .f32 sp, .f .f32 fd, .sl 0 (.x o) (.x n)], .c (.i .i64 (.x k)), .c (.f .f32 tg), .c (.f .f32 sh), .c (.f .f32 tm)], [some ⟨false, 0, x⟩] => match x.toFl with
    | some l => some (.t [.a [.f .f32 st, .f .f32 sp, .f .f32 fd, .sl 1 (.l 0) (.x n)], vI 0], [none, some ⟨true, 3, .fl fun _ => danceN (st ()) (sp ()) (fd ()) (tg ()) (sh ()) (tm ()) (k ()).toNat (n ()) (l ()) 1⟩], [fun _ => (danceC (st ()) (sp ()) (fd ()) (l ()) (n ()) (k ()) (tg ()) (sh ()) (tm ()) 1 == 0) = true, fun _ => o () = 0 ∧ (l ()).length = 3 * n () ∧ n () ≤ 1048576])
    | _ => none
  | _, _ => none
def E78T : Env := fun g => envGetL [(129, ⟨true, s129, none⟩), (130, ⟨true, sNo, some (s130T, s130F)⟩)] g
theorem E78Tok : EnvOk Try.prog E78T := envOk_cons ok129 (envOk_alt ok130T ok130F (envOk_nil _))
set_option maxRecDepth 100000 in
set_option maxHeartbeats 2000000 in
theorem ok78T : Ok Try.prog 78 (s78T) := ok_of_wpaH (E := E78T) mixed tts E78Tok fn78 fun args H v H' o hs ho => by
  split at hs
  · rename_i st sp fd o n k tg sh tm x
    split at hs
    · rename_i l hl
      cases hs
      obtain ⟨hc, ⟨ho0, hlen, hbig⟩⟩ := ho.two
      try simp only [Unit.unit] at hc ho0 hlen hbig
      refine ⟨_, HLe.cons (BLe.fl hl) HLe.nil, ?_⟩
      cbv
      repeat' first
        | (refine alt_t (by assumption) ?_; cbv)
        | (refine alt_f (by assumption) ?_; cbv)
        | (refine alt_b (fun h => ?_) (fun h => ?_) <;> cbv)
        | (refine Br.mk (fun h => ?_) (fun h => ?_) <;> cbv)
        | (refine Ob.mk ?_ ?_; rotate_left; cbv)
        | (refine Lex.mk (by kernel_rfl) ?_; cbv)
      all_goals (try simp only [Unit.unit, Int.ofNat_lt, Int.ofNat_le, BE.val, IE.val, NE.val, ltB_iff, ltB_no, leB_iff, leB_no, Int.toNat_natCast, Nat.zero_add, Nat.add_zero, Nat.mul_one, forced, beq_iff_eq, beq_eq_false_iff_ne, bne_iff_ne, bne_eq_false_iff_eq] at *)
      all_goals first | with_reducible rfl | exact ⟨ho0, hlen, hbig⟩ | exact ⟨by trivial, hlen, hbig⟩ | exact (asked_ok (preD_a (by assumption))).2 | exact kn (asked_ok (preD_a (by assumption))).2 | (exfalso; simp_all [dance_one]; done) | (simp_all [dance_one]; done) | (show danceW _ _ _ _ _ _ _ _ _ = danceN _ _ _ _ _ _ _ _ _ 1; rfl) | (rw [dance_one]; simp_all; done)
    · cases hs
  · cases hs
def s78F : Spec := hspec fun args H => match args, H with
  | [.a [.f .f32 st, .f .f32 sp, .f .f32 fd, .sl 0 (.x o) (.x n)], .c (.i .i64 (.x k)), .c (.f .f32 tg), .c (.f .f32 sh), .c (.f .f32 tm)], [some ⟨false, 0, x⟩] => match x.toFl with
    | some l => some (.t [.a [.f .f32 fun _ => 0, .f .f32 fun _ => 0, .f .f32 fun _ => 0, .sn], vI (danceC (st ()) (sp ()) (fd ()) (l ()) (n ()) (k ()) (tg ()) (sh ()) (tm ()) 1)], [none], [fun _ => (danceC (st ()) (sp ()) (fd ()) (l ()) (n ()) (k ()) (tg ()) (sh ()) (tm ()) 1 == 0) = false, fun _ => o () = 0 ∧ (l ()).length = 3 * n () ∧ n () ≤ 1048576])
    | _ => none
  | _, _ => none
def E78F : Env := fun g => envGetL [(129, ⟨true, s129, none⟩), (130, ⟨true, sNo, some (s130T, s130F)⟩)] g
theorem E78Fok : EnvOk Try.prog E78F := envOk_cons ok129 (envOk_alt ok130T ok130F (envOk_nil _))
set_option maxRecDepth 100000 in
set_option maxHeartbeats 2000000 in
theorem ok78F : Ok Try.prog 78 (s78F) := ok_of_wpaH (E := E78F) mixed tts E78Fok fn78 fun args H v H' o hs ho => by
  split at hs
  · rename_i st sp fd o n k tg sh tm x
    split at hs
    · rename_i l hl
      cases hs
      obtain ⟨hc, ⟨ho0, hlen, hbig⟩⟩ := ho.two
      try simp only [Unit.unit] at hc ho0 hlen hbig
      refine ⟨_, HLe.cons (BLe.fl hl) HLe.nil, ?_⟩
      cbv
      repeat' first
        | (refine alt_t (by assumption) ?_; cbv)
        | (refine alt_f (by assumption) ?_; cbv)
        | (refine alt_b (fun h => ?_) (fun h => ?_) <;> cbv)
        | (refine Br.mk (fun h => ?_) (fun h => ?_) <;> cbv)
        | (refine Ob.mk ?_ ?_; rotate_left; cbv)
        | (refine Lex.mk (by kernel_rfl) ?_; cbv)
      all_goals (try simp only [Unit.unit, Int.ofNat_lt, Int.ofNat_le, BE.val, IE.val, NE.val, ltB_iff, ltB_no, leB_iff, leB_no, Int.toNat_natCast, Nat.zero_add, Nat.add_zero, Nat.mul_one, forced, beq_iff_eq, beq_eq_false_iff_ne, bne_iff_ne, bne_eq_false_iff_eq] at *)
      all_goals first | with_reducible rfl | exact ⟨ho0, hlen, hbig⟩ | exact ⟨by trivial, hlen, hbig⟩ | exact (asked_ok (preD_a (by assumption))).2 | exact kn (asked_ok (preD_a (by assumption))).2 | (exfalso; simp_all [dance_one]; done) | (simp_all [dance_one]; done) | (show danceW _ _ _ _ _ _ _ _ _ = danceN _ _ _ _ _ _ _ _ _ 1; rfl) | (rw [dance_one]; simp_all; done)
    · cases hs
  · cases hs
theorem fn80 : FnOk Try.prog 80 Try.f80 (bodyOf Try.f80) := ⟨Try.func80, rfl, by rfl⟩
def s80T : Spec := hspec fun args H => match args, H with
  | [.a [.f .f32 st, .f .f32 sp, .f .f32 fd, .sl 0 (.x o) (.x n)], .c (.i .i64 (.x k)), .c (.f .f32 tg), .c (.f .f32 sh), .c (.f .f32 tm), .c (.i .i64 (.x q))], [some ⟨false, 0, x⟩] => match x.toFl with
    | some l => some (.t [.a [.f .f32 st, .f .f32 sp, .f .f32 fd, .sl 1 (.l 0) (.x n)], vI 0], [none, some ⟨true, 3, .fl fun _ => danceN (st ()) (sp ()) (fd ()) (tg ()) (sh ()) (tm ()) (k ()).toNat (n ()) (l ()) (q ()).toNat⟩], [fun _ => (danceC (st ()) (sp ()) (fd ()) (l ()) (n ()) (k ()) (tg ()) (sh ()) (tm ()) (q ()) == 0) = true, fun _ => o () = 0 ∧ (l ()).length = 3 * n () ∧ n () ≤ 1048576])
    | _ => none
  | _, _ => none
def E80T : Env := fun g => envGetL [(129, ⟨true, s129, none⟩), (89, ⟨true, s89, none⟩), (130, ⟨true, sNo, some (s130T, s130F)⟩)] g
theorem E80Tok : EnvOk Try.prog E80T := envOk_cons ok129 (envOk_cons ok89 (envOk_alt ok130T ok130F (envOk_nil _)))
set_option maxRecDepth 100000 in
set_option maxHeartbeats 4000000 in
theorem ok80T : Ok Try.prog 80 (s80T) := ok_of_wpaH (E := E80T) mixed tts E80Tok fn80 fun args H v H' o hs ho => by
  split at hs
  · rename_i st sp fd o n k tg sh tm q x
    split at hs
    · rename_i l hl
      cases hs
      obtain ⟨hc, ⟨ho0, hlen, hbig⟩⟩ := ho.two
      try simp only [Unit.unit] at hc ho0 hlen hbig
      have hok := dance_ok hc
      refine ⟨_, HLe.cons (BLe.fl hl) HLe.nil, ?_⟩
      cbv
      repeat' first
        | (refine Br.mk (fun h => ?_) (fun h => ?_) <;> cbv)
        | (refine Ob.mk ⟨ho0, hlen, hbig⟩ ?_; cbv)
      refine loop_rule (α := (Unit → Nat) ⊕ ((Unit → Nat) × (Unit → Int))) (c := ⟨tt, E80T, 1⟩)
          (fun a => match a with | .inl i => fr 46 [(1, .c (.i .i64 (.x k))), (2, .c (.f .f32 tg)), (3, .c (.f .f32 sh)), (4, .c (.f .f32 tm)), (5, .c (.i .i64 (.x q))), (6, .c (.p 1 (.l 0))), (12, .c (.p 2 (.l 0))), (14, .c (.i .i64 (.l 0))), (15, .c (.p 4 (.l 0))), (16, .c (.i .i64 (.x fun _ => i ())))] | .inr p => fr 46 [(5, .c (.i .i64 (.x q))), (12, .c (.p 2 (.l 0))), (14, .c (.i .i64 (.x fun _ => p.2 ()))), (16, .c (.i .i64 (.x fun _ => p.1 ())))]) (fun a => match a with | .inl i => [some ⟨false, 0, .fl l⟩, some ⟨true, 0, .lit [.f .f32 st, .f .f32 sp, .f .f32 fd, .sl 0 (.x o) (.x n)]⟩, some ⟨true, 0, .lit [.f .f32 fun _ => 0, .f .f32 fun _ => 0, .f .f32 fun _ => 0, .sn]⟩, some ⟨true, 3, .fl fun _ => danceN (st ()) (sp ()) (fd ()) (tg ()) (sh ()) (tm ()) (k ()).toNat (n ()) (l ()) (i ())⟩, some ⟨true, 0, .lit [.f .f32 st, .f .f32 sp, .f .f32 fd, .sl 3 (.l 0) (.x n)]⟩] | .inr p => [some ⟨false, 0, .fl l⟩, none, some ⟨true, 0, .lit [.f .f32 fun _ => 0, .f .f32 fun _ => 0, .f .f32 fun _ => 0, .sn]⟩])
          (fun a => match a with | .inl i => (i () ≤ (q ()).toNat ∧ allI (danceG (st ()) (sp ()) (fd ()) (tg ()) (sh ()) (tm ()) (k ()).toNat (n ()) (l ())) (i ()) = true) ∧ (askedC (webOk (st ()) (sp ()) (fd ()) (l ()) (n ())) (k ()) (n ()) = 0 ∧ (isPlain (tg ()) && isPlain (sh ()) && isTime (tm ()) && isCount (q ())) = true) | .inr p => p.2 () ≠ 0 ∧ danceC (st ()) (sp ()) (fd ()) (l ()) (n ()) (k ()) (tg ()) (sh ()) (tm ()) (q ()) = p.2 ()) (fun a => match a with | .inl i => (q ()).toNat - i () + 1 | .inr p => 0) (fun _ => (q ()).toNat + 2) ?_ ?_
      · refine .mk (.inl fun _ => 0) ⟨⟨Nat.zero_le _, rfl⟩, ⟨hok.1, hok.2.1⟩⟩ (by dsimp only; omega) ?_
        cbv
        repeat' (refine Ob.mk ?_ ?_; rotate_left)
        all_goals (try simp only [Unit.unit, Int.ofNat_lt, Int.ofNat_le, BE.val, IE.val, NE.val, ltB_iff, ltB_no, leB_iff, leB_no, Int.toNat_natCast, Nat.zero_add, Nat.add_zero, Nat.mul_one, forced, beq_iff_eq, beq_eq_false_iff_ne, bne_iff_ne, bne_eq_false_iff_eq] at *)
        all_goals first | with_reducible rfl | trivial | exact preD_0 ⟨hok.1, hok.2.1⟩ | (rw [preD_0 ⟨hok.1, hok.2.1⟩]; done)
      · rintro (i | ⟨i, c⟩) hi
        · have hrl := danceN_len (st := st ⟨⟩) (sp := sp ⟨⟩) (fd := fd ⟨⟩) (tg := tg ⟨⟩) (sh := sh ⟨⟩) (tm := tm ⟨⟩) (j := (k ⟨⟩).toNat) hlen (i ⟨⟩)
          have hq2 := count_le (fine4 hi.2.2).2.2.2
          have hkn := (asked_ok hi.2.1).2
          simp only [Unit.unit] at hq2 hkn
          cbv
          refine Br.mk (fun h1 => ?_) (fun h1 => ?_)
          · have h1n : i ⟨⟩ < (q ⟨⟩).toNat := lt_k h1
            cbv
            refine alt_b (fun h => ?_) (fun h => ?_)
            · cbv
              repeat' first | (refine Ob.mk ?_ ?_; rotate_left; cbv) | (refine Lex.mk (by kernel_rfl) ?_; cbv) | (refine Next.ren [1, 2, 5, 4] (.inl fun _ => i () + 1) ?_ ?_ ?_)
              all_goals (try simp only [Unit.unit, Int.ofNat_lt, Int.ofNat_le, BE.val, IE.val, NE.val, ltB_iff, ltB_no, leB_iff, leB_no, Int.toNat_natCast, Nat.zero_add, Nat.add_zero, Nat.mul_one, forced, beq_iff_eq, beq_eq_false_iff_ne, bne_iff_ne, bne_eq_false_iff_eq] at *)
              all_goals (try simp only [ho0, Nat.zero_add] at *)
              all_goals first | with_reducible rfl | (refine ⟨by trivial, ?_, hbig⟩; exact hrl) | exact wrap64_nat (by omega) | omega | exact hkn | exact kn hkn | (exfalso; have hg := allI_at hok.2.2 h1n; simp_all [danceG]; done) | exact ⟨⟨h1n, dall hi.1.2 (by assumption)⟩, hi.2⟩ | (rw [hik]; done) | rfl
            · cbv
              repeat' first | (refine Ob.mk ?_ ?_; rotate_left; cbv) | (refine Lex.mk (by kernel_rfl) ?_; cbv) | (refine Next.mk (.inr (fun _ => i () + 1, fun _ => 4)) ?_ ?_ ?_)
              all_goals (try simp only [Unit.unit, Int.ofNat_lt, Int.ofNat_le, BE.val, IE.val, NE.val, ltB_iff, ltB_no, leB_iff, leB_no, Int.toNat_natCast, Nat.zero_add, Nat.add_zero, Nat.mul_one, forced, beq_iff_eq, beq_eq_false_iff_ne, bne_iff_ne, bne_eq_false_iff_eq] at *)
              all_goals (try simp only [ho0, Nat.zero_add] at *)
              all_goals first | with_reducible rfl | (refine ⟨by trivial, ?_, hbig⟩; exact hrl) | exact wrap64_nat (by omega) | omega | exact hkn | exact kn hkn | (exfalso; have hg := allI_at hok.2.2 h1n; simp_all [danceG]; done) | exact ⟨⟨h1n, dall hi.1.2 (by assumption)⟩, hi.2⟩ | (rw [hik]; done) | rfl
          · have h1n : (q ⟨⟩).toNat ≤ i ⟨⟩ := le_k h1
            have hik : i ⟨⟩ = (q ⟨⟩).toNat := Nat.le_antisymm hi.1.1 h1n
            cbv
            repeat' first | (refine Ob.mk ?_ ?_; rotate_left; cbv) | (refine Br.mk (fun h => ?_) (fun h => ?_) <;> cbv)
            all_goals (try simp only [Unit.unit, Int.ofNat_lt, Int.ofNat_le, BE.val, IE.val, NE.val, ltB_iff, ltB_no, leB_iff, leB_no, Int.toNat_natCast, Nat.zero_add, Nat.add_zero, Nat.mul_one, forced, beq_iff_eq, beq_eq_false_iff_ne, bne_iff_ne, bne_eq_false_iff_eq] at *)
            all_goals first | with_reducible rfl | (refine ⟨by trivial, ?_, hbig⟩; exact hrl) | exact wrap64_nat (by omega) | omega | exact hkn | exact kn hkn | (exfalso; have hg := allI_at hok.2.2 h1n; simp_all [danceG]; done) | exact ⟨⟨h1n, dall hi.1.2 (by assumption)⟩, hi.2⟩ | (rw [hik]; done) | rfl
        · have hi1 : c ⟨⟩ ≠ 0 := hi.1
          have hi2 : danceC (st ⟨⟩) (sp ⟨⟩) (fd ⟨⟩) (l ⟨⟩) (n ⟨⟩) (k ⟨⟩) (tg ⟨⟩) (sh ⟨⟩) (tm ⟨⟩) (q ⟨⟩) = c ⟨⟩ := hi.2
          exact absurd (hi2.symm.trans (beq_iff_eq.1 hc)) hi1
    · cases hs
  · cases hs
def s80F : Spec := hspec fun args H => match args, H with
  | [.a [.f .f32 st, .f .f32 sp, .f .f32 fd, .sl 0 (.x o) (.x n)], .c (.i .i64 (.x k)), .c (.f .f32 tg), .c (.f .f32 sh), .c (.f .f32 tm), .c (.i .i64 (.x q))], [some ⟨false, 0, x⟩] => match x.toFl with
    | some l => some (.t [.a [.f .f32 fun _ => 0, .f .f32 fun _ => 0, .f .f32 fun _ => 0, .sn], vI (danceC (st ()) (sp ()) (fd ()) (l ()) (n ()) (k ()) (tg ()) (sh ()) (tm ()) (q ()))], [none], [fun _ => (danceC (st ()) (sp ()) (fd ()) (l ()) (n ()) (k ()) (tg ()) (sh ()) (tm ()) (q ()) == 0) = false, fun _ => o () = 0 ∧ (l ()).length = 3 * n () ∧ n () ≤ 1048576])
    | _ => none
  | _, _ => none
def E80F : Env := fun g => envGetL [(129, ⟨true, s129, none⟩), (89, ⟨true, s89, none⟩), (130, ⟨true, sNo, some (s130T, s130F)⟩)] g
theorem E80Fok : EnvOk Try.prog E80F := envOk_cons ok129 (envOk_cons ok89 (envOk_alt ok130T ok130F (envOk_nil _)))
set_option maxRecDepth 100000 in
set_option maxHeartbeats 4000000 in
theorem ok80F : Ok Try.prog 80 (s80F) := ok_of_wpaH (E := E80F) mixed tts E80Fok fn80 fun args H v H' o hs ho => by
  split at hs
  · rename_i st sp fd o n k tg sh tm q x
    split at hs
    · rename_i l hl
      cases hs
      obtain ⟨hc, ⟨ho0, hlen, hbig⟩⟩ := ho.two
      try simp only [Unit.unit] at hc ho0 hlen hbig
      refine ⟨_, HLe.cons (BLe.fl hl) HLe.nil, ?_⟩
      cbv
      repeat' first
        | (refine Br.mk (fun h => ?_) (fun h => ?_) <;> cbv)
        | (refine Ob.mk ⟨ho0, hlen, hbig⟩ ?_; cbv)
      by_cases hno : ¬ (askedC (webOk (st ⟨⟩) (sp ⟨⟩) (fd ⟨⟩) (l ⟨⟩) (n ⟨⟩)) (k ⟨⟩) (n ⟨⟩) = 0 ∧ (isPlain (tg ⟨⟩) && isPlain (sh ⟨⟩) && isTime (tm ⟨⟩) && isCount (q ⟨⟩)) = true)
      · refine loop_rule (α := (Unit → Nat) ⊕ ((Unit → Nat) × (Unit → Int))) (c := ⟨tt, E80F, 1⟩)
            (fun a => match a with | .inl i => fr 46 [(1, .c (.i .i64 (.x k))), (2, .c (.f .f32 tg)), (3, .c (.f .f32 sh)), (4, .c (.f .f32 tm)), (5, .c (.i .i64 (.x q))), (6, .c (.p 1 (.l 0))), (12, .c (.p 2 (.l 0))), (14, .c (.i .i64 (.l 0))), (15, .c (.p 4 (.l 0))), (16, .c (.i .i64 (.x fun _ => i ())))] | .inr p => fr 46 [(5, .c (.i .i64 (.x q))), (12, .c (.p 2 (.l 0))), (14, .c (.i .i64 (.x fun _ => p.2 ()))), (16, .c (.i .i64 (.x fun _ => p.1 ())))]) (fun a => match a with | .inl i => [some ⟨false, 0, .fl l⟩, some ⟨true, 0, .lit [.f .f32 st, .f .f32 sp, .f .f32 fd, .sl 0 (.x o) (.x n)]⟩, some ⟨true, 0, .lit [.f .f32 fun _ => 0, .f .f32 fun _ => 0, .f .f32 fun _ => 0, .sn]⟩, some ⟨true, 3, .fl fun _ => danceN (st ()) (sp ()) (fd ()) (tg ()) (sh ()) (tm ()) (k ()).toNat (n ()) (l ()) (i ())⟩, some ⟨true, 0, .lit [.f .f32 st, .f .f32 sp, .f .f32 fd, .sl 3 (.l 0) (.x n)]⟩] | .inr p => [some ⟨false, 0, .fl l⟩, none, some ⟨true, 0, .lit [.f .f32 fun _ => 0, .f .f32 fun _ => 0, .f .f32 fun _ => 0, .sn]⟩])
            (fun a => match a with | .inl i => (i () ≤ (q ()).toNat ∧ allI (danceG (st ()) (sp ()) (fd ()) (tg ()) (sh ()) (tm ()) (k ()).toNat (n ()) (l ())) (i ()) = true) ∧ (askedC (webOk (st ()) (sp ()) (fd ()) (l ()) (n ())) (k ()) (n ()) = 0 ∧ (isPlain (tg ()) && isPlain (sh ()) && isTime (tm ()) && isCount (q ())) = true) | .inr p => p.2 () ≠ 0 ∧ danceC (st ()) (sp ()) (fd ()) (l ()) (n ()) (k ()) (tg ()) (sh ()) (tm ()) (q ()) = p.2 ()) (fun a => match a with | .inl i => (q ()).toNat - i () + 1 | .inr p => 0) (fun _ => (q ()).toNat + 2) ?_ ?_
        · refine .mk (.inr (fun _ => 0, fun _ => preD (askedC (webOk (st ⟨⟩) (sp ⟨⟩) (fd ⟨⟩) (l ⟨⟩) (n ⟨⟩)) (k ⟨⟩) (n ⟨⟩)) (isPlain (tg ⟨⟩) && isPlain (sh ⟨⟩) && isTime (tm ⟨⟩) && isCount (q ⟨⟩)))) ⟨preD_no hno, dance_pre hno⟩ (by dsimp only; omega) ?_
          cbv
          repeat' (refine Ob.mk ?_ ?_; rotate_left)
          all_goals (try simp only [Unit.unit, Int.ofNat_lt, Int.ofNat_le, BE.val, IE.val, NE.val, ltB_iff, ltB_no, leB_iff, leB_no, Int.toNat_natCast, Nat.zero_add, Nat.add_zero, Nat.mul_one, forced, beq_iff_eq, beq_eq_false_iff_ne, bne_iff_ne, bne_eq_false_iff_eq] at *)
          all_goals first | with_reducible rfl | trivial
        · rintro (i | ⟨i, c⟩) hi
          · have hrl := danceN_len (st := st ⟨⟩) (sp := sp ⟨⟩) (fd := fd ⟨⟩) (tg := tg ⟨⟩) (sh := sh ⟨⟩) (tm := tm ⟨⟩) (j := (k ⟨⟩).toNat) hlen (i ⟨⟩)
            have hq2 := count_le (fine4 hi.2.2).2.2.2
            have hkn := (asked_ok hi.2.1).2
            simp only [Unit.unit] at hq2 hkn
            cbv
            refine Br.mk (fun h1 => ?_) (fun h1 => ?_)
            · have h1n : i ⟨⟩ < (q ⟨⟩).toNat := lt_k h1
              cbv
              refine alt_b (fun h => ?_) (fun h => ?_)
              · cbv
                repeat' first | (refine Ob.mk ?_ ?_; rotate_left; cbv) | (refine Lex.mk (by kernel_rfl) ?_; cbv) | (refine Next.ren [1, 2, 5, 4] (.inl fun _ => i () + 1) ?_ ?_ ?_)
                all_goals (try simp only [Unit.unit, Int.ofNat_lt, Int.ofNat_le, BE.val, IE.val, NE.val, ltB_iff, ltB_no, leB_iff, leB_no, Int.toNat_natCast, Nat.zero_add, Nat.add_zero, Nat.mul_one, forced, beq_iff_eq, beq_eq_false_iff_ne, bne_iff_ne, bne_eq_false_iff_eq] at *)
                all_goals (try simp only [ho0, Nat.zero_add] at *)
                all_goals first | with_reducible rfl | (refine ⟨by trivial, ?_, hbig⟩; exact hrl) | exact wrap64_nat (by omega) | omega | exact hkn | exact kn hkn | exact ⟨by decide, dance_4 hi.2.1 hi.2.2 h1n (by assumption)⟩ | exact ⟨⟨h1n, dall hi.1.2 (by assumption)⟩, hi.2⟩ | (exfalso; have hg := hi.1.2; rw [hik] at hg; have h0 := dance_0 hi.2.1 hi.2.2 hg; simp_all; done) | rfl
              · cbv
                repeat' first | (refine Ob.mk ?_ ?_; rotate_left; cbv) | (refine Lex.mk (by kernel_rfl) ?_; cbv) | (refine Next.mk (.inr (fun _ => i () + 1, fun _ => 4)) ?_ ?_ ?_)
                all_goals (try simp only [Unit.unit, Int.ofNat_lt, Int.ofNat_le, BE.val, IE.val, NE.val, ltB_iff, ltB_no, leB_iff, leB_no, Int.toNat_natCast, Nat.zero_add, Nat.add_zero, Nat.mul_one, forced, beq_iff_eq, beq_eq_false_iff_ne, bne_iff_ne, bne_eq_false_iff_eq] at *)
                all_goals (try simp only [ho0, Nat.zero_add] at *)
                all_goals first | with_reducible rfl | (refine ⟨by trivial, ?_, hbig⟩; exact hrl) | exact wrap64_nat (by omega) | omega | exact hkn | exact kn hkn | exact ⟨by decide, dance_4 hi.2.1 hi.2.2 h1n (by assumption)⟩ | exact ⟨⟨h1n, dall hi.1.2 (by assumption)⟩, hi.2⟩ | (exfalso; have hg := hi.1.2; rw [hik] at hg; have h0 := dance_0 hi.2.1 hi.2.2 hg; simp_all; done) | rfl
            · have h1n : (q ⟨⟩).toNat ≤ i ⟨⟩ := le_k h1
              have hik : i ⟨⟩ = (q ⟨⟩).toNat := Nat.le_antisymm hi.1.1 h1n
              cbv
              repeat' first | (refine Ob.mk ?_ ?_; rotate_left; cbv) | (refine Br.mk (fun h => ?_) (fun h => ?_) <;> cbv)
              all_goals (try simp only [Unit.unit, Int.ofNat_lt, Int.ofNat_le, BE.val, IE.val, NE.val, ltB_iff, ltB_no, leB_iff, leB_no, Int.toNat_natCast, Nat.zero_add, Nat.add_zero, Nat.mul_one, forced, beq_iff_eq, beq_eq_false_iff_ne, bne_iff_ne, bne_eq_false_iff_eq] at *)
              all_goals first | with_reducible rfl | (refine ⟨by trivial, ?_, hbig⟩; exact hrl) | exact wrap64_nat (by omega) | omega | exact hkn | exact kn hkn | exact ⟨by decide, dance_4 hi.2.1 hi.2.2 h1n (by assumption)⟩ | exact ⟨⟨h1n, dall hi.1.2 (by assumption)⟩, hi.2⟩ | (exfalso; have hg := hi.1.2; rw [hik] at hg; have h0 := dance_0 hi.2.1 hi.2.2 hg; simp_all; done) | rfl
          · have hi1 : c ⟨⟩ ≠ 0 := hi.1
            have hi2 : danceC (st ⟨⟩) (sp ⟨⟩) (fd ⟨⟩) (l ⟨⟩) (n ⟨⟩) (k ⟨⟩) (tg ⟨⟩) (sh ⟨⟩) (tm ⟨⟩) (q ⟨⟩) = c ⟨⟩ := hi.2
            skip
            cbv
            repeat' first
              | (refine Br.mk (fun h => ?_) (fun h => ?_) <;> cbv)
              | (refine Ob.mk ?_ ?_; rotate_left; cbv)
            all_goals (try simp only [Unit.unit, Int.ofNat_lt, Int.ofNat_le, BE.val, IE.val, NE.val, ltB_iff, ltB_no, leB_iff, leB_no, Int.toNat_natCast, Nat.zero_add, Nat.add_zero, Nat.mul_one, forced, beq_iff_eq, beq_eq_false_iff_ne, bne_iff_ne, bne_eq_false_iff_eq] at *)
            all_goals first | with_reducible rfl | exact hi2.symm | (exfalso; simp_all; done)
      · have hyes := Classical.not_not.1 hno
        refine loop_rule (α := (Unit → Nat) ⊕ ((Unit → Nat) × (Unit → Int))) (c := ⟨tt, E80F, 1⟩)
            (fun a => match a with | .inl i => fr 46 [(1, .c (.i .i64 (.x k))), (2, .c (.f .f32 tg)), (3, .c (.f .f32 sh)), (4, .c (.f .f32 tm)), (5, .c (.i .i64 (.x q))), (6, .c (.p 1 (.l 0))), (12, .c (.p 2 (.l 0))), (14, .c (.i .i64 (.l 0))), (15, .c (.p 4 (.l 0))), (16, .c (.i .i64 (.x fun _ => i ())))] | .inr p => fr 46 [(5, .c (.i .i64 (.x q))), (12, .c (.p 2 (.l 0))), (14, .c (.i .i64 (.x fun _ => p.2 ()))), (16, .c (.i .i64 (.x fun _ => p.1 ())))]) (fun a => match a with | .inl i => [some ⟨false, 0, .fl l⟩, some ⟨true, 0, .lit [.f .f32 st, .f .f32 sp, .f .f32 fd, .sl 0 (.x o) (.x n)]⟩, some ⟨true, 0, .lit [.f .f32 fun _ => 0, .f .f32 fun _ => 0, .f .f32 fun _ => 0, .sn]⟩, some ⟨true, 3, .fl fun _ => danceN (st ()) (sp ()) (fd ()) (tg ()) (sh ()) (tm ()) (k ()).toNat (n ()) (l ()) (i ())⟩, some ⟨true, 0, .lit [.f .f32 st, .f .f32 sp, .f .f32 fd, .sl 3 (.l 0) (.x n)]⟩] | .inr p => [some ⟨false, 0, .fl l⟩, none, some ⟨true, 0, .lit [.f .f32 fun _ => 0, .f .f32 fun _ => 0, .f .f32 fun _ => 0, .sn]⟩])
            (fun a => match a with | .inl i => (i () ≤ (q ()).toNat ∧ allI (danceG (st ()) (sp ()) (fd ()) (tg ()) (sh ()) (tm ()) (k ()).toNat (n ()) (l ())) (i ()) = true) ∧ (askedC (webOk (st ()) (sp ()) (fd ()) (l ()) (n ())) (k ()) (n ()) = 0 ∧ (isPlain (tg ()) && isPlain (sh ()) && isTime (tm ()) && isCount (q ())) = true) | .inr p => p.2 () ≠ 0 ∧ danceC (st ()) (sp ()) (fd ()) (l ()) (n ()) (k ()) (tg ()) (sh ()) (tm ()) (q ()) = p.2 ()) (fun a => match a with | .inl i => (q ()).toNat - i () + 1 | .inr p => 0) (fun _ => (q ()).toNat + 2) ?_ ?_
        · refine .mk (.inl fun _ => 0) ⟨⟨Nat.zero_le _, rfl⟩, hyes⟩ (by dsimp only; omega) ?_
          cbv
          repeat' (refine Ob.mk ?_ ?_; rotate_left)
          all_goals (try simp only [Unit.unit, Int.ofNat_lt, Int.ofNat_le, BE.val, IE.val, NE.val, ltB_iff, ltB_no, leB_iff, leB_no, Int.toNat_natCast, Nat.zero_add, Nat.add_zero, Nat.mul_one, forced, beq_iff_eq, beq_eq_false_iff_ne, bne_iff_ne, bne_eq_false_iff_eq] at *)
          all_goals first | with_reducible rfl | trivial | exact preD_0 hyes | (rw [preD_0 hyes]; done)
        · rintro (i | ⟨i, c⟩) hi
          · have hrl := danceN_len (st := st ⟨⟩) (sp := sp ⟨⟩) (fd := fd ⟨⟩) (tg := tg ⟨⟩) (sh := sh ⟨⟩) (tm := tm ⟨⟩) (j := (k ⟨⟩).toNat) hlen (i ⟨⟩)
            have hq2 := count_le (fine4 hi.2.2).2.2.2
            have hkn := (asked_ok hi.2.1).2
            simp only [Unit.unit] at hq2 hkn
            cbv
            refine Br.mk (fun h1 => ?_) (fun h1 => ?_)
            · have h1n : i ⟨⟩ < (q ⟨⟩).toNat := lt_k h1
              cbv
              refine alt_b (fun h => ?_) (fun h => ?_)
              · cbv
                repeat' first | (refine Ob.mk ?_ ?_; rotate_left; cbv) | (refine Lex.mk (by kernel_rfl) ?_; cbv) | (refine Next.ren [1, 2, 5, 4] (.inl fun _ => i () + 1) ?_ ?_ ?_)
                all_goals (try simp only [Unit.unit, Int.ofNat_lt, Int.ofNat_le, BE.val, IE.val, NE.val, ltB_iff, ltB_no, leB_iff, leB_no, Int.toNat_natCast, Nat.zero_add, Nat.add_zero, Nat.mul_one, forced, beq_iff_eq, beq_eq_false_iff_ne, bne_iff_ne, bne_eq_false_iff_eq] at *)
                all_goals (try simp only [ho0, Nat.zero_add] at *)
                all_goals first | with_reducible rfl | (refine ⟨by trivial, ?_, hbig⟩; exact hrl) | exact wrap64_nat (by omega) | omega | exact hkn | exact kn hkn | exact ⟨by decide, dance_4 hi.2.1 hi.2.2 h1n (by assumption)⟩ | exact ⟨⟨h1n, dall hi.1.2 (by assumption)⟩, hi.2⟩ | (exfalso; have hg := hi.1.2; rw [hik] at hg; have h0 := dance_0 hi.2.1 hi.2.2 hg; simp_all; done) | rfl
              · cbv
                repeat' first | (refine Ob.mk ?_ ?_; rotate_left; cbv) | (refine Lex.mk (by kernel_rfl) ?_; cbv) | (refine Next.mk (.inr (fun _ => i () + 1, fun _ => 4)) ?_ ?_ ?_)
                all_goals (try simp only [Unit.unit, Int.ofNat_lt, Int.ofNat_le, BE.val, IE.val, NE.val, ltB_iff, ltB_no, leB_iff, leB_no, Int.toNat_natCast, Nat.zero_add, Nat.add_zero, Nat.mul_one, forced, beq_iff_eq, beq_eq_false_iff_ne, bne_iff_ne, bne_eq_false_iff_eq] at *)
                all_goals (try simp only [ho0, Nat.zero_add] at *)
                all_goals first | with_reducible rfl | (refine ⟨by trivial, ?_, hbig⟩; exact hrl) | exact wrap64_nat (by omega) | omega | exact hkn | exact kn hkn | exact ⟨by decide, dance_4 hi.2.1 hi.2.2 h1n (by assumption)⟩ | exact ⟨⟨h1n, dall hi.1.2 (by assumption)⟩, hi.2⟩ | (exfalso; have hg := hi.1.2; rw [hik] at hg; have h0 := dance_0 hi.2.1 hi.2.2 hg; simp_all; done) | rfl
            · have h1n : (q ⟨⟩).toNat ≤ i ⟨⟩ := le_k h1
              have hik : i ⟨⟩ = (q ⟨⟩).toNat := Nat.le_antisymm hi.1.1 h1n
              cbv
              repeat' first | (refine Ob.mk ?_ ?_; rotate_left; cbv) | (refine Br.mk (fun h => ?_) (fun h => ?_) <;> cbv)
              all_goals (try simp only [Unit.unit, Int.ofNat_lt, Int.ofNat_le, BE.val, IE.val, NE.val, ltB_iff, ltB_no, leB_iff, leB_no, Int.toNat_natCast, Nat.zero_add, Nat.add_zero, Nat.mul_one, forced, beq_iff_eq, beq_eq_false_iff_ne, bne_iff_ne, bne_eq_false_iff_eq] at *)
              all_goals first | with_reducible rfl | (refine ⟨by trivial, ?_, hbig⟩; exact hrl) | exact wrap64_nat (by omega) | omega | exact hkn | exact kn hkn | exact ⟨by decide, dance_4 hi.2.1 hi.2.2 h1n (by assumption)⟩ | exact ⟨⟨h1n, dall hi.1.2 (by assumption)⟩, hi.2⟩ | (exfalso; have hg := hi.1.2; rw [hik] at hg; have h0 := dance_0 hi.2.1 hi.2.2 hg; simp_all; done) | rfl
          · have hi1 : c ⟨⟩ ≠ 0 := hi.1
            have hi2 : danceC (st ⟨⟩) (sp ⟨⟩) (fd ⟨⟩) (l ⟨⟩) (n ⟨⟩) (k ⟨⟩) (tg ⟨⟩) (sh ⟨⟩) (tm ⟨⟩) (q ⟨⟩) = c ⟨⟩ := hi.2
            skip
            cbv
            repeat' first
              | (refine Br.mk (fun h => ?_) (fun h => ?_) <;> cbv)
              | (refine Ob.mk ?_ ?_; rotate_left; cbv)
            all_goals (try simp only [Unit.unit, Int.ofNat_lt, Int.ofNat_le, BE.val, IE.val, NE.val, ltB_iff, ltB_no, leB_iff, leB_no, Int.toNat_natCast, Nat.zero_add, Nat.add_zero, Nat.mul_one, forced, beq_iff_eq, beq_eq_false_iff_ne, bne_iff_ne, bne_eq_false_iff_eq] at *)
            all_goals first | with_reducible rfl | exact hi2.symm | (exfalso; simp_all; done)
    · cases hs
  · cases hs
end Go.Proofs.Ythkjlbggipocdaa.Sh
