/- What the first break of this seat compute, each shown once. No condition. -/
import Derived.Test.YthkjlbggipocdaaVm
set_option linter.unusedVariables false
set_option linter.unusedSimpArgs false
set_option linter.unusedSectionVars false
namespace Go.Proofs.Ythkjlbggipocdaa.Sh
open Go Go.Proofs
section
variable {st sp fd tm n s : Nat} {l L : List Nat} {k : Int} {m : Nat} {most : Int}
theorem fb_hit (h : lead (lowT L s) n < n) : fbreak st sp fd tm n s m k L = (k, ((lead (lowT L s) n : Nat) : Int), 0) := by cases m <;> simp [fbreak, h]
theorem fb_end (h : ¬ lead (lowT L s) n < n) : fbreak st sp fd tm n s 0 k L = (0, 0, 6) := by simp [fbreak, h]
theorem fb_next (h : ¬ lead (lowT L s) n < n) (hw : webOk st sp fd (stepW st sp fd tm L n) n = true) : fbreak st sp fd tm n s (m + 1) k L = fbreak st sp fd tm n s m (k + 1) (stepW st sp fd tm L n) := by simp [fbreak, h, hw]
theorem fb_stop (h : ¬ lead (lowT L s) n < n) (hw : webOk st sp fd (stepW st sp fd tm L n) n = false) : fbreak st sp fd tm n s (m + 1) k L = (0, 0, 4) := by simp [fbreak, h, hw]
theorem break_1 (h : webOk st sp fd l n = false) : breakW st sp fd l n s tm most = (0, 0, 1) := by simp [breakW, h]
theorem break_2 (h : webOk st sp fd l n = true) (h2 : (isPlain s && isTime tm && isCount most) = false) : breakW st sp fd l n s tm most = (0, 0, 2) := by unfold breakW; rw [if_pos h, h2]; rfl
theorem break_go (h : webOk st sp fd l n = true) (h2 : (isPlain s && isTime tm && isCount most) = true) : breakW st sp fd l n s tm most = fbreak st sp fd tm n s most.toNat 0 l := by unfold breakW; rw [if_pos h, if_pos h2]
theorem break_g {b : Bool} (hb : b = (isPlain s && isTime tm && isCount most)) (h : ¬ (webOk st sp fd l n = true ∧ b = true)) : breakW st sp fd l n s tm most = (0, 0, givenC (webOk st sp fd l n) b) := by
  unfold breakW givenC
  rw [← hb]
  split
  · rename_i ha
    split
    · rename_i hb; exact absurd ⟨ha, hb⟩ h
    · rfl
  · rfl
theorem fine3 (h : (isPlain s && isTime tm && isCount most) = true) : isPlain s = true ∧ isTime tm = true ∧ isCount most = true := by
  simp only [Bool.and_eq_true] at h; exact ⟨h.1.1, h.1.2, h.2⟩
theorem low_no {i : Nat} (h : fcmp .gtr .f32 (l.getD (i * 3 + 2) 0) s = true) : lowT l s i = false := by unfold lowT; rw [h]; rfl
theorem low_yes {i : Nat} (h : fcmp .gtr .f32 (l.getD (i * 3 + 2) 0) s = false) : lowT l s i = true := by unfold lowT; rw [h]; rfl
theorem hit_at {i : Nat} (hl : lead (lowT L s) i = i) (hi : i < n) (h : fcmp .gtr .f32 (L.getD (i * 3 + 2) 0) s = true) : fbreak st sp fd tm n s m k L = (k, (i : Int), 0) := by
  have e := lead_stop hl (low_no h) hi
  rw [fb_hit (by rw [e]; exact hi), e]
theorem lead_all (h : lead (lowT L s) n = n) : ¬ lead (lowT L s) n < n := by omega
end
theorem eq_most {k : Nat} {most : Int} (h0 : 0 ≤ most) : (((k : Nat) : Int) = most) → most.toNat - k = 0 := fun h => by omega
theorem ne_most {k : Nat} {most : Int} (h0 : 0 ≤ most) (hk : k ≤ most.toNat) : ¬ (((k : Nat) : Int) = most) → k < most.toNat ∧ most.toNat - k = (most.toNat - (k + 1)) + 1 := fun h => by omega
theorem fn73 : FnOk Try.prog 73 Try.f73 (bodyOf Try.f73) := ⟨Try.func73, rfl, by rfl⟩
def s73 : Spec := hspec fun args H => match args, H with
  | [.a [.f .f32 st, .f .f32 sp, .f .f32 fd, .sl 0 (.x o) (.x n)], .c (.f .f32 s), .c (.f .f32 tm), .c (.i .i64 (.x q))], [some ⟨false, 0, x⟩] => match x.toFl with
    | some l => some (.t [vI (breakW (st ()) (sp ()) (fd ()) (l ()) (n ()) (s ()) (tm ()) (q ())).1, vI (breakW (st ()) (sp ()) (fd ()) (l ()) (n ()) (s ()) (tm ()) (q ())).2.1, vI (breakW (st ()) (sp ()) (fd ()) (l ()) (n ()) (s ()) (tm ()) (q ())).2.2], [none], [fun _ => o () = 0 ∧ (l ()).length = 3 * n () ∧ n () ≤ 1048576])
    | _ => none
  | _, _ => none
def E73 : Env := fun g => envGetL [(51, ⟨true, s51, none⟩), (90, ⟨true, s90, none⟩), (101, ⟨true, s101, none⟩), (103, ⟨true, s103, none⟩), (105, ⟨true, s105, none⟩)] g
theorem E73ok : EnvOk Try.prog E73 := envOk_cons ok51 (envOk_cons ok90 (envOk_cons ok101 (envOk_cons ok103 (envOk_cons ok105 (envOk_nil _)))))
set_option maxRecDepth 100000 in
set_option maxHeartbeats 4000000 in
theorem ok73 : Ok Try.prog 73 (s73) := ok_of_wpaH (E := E73) mixed tts E73ok fn73 fun args H v H' o hs ho => by
  split at hs
  · rename_i st sp fd o n s tm q x
    split at hs
    · rename_i l hl
      cases hs
      obtain ⟨ho0, hlen, hbig⟩ := ho.one
      try simp only [Unit.unit] at ho0 hlen hbig
      refine ⟨_, HLe.cons (BLe.fl hl) HLe.nil, ?_⟩
      cbv
      refine Ob.mk ⟨ho0, hlen, hbig⟩ ?_
      cbv
      refine Br.mk (fun hv => ?_) (fun hv => ?_)
      · have hb1 := break_1 (s := s ⟨⟩) (tm := tm ⟨⟩) (most := q ⟨⟩) (not_t hv : webOk (st ⟨⟩) (sp ⟨⟩) (fd ⟨⟩) (l ⟨⟩) (n ⟨⟩) = false)
        cbv
        repeat' (refine Ob.mk ?_ ?_; rotate_left; cbv)
        all_goals (try simp only [Unit.unit, Int.ofNat_lt, Int.ofNat_le, BE.val, IE.val, NE.val, ltB_iff, ltB_no, leB_iff, leB_no, Int.toNat_natCast, Nat.zero_add, Nat.add_zero, Nat.mul_one, forced, beq_iff_eq, beq_eq_false_iff_ne, bne_iff_ne, bne_eq_false_iff_eq] at *)
        all_goals first | with_reducible rfl | (rw [hb1]; done)
      have hv' : webOk (st ⟨⟩) (sp ⟨⟩) (fd ⟨⟩) (l ⟨⟩) (n ⟨⟩) = true := not_f hv
      clear hv
      cbv
      by_cases hf : (isPlain (s ⟨⟩) && isTime (tm ⟨⟩) && isCount (q ⟨⟩)) = true
      rotate_left
      · have hb2 := break_2 hv' (by simpa using hf : (isPlain (s ⟨⟩) && isTime (tm ⟨⟩) && isCount (q ⟨⟩)) = false)
        repeat' first
          | (refine Br.mk (fun h => ?_) (fun h => ?_) <;> cbv)
          | (refine Ob.mk ?_ ?_; rotate_left; cbv)
        all_goals (try simp only [Unit.unit, Int.ofNat_lt, Int.ofNat_le, BE.val, IE.val, NE.val, ltB_iff, ltB_no, leB_iff, leB_no, Int.toNat_natCast, Nat.zero_add, Nat.add_zero, Nat.mul_one, forced, beq_iff_eq, beq_eq_false_iff_ne, bne_iff_ne, bne_eq_false_iff_eq] at *)
        all_goals first | with_reducible rfl | (rw [hb2]; done) | (exfalso; simp_all; done)
      obtain ⟨hf1, hf2, hf3⟩ := fine3 hf
      have hq2 : 0 ≤ q ⟨⟩ ∧ q ⟨⟩ ≤ 1000 := count_le hf3
      have hgo := break_go hv' hf
      repeat' first
        | (refine Br.mk (fun h => ?_) (fun h => ?_) <;> cbv)
      all_goals try (first | (exfalso; simp_all; done) | (exfalso; simp only [Unit.unit, Int.ofNat_lt, Int.ofNat_le, BE.val, IE.val, NE.val, ltB_iff, ltB_no, leB_iff, leB_no, Int.toNat_natCast, Nat.zero_add, Nat.add_zero, Nat.mul_one, forced, beq_iff_eq, beq_eq_false_iff_ne, bne_iff_ne, bne_eq_false_iff_eq] at *; simp_all; done))
      refine loop_rule (α := (Unit → Nat) ⊕ (Unit → Nat)) (c := ⟨tt, E73, 1⟩)
          (fun a => match a with | .inl _ => fr 63 [(1, .c (.f .f32 s)), (2, .c (.f .f32 tm)), (3, .c (.i .i64 (.x q))), (4, .c (.p 1 (.l 0))), (11, .c (.i .i64 (.l 0)))] | .inr k => fr 63 [(1, .c (.f .f32 s)), (2, .c (.f .f32 tm)), (3, .c (.i .i64 (.x q))), (4, .c (.p 1 (.l 0))), (11, .c (.i .i64 (.x fun _ => k ())))]) (fun a => match a with | .inl _ => [some ⟨false, 0, .fl l⟩, some ⟨true, 0, .lit [.f .f32 st, .f .f32 sp, .f .f32 fd, .sl 0 (.x o) (.x n)]⟩] | .inr k => [none, some ⟨true, 0, .lit [.f .f32 st, .f .f32 sp, .f .f32 fd, .sl 2 (.l 0) (.x n)]⟩, some ⟨true, 3, .fl fun _ => runW (st ()) (sp ()) (fd ()) (tm ()) (n ()) (l ()) (k ())⟩])
          (fun a => match a with | .inl _ => 0 ≤ (q ()).toNat ∧ breakW (st ()) (sp ()) (fd ()) (l ()) (n ()) (s ()) (tm ()) (q ()) = fbreak (st ()) (sp ()) (fd ()) (tm ()) (n ()) (s ()) ((q ()).toNat - 0) ((0 : Nat) : Int) (l ()) | .inr k => k () ≤ (q ()).toNat ∧ breakW (st ()) (sp ()) (fd ()) (l ()) (n ()) (s ()) (tm ()) (q ()) = fbreak (st ()) (sp ()) (fd ()) (tm ()) (n ()) (s ()) ((q ()).toNat - k ()) ((k () : Nat) : Int) (runW (st ()) (sp ()) (fd ()) (tm ()) (n ()) (l ()) (k ()))) (fun a => match a with | .inl _ => (q ()).toNat + 1 | .inr k => (q ()).toNat - k ()) (fun _ => (q ()).toNat + 2) ?_ ?_
      · refine .mk (.inl fun _ => 0) ⟨Nat.zero_le _, hgo⟩ (by dsimp only; omega) ?_
        cbv
        repeat' (refine Ob.mk ?_ ?_; rotate_left)
        all_goals (try simp only [Unit.unit, Int.ofNat_lt, Int.ofNat_le, BE.val, IE.val, NE.val, ltB_iff, ltB_no, leB_iff, leB_no, Int.toNat_natCast, Nat.zero_add, Nat.add_zero, Nat.mul_one, forced, beq_iff_eq, beq_eq_false_iff_ne, bne_iff_ne, bne_eq_false_iff_eq] at *)
        all_goals first | with_reducible rfl | trivial
      · rintro (k | k) hi
        · have hLx : (l ⟨⟩).length = 3 * n ⟨⟩ := hlen
          have hkq : 0 ≤ (q ⟨⟩).toNat := hi.1
          have hbw : breakW (st ⟨⟩) (sp ⟨⟩) (fd ⟨⟩) (l ⟨⟩) (n ⟨⟩) (s ⟨⟩) (tm ⟨⟩) (q ⟨⟩) = fbreak (st ⟨⟩) (sp ⟨⟩) (fd ⟨⟩) (tm ⟨⟩) (n ⟨⟩) (s ⟨⟩) ((q ⟨⟩).toNat - 0) ((0 : Nat) : Int) (l ⟨⟩) := hi.2
          cbv
          refine loop_rule (α := Unit → Nat) (c := ⟨tt, E73, 1⟩)
              (fun j => fr 63 [(1, .c (.f .f32 s)), (2, .c (.f .f32 tm)), (3, .c (.i .i64 (.x q))), (4, .c (.p 1 (.l 0))), (11, .c (.i .i64 (.l 0))), (37, .c (.sl 0 (.x o) (.x n))), (38, .c (.i .i64 (.x fun _ => n ()))), (39, .c (.i .i64 (.x fun _ => j ())))]) (fun j => [some ⟨false, 0, .fl l⟩, some ⟨true, 0, .lit [.f .f32 st, .f .f32 sp, .f .f32 fd, .sl 0 (.x o) (.x n)]⟩])
              (fun j => j () ≤ n () ∧ lead (lowT (l ()) (s ())) (j ()) = j ()) (fun j => n () - j ()) (fun _ => n () + 1) ?_ ?_
          · refine .mk (fun _ => 0) ⟨Nat.zero_le _, rfl⟩ (by dsimp only; omega) ?_
            cbv
            repeat' (refine Ob.mk ?_ ?_; rotate_left)
            all_goals (try simp only [Unit.unit, Int.ofNat_lt, Int.ofNat_le, BE.val, IE.val, NE.val, ltB_iff, ltB_no, leB_iff, leB_no, Int.toNat_natCast, Nat.zero_add, Nat.add_zero, Nat.mul_one, forced, beq_iff_eq, beq_eq_false_iff_ne, bne_iff_ne, bne_eq_false_iff_eq] at *)
            all_goals first | with_reducible rfl | trivial | rfl
          · intro j hj
            have hj1 : j ⟨⟩ ≤ n ⟨⟩ := hj.1
            have hj2 : lead (lowT (l ⟨⟩) (s ⟨⟩)) (j ⟨⟩) = j ⟨⟩ := hj.2
            cbv
            refine Br.mk (fun h0 => ?_) (fun h0 => ?_)
            · have hjn : j ⟨⟩ < n ⟨⟩ := Int.ofNat_lt.1 (ltB_iff.1 h0)
              cbv
              repeat' first
                | (refine Br.mk (fun h => ?_) (fun h => ?_) <;> cbv)
                | (refine Ob.mk ?_ ?_; rotate_left; cbv)
                | (refine Lex.mk (by kernel_rfl) ?_; cbv)
                | (refine Next.mk (fun _ => j () + 1) ?_ ?_ ?_)
              all_goals (try simp only [Unit.unit, Int.ofNat_lt, Int.ofNat_le, BE.val, IE.val, NE.val, ltB_iff, ltB_no, leB_iff, leB_no, Int.toNat_natCast, Nat.zero_add, Nat.add_zero, Nat.mul_one, forced, beq_iff_eq, beq_eq_false_iff_ne, bne_iff_ne, bne_eq_false_iff_eq] at *)
              all_goals (try simp only [ho0, Nat.zero_add] at *)
              all_goals first | with_reducible rfl | omega | exact wrap64_nat (by omega) | (refine ⟨Int.natCast_nonneg _, ?_⟩; omega) | (rw [hLx]; omega) | exact ⟨by trivial, hLx, hbig⟩ | exact ⟨ho0, hLx, hbig⟩ | exact ⟨by omega, lead_step hj2 (low_yes (by assumption))⟩ | (rw [hbw, hit_at hj2 hjn (by assumption)]; done) | (rw [hbw, hit_at hj2 hjn (by assumption)]; rfl)
            · have hjn : j ⟨⟩ = n ⟨⟩ := Nat.le_antisymm hj1 (Int.not_lt.1 (ltB_no.1 h0) |> Int.ofNat_le.1)
              rw [hjn] at hj2
              have hall := lead_all hj2
              cbv
              refine Br.mk (fun hm => ?_) (fun hm => ?_)
              · have hz := eq_most (k := 0) hq2.1 (beq_iff_eq.1 hm)
                rw [hz, fb_end hall] at hbw
                cbv
                repeat' (refine Ob.mk ?_ ?_; rotate_left; cbv)
                all_goals (try simp only [Unit.unit, Int.ofNat_lt, Int.ofNat_le, BE.val, IE.val, NE.val, ltB_iff, ltB_no, leB_iff, leB_no, Int.toNat_natCast, Nat.zero_add, Nat.add_zero, Nat.mul_one, forced, beq_iff_eq, beq_eq_false_iff_ne, bne_iff_ne, bne_eq_false_iff_eq] at *)
                all_goals first | with_reducible rfl | (rw [hbw]; done) | (rw [hbw]; rfl) | rfl
              · obtain ⟨hk1, hk2⟩ := ne_most (k := 0) hq2.1 hkq (beq_eq_false_iff_ne.1 hm)
                rw [hk2] at hbw
                clear hm h0
                cbv
                repeat' (refine Ob.mk ?_ ?_; rotate_left; cbv)
                refine Br.mk (fun h => ?_) (fun h => ?_)
                · rw [fb_stop hall (not_t h)] at hbw
                  cbv
                  repeat' (refine Ob.mk ?_ ?_; rotate_left; cbv)
                  all_goals (try simp only [Unit.unit, Int.ofNat_lt, Int.ofNat_le, BE.val, IE.val, NE.val, ltB_iff, ltB_no, leB_iff, leB_no, Int.toNat_natCast, Nat.zero_add, Nat.add_zero, Nat.mul_one, forced, beq_iff_eq, beq_eq_false_iff_ne, bne_iff_ne, bne_eq_false_iff_eq] at *)
                  all_goals first | with_reducible rfl | (rw [hbw]; done) | (rw [hbw]; rfl) | rfl
                · rw [fb_next hall (not_f h)] at hbw
                  cbv
                  repeat' first | (refine Ob.mk ?_ ?_; rotate_left; cbv) | (refine Next.ren [1, 2] (.inr fun _ => 1) ?_ ?_ ?_)
                  all_goals (try simp only [Unit.unit, Int.ofNat_lt, Int.ofNat_le, BE.val, IE.val, NE.val, ltB_iff, ltB_no, leB_iff, leB_no, Int.toNat_natCast, Nat.zero_add, Nat.add_zero, Nat.mul_one, forced, beq_iff_eq, beq_eq_false_iff_ne, bne_iff_ne, bne_eq_false_iff_eq] at *)
                  all_goals (try simp only [ho0, Nat.zero_add] at *)
                  all_goals first | with_reducible rfl | omega | exact wrap64_nat (by omega) | exact ⟨by omega, hbw⟩ | rfl | (exact ⟨by omega, by rw [hbw]; rfl⟩)
                all_goals first | exact ⟨ho0, hLx, hbig⟩ | exact ⟨rfl, hLx, hbig⟩
        · have hLx : (runW (st ⟨⟩) (sp ⟨⟩) (fd ⟨⟩) (tm ⟨⟩) (n ⟨⟩) (l ⟨⟩) (k ⟨⟩)).length = 3 * n ⟨⟩ := runW_len (st ⟨⟩) (sp ⟨⟩) (fd ⟨⟩) (tm ⟨⟩) (n ⟨⟩) (l ⟨⟩) hlen (k ⟨⟩)
          have hkq : k ⟨⟩ ≤ (q ⟨⟩).toNat := hi.1
          have hbw : breakW (st ⟨⟩) (sp ⟨⟩) (fd ⟨⟩) (l ⟨⟩) (n ⟨⟩) (s ⟨⟩) (tm ⟨⟩) (q ⟨⟩) = fbreak (st ⟨⟩) (sp ⟨⟩) (fd ⟨⟩) (tm ⟨⟩) (n ⟨⟩) (s ⟨⟩) ((q ⟨⟩).toNat - k ⟨⟩) ((k ⟨⟩ : Nat) : Int) (runW (st ⟨⟩) (sp ⟨⟩) (fd ⟨⟩) (tm ⟨⟩) (n ⟨⟩) (l ⟨⟩) (k ⟨⟩)) := hi.2
          cbv
          refine loop_rule (α := Unit → Nat) (c := ⟨tt, E73, 1⟩)
              (fun j => fr 63 [(1, .c (.f .f32 s)), (2, .c (.f .f32 tm)), (3, .c (.i .i64 (.x q))), (4, .c (.p 1 (.l 0))), (11, .c (.i .i64 (.x fun _ => k ()))), (37, .c (.sl 2 (.l 0) (.x n))), (38, .c (.i .i64 (.x fun _ => n ()))), (39, .c (.i .i64 (.x fun _ => j ())))]) (fun j => [none, some ⟨true, 0, .lit [.f .f32 st, .f .f32 sp, .f .f32 fd, .sl 2 (.l 0) (.x n)]⟩, some ⟨true, 3, .fl fun _ => runW (st ()) (sp ()) (fd ()) (tm ()) (n ()) (l ()) (k ())⟩])
              (fun j => j () ≤ n () ∧ lead (lowT (runW (st ()) (sp ()) (fd ()) (tm ()) (n ()) (l ()) (k ())) (s ())) (j ()) = j ()) (fun j => n () - j ()) (fun _ => n () + 1) ?_ ?_
          · refine .mk (fun _ => 0) ⟨Nat.zero_le _, rfl⟩ (by dsimp only; omega) ?_
            cbv
            repeat' (refine Ob.mk ?_ ?_; rotate_left)
            all_goals (try simp only [Unit.unit, Int.ofNat_lt, Int.ofNat_le, BE.val, IE.val, NE.val, ltB_iff, ltB_no, leB_iff, leB_no, Int.toNat_natCast, Nat.zero_add, Nat.add_zero, Nat.mul_one, forced, beq_iff_eq, beq_eq_false_iff_ne, bne_iff_ne, bne_eq_false_iff_eq] at *)
            all_goals first | with_reducible rfl | trivial | rfl
          · intro j hj
            have hj1 : j ⟨⟩ ≤ n ⟨⟩ := hj.1
            have hj2 : lead (lowT (runW (st ⟨⟩) (sp ⟨⟩) (fd ⟨⟩) (tm ⟨⟩) (n ⟨⟩) (l ⟨⟩) (k ⟨⟩)) (s ⟨⟩)) (j ⟨⟩) = j ⟨⟩ := hj.2
            cbv
            refine Br.mk (fun h0 => ?_) (fun h0 => ?_)
            · have hjn : j ⟨⟩ < n ⟨⟩ := Int.ofNat_lt.1 (ltB_iff.1 h0)
              cbv
              repeat' first
                | (refine Br.mk (fun h => ?_) (fun h => ?_) <;> cbv)
                | (refine Ob.mk ?_ ?_; rotate_left; cbv)
                | (refine Lex.mk (by kernel_rfl) ?_; cbv)
                | (refine Next.mk (fun _ => j () + 1) ?_ ?_ ?_)
              all_goals (try simp only [Unit.unit, Int.ofNat_lt, Int.ofNat_le, BE.val, IE.val, NE.val, ltB_iff, ltB_no, leB_iff, leB_no, Int.toNat_natCast, Nat.zero_add, Nat.add_zero, Nat.mul_one, forced, beq_iff_eq, beq_eq_false_iff_ne, bne_iff_ne, bne_eq_false_iff_eq] at *)
              all_goals (try simp only [ho0, Nat.zero_add] at *)
              all_goals first | with_reducible rfl | omega | exact wrap64_nat (by omega) | (refine ⟨Int.natCast_nonneg _, ?_⟩; omega) | (rw [hLx]; omega) | exact ⟨by trivial, hLx, hbig⟩ | exact ⟨rfl, hLx, hbig⟩ | exact ⟨by omega, lead_step hj2 (low_yes (by assumption))⟩ | (rw [hbw, hit_at hj2 hjn (by assumption)]; done) | (rw [hbw, hit_at hj2 hjn (by assumption)]; rfl)
            · have hjn : j ⟨⟩ = n ⟨⟩ := Nat.le_antisymm hj1 (Int.not_lt.1 (ltB_no.1 h0) |> Int.ofNat_le.1)
              rw [hjn] at hj2
              have hall := lead_all hj2
              cbv
              refine Br.mk (fun hm => ?_) (fun hm => ?_)
              · have hz := eq_most (k := k ⟨⟩) hq2.1 (beq_iff_eq.1 hm)
                rw [hz, fb_end hall] at hbw
                cbv
                repeat' (refine Ob.mk ?_ ?_; rotate_left; cbv)
                all_goals (try simp only [Unit.unit, Int.ofNat_lt, Int.ofNat_le, BE.val, IE.val, NE.val, ltB_iff, ltB_no, leB_iff, leB_no, Int.toNat_natCast, Nat.zero_add, Nat.add_zero, Nat.mul_one, forced, beq_iff_eq, beq_eq_false_iff_ne, bne_iff_ne, bne_eq_false_iff_eq] at *)
                all_goals first | with_reducible rfl | (rw [hbw]; done) | (rw [hbw]; rfl) | rfl
              · obtain ⟨hk1, hk2⟩ := ne_most (k := k ⟨⟩) hq2.1 hkq (beq_eq_false_iff_ne.1 hm)
                rw [hk2] at hbw
                clear hm h0
                cbv
                repeat' (refine Ob.mk ?_ ?_; rotate_left; cbv)
                refine Br.mk (fun h => ?_) (fun h => ?_)
                · rw [fb_stop hall (not_t h)] at hbw
                  cbv
                  repeat' (refine Ob.mk ?_ ?_; rotate_left; cbv)
                  all_goals (try simp only [Unit.unit, Int.ofNat_lt, Int.ofNat_le, BE.val, IE.val, NE.val, ltB_iff, ltB_no, leB_iff, leB_no, Int.toNat_natCast, Nat.zero_add, Nat.add_zero, Nat.mul_one, forced, beq_iff_eq, beq_eq_false_iff_ne, bne_iff_ne, bne_eq_false_iff_eq] at *)
                  all_goals first | with_reducible rfl | (rw [hbw]; done) | (rw [hbw]; rfl) | rfl
                · rw [fb_next hall (not_f h)] at hbw
                  cbv
                  repeat' first | (refine Ob.mk ?_ ?_; rotate_left; cbv) | (refine Next.ren [1, 3] (.inr fun _ => k () + 1) ?_ ?_ ?_)
                  all_goals (try simp only [Unit.unit, Int.ofNat_lt, Int.ofNat_le, BE.val, IE.val, NE.val, ltB_iff, ltB_no, leB_iff, leB_no, Int.toNat_natCast, Nat.zero_add, Nat.add_zero, Nat.mul_one, forced, beq_iff_eq, beq_eq_false_iff_ne, bne_iff_ne, bne_eq_false_iff_eq] at *)
                  all_goals (try simp only [ho0, Nat.zero_add] at *)
                  all_goals first | with_reducible rfl | omega | exact wrap64_nat (by omega) | exact ⟨by omega, hbw⟩ | rfl | (exact ⟨by omega, by rw [hbw]; rfl⟩)
                all_goals first | exact ⟨ho0, hLx, hbig⟩ | exact ⟨rfl, hLx, hbig⟩
    · cases hs
  · cases hs
theorem fn72 : FnOk Try.prog 72 Try.f72 (bodyOf Try.f72) := ⟨Try.func72, rfl, by rfl⟩
def s72 : Spec := hspec fun args H => match args, H with
  | [.a [.f .f32 st, .f .f32 sp, .f .f32 fd, .sl 0 (.x o) (.x n)], .c (.f .f32 s), .c (.f .f32 tm), .c (.i .i64 (.x q))], [some ⟨false, 0, x⟩] => match x.toFl with
    | some l => some (.t [vI (breakW (st ()) (sp ()) (fd ()) (l ()) (n ()) (s ()) (tm ()) (q ())).1, vI (breakW (st ()) (sp ()) (fd ()) (l ()) (n ()) (s ()) (tm ()) (q ())).2.1, vI (breakW (st ()) (sp ()) (fd ()) (l ()) (n ()) (s ()) (tm ()) (q ())).2.2], [none], [fun _ => o () = 0 ∧ (l ()).length = 3 * n () ∧ n () ≤ 1048576])
    | _ => none
  | _, _ => none
def E72 : Env := fun g => envGetL [(93, ⟨true, s93, none⟩), (106, ⟨true, s106, none⟩), (107, ⟨true, s107, none⟩), (92, ⟨true, s92, none⟩), (89, ⟨true, s89, none⟩), (109, ⟨true, sNo, some (s109T, s109F)⟩)] g
theorem E72ok : EnvOk Try.prog E72 := envOk_cons ok93 (envOk_cons ok106 (envOk_cons ok107 (envOk_cons ok92 (envOk_cons ok89 (envOk_alt ok109T ok109F (envOk_nil _))))))
set_option maxRecDepth 100000 in
set_option maxHeartbeats 4000000 in
theorem ok72 : Ok Try.prog 72 (s72) := ok_of_wpaH (E := E72) mixed tts E72ok fn72 fun args H v H' o hs ho => by
  split at hs
  · rename_i st sp fd o n s tm q x
    split at hs
    · rename_i l hl
      cases hs
      obtain ⟨ho0, hlen, hbig⟩ := ho.one
      try simp only [Unit.unit] at ho0 hlen hbig
      refine ⟨_, HLe.cons (BLe.fl hl) HLe.nil, ?_⟩
      cbv
      by_cases hno : ¬ (webOk (st ⟨⟩) (sp ⟨⟩) (fd ⟨⟩) (l ⟨⟩) (n ⟨⟩) = true ∧ (isPlain (s ⟨⟩) && isTime (tm ⟨⟩) && isCount (q ⟨⟩)) = true)
      · have kA : isPlain (s ⟨⟩) = true → isTime (tm ⟨⟩) = true → breakW (st ⟨⟩) (sp ⟨⟩) (fd ⟨⟩) (l ⟨⟩) (n ⟨⟩) (s ⟨⟩) (tm ⟨⟩) (q ⟨⟩) = (0, 0, givenC (webOk (st ⟨⟩) (sp ⟨⟩) (fd ⟨⟩) (l ⟨⟩) (n ⟨⟩)) (isCount (q ⟨⟩))) := fun h1 h2 => break_g (by simp [h1, h2]) (fun e => hno ⟨e.1, by simp [h1, h2, e.2]⟩)
        have kB : isPlain (s ⟨⟩) = true → isTime (tm ⟨⟩) = false → breakW (st ⟨⟩) (sp ⟨⟩) (fd ⟨⟩) (l ⟨⟩) (n ⟨⟩) (s ⟨⟩) (tm ⟨⟩) (q ⟨⟩) = (0, 0, givenC (webOk (st ⟨⟩) (sp ⟨⟩) (fd ⟨⟩) (l ⟨⟩) (n ⟨⟩)) false) := fun h1 h2 => break_g (by simp [h1, h2]) (fun e => by simp at e)
        have kC : isPlain (s ⟨⟩) = false → breakW (st ⟨⟩) (sp ⟨⟩) (fd ⟨⟩) (l ⟨⟩) (n ⟨⟩) (s ⟨⟩) (tm ⟨⟩) (q ⟨⟩) = (0, 0, givenC (webOk (st ⟨⟩) (sp ⟨⟩) (fd ⟨⟩) (l ⟨⟩) (n ⟨⟩)) false) := fun h1 => break_g (by simp [h1]) (fun e => by simp at e)
        have gA : isPlain (s ⟨⟩) = true → isTime (tm ⟨⟩) = true → givenC (webOk (st ⟨⟩) (sp ⟨⟩) (fd ⟨⟩) (l ⟨⟩) (n ⟨⟩)) (isCount (q ⟨⟩)) ≠ 0 := fun h1 h2 => given_no (fun e => hno ⟨e.1, by simp [h1, h2, e.2]⟩)
        have gB : givenC (webOk (st ⟨⟩) (sp ⟨⟩) (fd ⟨⟩) (l ⟨⟩) (n ⟨⟩)) false ≠ 0 := given_no (fun e => by simp at e)
        repeat' first
          | (refine Br.mk (fun h => ?_) (fun h => ?_) <;> cbv)
          | (refine Ob.mk ?_ ?_; rotate_left; cbv)
        all_goals try (first | exact ⟨ho0, hlen, hbig⟩)
        all_goals
          refine Loop.mk 1 ?_
          cbv
          refine Gen.same ?_
          cbv
          refine Br.mk (fun hz => ?_) (fun hz => ?_)
          · first | exact absurd (beq_iff_eq.1 hz) (gA (by assumption) (by assumption)) | exact absurd (beq_iff_eq.1 hz) gB
          · clear hz
            cbv
            repeat' (refine Ob.mk ?_ ?_; rotate_left; cbv)
            all_goals (try simp only [Unit.unit, BE.val, IE.val, NE.val] at *)
            all_goals first | with_reducible rfl | (rw [kA (by assumption) (by assumption)]; done) | (rw [kB (by assumption) (by assumption)]; done) | (rw [kC (by assumption)]; done) | (rw [kA (by assumption) (by assumption)]; rfl) | (rw [kB (by assumption) (by assumption)]; rfl) | (rw [kC (by assumption)]; rfl)
      · obtain ⟨hv', hf⟩ := Classical.not_not.1 hno
        obtain ⟨hf1, hf2, hf3⟩ := fine3 hf
        have hq2 : 0 ≤ q ⟨⟩ ∧ q ⟨⟩ ≤ 1000 := count_le hf3
        have hgo := break_go hv' hf
        clear hno
        repeat' first
          | (refine Br.mk (fun h => ?_) (fun h => ?_) <;> cbv)
          | (refine Ob.mk ?_ ?_; rotate_left; cbv)
        all_goals try (first | exact ⟨ho0, hlen, hbig⟩ | (exfalso; simp_all; done))
        refine loop_rule (α := (Unit → Nat) ⊕ (Unit → Int)) (c := ⟨tt, E72, 1⟩)
          (fun a => match a with | .inl k => fr 57 [(1, .c (.f .f32 s)), (2, .c (.f .f32 tm)), (3, .c (.i .i64 (.x q))), (11, .c (.i .i64 (.l 0))), (12, .c (.p 3 (.l 0))), (13, .c (.i .i64 (.x fun _ => k ())))] | .inr c => fr 57 [(11, .c (.i .i64 (.x fun _ => c ())))]) (fun a => match a with | .inl k => [none, none, some ⟨true, 3, .fl fun _ => runW (st ()) (sp ()) (fd ()) (tm ()) (n ()) (l ()) (k ())⟩, some ⟨true, 0, .lit [.f .f32 st, .f .f32 sp, .f .f32 fd, .sl 2 (.l 0) (.x n)]⟩] | .inr c => [none])
          (fun a => match a with | .inl k => k () ≤ (q ()).toNat ∧ breakW (st ()) (sp ()) (fd ()) (l ()) (n ()) (s ()) (tm ()) (q ()) = fbreak (st ()) (sp ()) (fd ()) (tm ()) (n ()) (s ()) ((q ()).toNat - k ()) ((k () : Nat) : Int) (runW (st ()) (sp ()) (fd ()) (tm ()) (n ()) (l ()) (k ())) | .inr c => c () ≠ 0 ∧ breakW (st ()) (sp ()) (fd ()) (l ()) (n ()) (s ()) (tm ()) (q ()) = (0, 0, c ())) (fun a => match a with | .inl k => (q ()).toNat - k () + 1 | .inr c => 0) (fun _ => (q ()).toNat + 2) ?_ ?_
        · refine .mk (.inl fun _ => 0) ⟨Nat.zero_le _, hgo⟩ (by dsimp only; omega) ?_
          cbv
          repeat' (refine Ob.mk ?_ ?_; rotate_left)
          all_goals (try simp only [Unit.unit, Int.ofNat_lt, Int.ofNat_le, BE.val, IE.val, NE.val, ltB_iff, ltB_no, leB_iff, leB_no, Int.toNat_natCast, Nat.zero_add, Nat.add_zero, Nat.mul_one, forced, beq_iff_eq, beq_eq_false_iff_ne, bne_iff_ne, bne_eq_false_iff_eq] at *)
          all_goals first | with_reducible rfl | trivial | exact given_0 (by first | (simp_all; done) | (simp_all [BE.val, IE.val, NE.val]; done)) | (simp only [ho0, List.nil_append, seg_all hlen]; done) | rfl
        · rintro (k | c) hi
          · have hLx : (runW (st ⟨⟩) (sp ⟨⟩) (fd ⟨⟩) (tm ⟨⟩) (n ⟨⟩) (l ⟨⟩) (k ⟨⟩)).length = 3 * n ⟨⟩ := runW_len (st ⟨⟩) (sp ⟨⟩) (fd ⟨⟩) (tm ⟨⟩) (n ⟨⟩) (l ⟨⟩) hlen (k ⟨⟩)
            have hkq : k ⟨⟩ ≤ (q ⟨⟩).toNat := hi.1
            have hbw : breakW (st ⟨⟩) (sp ⟨⟩) (fd ⟨⟩) (l ⟨⟩) (n ⟨⟩) (s ⟨⟩) (tm ⟨⟩) (q ⟨⟩) = fbreak (st ⟨⟩) (sp ⟨⟩) (fd ⟨⟩) (tm ⟨⟩) (n ⟨⟩) (s ⟨⟩) ((q ⟨⟩).toNat - k ⟨⟩) ((k ⟨⟩ : Nat) : Int) (runW (st ⟨⟩) (sp ⟨⟩) (fd ⟨⟩) (tm ⟨⟩) (n ⟨⟩) (l ⟨⟩) (k ⟨⟩)) := hi.2
            cbv
            refine loop_rule (α := Unit → Nat) (c := ⟨tt, E72, 1⟩)
                (fun j => fr 57 [(1, .c (.f .f32 s)), (2, .c (.f .f32 tm)), (3, .c (.i .i64 (.x q))), (11, .c (.i .i64 (.l 0))), (12, .c (.p 3 (.l 0))), (13, .c (.i .i64 (.x fun _ => k ()))), (14, .c (.i .i64 (.x fun _ => j ())))]) (fun j => [none, none, some ⟨true, 3, .fl fun _ => runW (st ()) (sp ()) (fd ()) (tm ()) (n ()) (l ()) (k ())⟩, some ⟨true, 0, .lit [.f .f32 st, .f .f32 sp, .f .f32 fd, .sl 2 (.l 0) (.x n)]⟩])
                (fun j => j () ≤ n () ∧ lead (lowT (runW (st ()) (sp ()) (fd ()) (tm ()) (n ()) (l ()) (k ())) (s ())) (j ()) = j ()) (fun j => n () - j ()) (fun _ => n () + 1) ?_ ?_
            · refine .mk (fun _ => 0) ⟨Nat.zero_le _, rfl⟩ (by dsimp only; omega) ?_
              cbv
              repeat' (refine Ob.mk ?_ ?_; rotate_left)
              all_goals (try simp only [Unit.unit, Int.ofNat_lt, Int.ofNat_le, BE.val, IE.val, NE.val, ltB_iff, ltB_no, leB_iff, leB_no, Int.toNat_natCast, Nat.zero_add, Nat.add_zero, Nat.mul_one, forced, beq_iff_eq, beq_eq_false_iff_ne, bne_iff_ne, bne_eq_false_iff_eq] at *)
              all_goals first | with_reducible rfl | trivial | rfl
            · intro j hj
              have hj1 : j ⟨⟩ ≤ n ⟨⟩ := hj.1
              have hj2 : lead (lowT (runW (st ⟨⟩) (sp ⟨⟩) (fd ⟨⟩) (tm ⟨⟩) (n ⟨⟩) (l ⟨⟩) (k ⟨⟩)) (s ⟨⟩)) (j ⟨⟩) = j ⟨⟩ := hj.2
              cbv
              refine Br.mk (fun h0 => ?_) (fun h0 => ?_)
              · have hjn : j ⟨⟩ < n ⟨⟩ := Int.ofNat_lt.1 (ltB_iff.1 h0)
                cbv
                repeat' first
                  | (refine Br.mk (fun h => ?_) (fun h => ?_) <;> cbv)
                  | (refine Ob.mk ?_ ?_; rotate_left; cbv)
                  | (refine Lex.mk (by kernel_rfl) ?_; cbv)
                  | (refine Next.mk (fun _ => j () + 1) ?_ ?_ ?_)
                all_goals (try simp only [Unit.unit, Int.ofNat_lt, Int.ofNat_le, BE.val, IE.val, NE.val, ltB_iff, ltB_no, leB_iff, leB_no, Int.toNat_natCast, Nat.zero_add, Nat.add_zero, Nat.mul_one, forced, beq_iff_eq, beq_eq_false_iff_ne, bne_iff_ne, bne_eq_false_iff_eq] at *)
                all_goals (try simp only [ho0, Nat.zero_add] at *)
                all_goals first | with_reducible rfl | omega | exact wrap64_nat (by omega) | (refine ⟨Int.natCast_nonneg _, ?_⟩; omega) | (rw [hLx]; omega) | exact ⟨by trivial, hLx, hbig⟩ | exact ⟨rfl, hLx, hbig⟩ | exact ⟨by omega, lead_step hj2 (low_yes (by assumption))⟩ | (rw [hbw, hit_at hj2 hjn (by assumption)]; done) | (rw [hbw, hit_at hj2 hjn (by assumption)]; rfl)
              · have hjn : j ⟨⟩ = n ⟨⟩ := Nat.le_antisymm hj1 (Int.not_lt.1 (ltB_no.1 h0) |> Int.ofNat_le.1)
                rw [hjn] at hj2
                have hall := lead_all hj2
                cbv
                refine Br.mk (fun hm => ?_) (fun hm => ?_)
                · have hz := eq_most (k := k ⟨⟩) hq2.1 (beq_iff_eq.1 hm)
                  rw [hz, fb_end hall] at hbw
                  cbv
                  repeat' (refine Ob.mk ?_ ?_; rotate_left; cbv)
                  all_goals (try simp only [Unit.unit, Int.ofNat_lt, Int.ofNat_le, BE.val, IE.val, NE.val, ltB_iff, ltB_no, leB_iff, leB_no, Int.toNat_natCast, Nat.zero_add, Nat.add_zero, Nat.mul_one, forced, beq_iff_eq, beq_eq_false_iff_ne, bne_iff_ne, bne_eq_false_iff_eq] at *)
                  all_goals first | with_reducible rfl | (rw [hbw]; done) | (rw [hbw]; rfl) | rfl
                · obtain ⟨hk1, hk2⟩ := ne_most (k := k ⟨⟩) hq2.1 hkq (beq_eq_false_iff_ne.1 hm)
                  rw [hk2] at hbw
                  clear hm h0
                  cbv
                  refine alt_b (fun h => ?_) (fun h => ?_)
                  · rw [fb_next hall h] at hbw
                    cbv
                    repeat' first | (refine Ob.mk ?_ ?_; rotate_left; cbv) | (refine Next.ren [1, 4, 3] (.inl fun _ => k () + 1) ?_ ?_ ?_)
                    all_goals (try simp only [Unit.unit, Int.ofNat_lt, Int.ofNat_le, BE.val, IE.val, NE.val, ltB_iff, ltB_no, leB_iff, leB_no, Int.toNat_natCast, Nat.zero_add, Nat.add_zero, Nat.mul_one, forced, beq_iff_eq, beq_eq_false_iff_ne, bne_iff_ne, bne_eq_false_iff_eq] at *)
                    all_goals (try simp only [ho0, Nat.zero_add] at *)
                    all_goals first | with_reducible rfl | omega | exact wrap64_nat (by omega) | exact ⟨by omega, hbw⟩ | rfl | exact ⟨rfl, hLx, hbig⟩ | exact ⟨by trivial, hLx, hbig⟩
                  · rw [fb_stop hall h] at hbw
                    cbv
                    repeat' first | (refine Ob.mk ?_ ?_; rotate_left; cbv) | (refine Next.mk (.inr fun _ => 4) ?_ ?_ ?_)
                    all_goals (try simp only [Unit.unit, Int.ofNat_lt, Int.ofNat_le, BE.val, IE.val, NE.val, ltB_iff, ltB_no, leB_iff, leB_no, Int.toNat_natCast, Nat.zero_add, Nat.add_zero, Nat.mul_one, forced, beq_iff_eq, beq_eq_false_iff_ne, bne_iff_ne, bne_eq_false_iff_eq] at *)
                    all_goals (try simp only [ho0, Nat.zero_add] at *)
                    all_goals first | with_reducible rfl | omega | exact ⟨by decide, hbw⟩ | rfl | exact ⟨rfl, hLx, hbig⟩ | exact ⟨by trivial, hLx, hbig⟩
          · have hc1 : c ⟨⟩ ≠ 0 := hi.1
            have hbw : breakW (st ⟨⟩) (sp ⟨⟩) (fd ⟨⟩) (l ⟨⟩) (n ⟨⟩) (s ⟨⟩) (tm ⟨⟩) (q ⟨⟩) = (0, 0, c ⟨⟩) := hi.2
            cbv
            refine Br.mk (fun h => ?_) (fun h => ?_)
            · exact absurd (beq_iff_eq.1 h) hc1
            · cbv
              repeat' (refine Ob.mk ?_ ?_; rotate_left; cbv)
              all_goals (try simp only [Unit.unit, Int.ofNat_lt, Int.ofNat_le, BE.val, IE.val, NE.val, ltB_iff, ltB_no, leB_iff, leB_no, Int.toNat_natCast, Nat.zero_add, Nat.add_zero, Nat.mul_one, forced, beq_iff_eq, beq_eq_false_iff_ne, bne_iff_ne, bne_eq_false_iff_eq] at *)
              all_goals first | with_reducible rfl | (rw [hbw]; done) | (rw [hbw]; rfl)
    · cases hs
  · cases hs
end Go.Proofs.Ythkjlbggipocdaa.Sh
