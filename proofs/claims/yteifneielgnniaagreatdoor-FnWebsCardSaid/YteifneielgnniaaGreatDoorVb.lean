/- The functions of webs, second part; the draws. No condition. -/
import Derived.Test.YteifneielgnniaaGreatDoorVa
set_option linter.unusedVariables false
set_option linter.unusedSimpArgs false
set_option linter.unusedSectionVars false
section
namespace Go.Proofs.YteifneielgnniaaGreatDoor.Sh
open Go Go.Proofs
theorem fn144 : FnOk Tryz.prog 144 Tryz.f144 (bodyOf Tryz.f144) := ⟨Tryz.func144, rfl, by rfl⟩
def s144 : Spec := fun args H => match args with
  | [.c (.f .f64 e)] => some (.c (.f .f64 fun _ => absB (e ())), H, [])
  | _ => none
theorem ok144 : Ok Tryz.prog 144 s144 := by
  intro args H v H' o hs ho μ W w vs hW hH hr
  unfold s144 at hs
  split at hs
  · rename_i e
    cases hs
    match vs, hr with
    | [x], hr =>
      obtain ⟨⟨b, rfl, hb⟩, _⟩ := hr
      refine .inl ⟨callFunc_run fn144 _ _, (abs_walk b w).mono ?_⟩
      rintro e' w' ⟨rfl, rfl⟩
      refine ⟨_, rfl, μ, agree.refl _ _, Nat.le_refl _, hH, ⟨_, rfl, ?_⟩, Fr.refl _ _⟩
      rcases hb with rfl | ⟨h1, h2⟩
      · exact .inl rfl
      · exact .inr ⟨absB_nan h1, absB_nan h2⟩
  · cases hs
theorem fn118 : FnOk Tryz.prog 118 Tryz.f118 (bodyOf Tryz.f118) := ⟨Tryz.func118, rfl, by rfl⟩
def s118 : Spec := hspec fun args H => match args, H with
  | [.c (.f .f32 a)], [] => some (F (sizeI (a ())), [], [])
  | _, _ => none
def E118 : Env := fun g => envGetL [(144, ⟨true, s144, none⟩)] g
theorem E118ok : EnvOk Tryz.prog E118 := envOk_cons ok144 (envOk_nil _)
theorem ok118 : Ok Tryz.prog 118 (s118) := ok_of_wpaH (E := E118) mixed tts E118ok fn118 fun args H v H' o hs ho => by
  split at hs
  · rename_i a
    cases hs
    refine ⟨_, HLe.nil, ?_⟩
    cbv
    repeat' first
      | (refine alt_t (by assumption) ?_; cbv)
      | (refine alt_f (by assumption) ?_; cbv)
      | (refine alt_b (fun h => ?_) (fun h => ?_) <;> cbv)
      | (refine Br.mk (fun h => ?_) (fun h => ?_) <;> cbv)
      | (refine Ob.mk ?_ ?_; rotate_left; cbv)
      | (refine Lex.mk (by kernel_rfl) ?_; cbv)
    all_goals (try simp only [Unit.unit, Int.ofNat_lt, Int.ofNat_le, BE.val, IE.val, NE.val, ltB_iff, ltB_no, leB_iff, leB_no, Int.toNat_natCast, Nat.zero_add, Nat.add_zero, Nat.mul_one, forced, beq_iff_eq, beq_eq_false_iff_ne, bne_iff_ne, bne_eq_false_iff_eq] at *)
    all_goals first | with_reducible rfl | exact size_some _ | rfl | (simp_all [sizeI, cvU]; done)
  · cases hs
/-- the size of a rate is not above something -/
def stillI (st sp fd : Nat) (l : List Nat) (w : Nat) (i : Nat) : Bool := fcmp .leq .f32 (sizeF (rateW st sp fd l i)) w
def stillW (st sp fd : Nat) (l : List Nat) (n w : Nat) : Bool := allI (stillI st sp fd l w) n
theorem still_no {st sp fd : Nat} {l : List Nat} {n w i : Nat} (hi : i < n) (h : fcmp .leq .f32 (sizeF (rateW st sp fd l i)) w = false) : stillW st sp fd l n w = false := allI_no hi h
theorem still_noI {st sp fd : Nat} {l : List Nat} {n w i : Nat} (hi : i < n) (h : fcmp .leq .f32 (sizeI (rateW st sp fd l i)) w = false) : stillW st sp fd l n w = false := still_no hi (by rw [← size_leq]; exact h)
theorem still_go {st sp fd : Nat} {l : List Nat} {w i : Nat} (hi : allI (stillI st sp fd l w) i = true) (h : fcmp .leq .f32 (sizeF (rateW st sp fd l i)) w = true) : allI (stillI st sp fd l w) (i + 1) = true := by
  simp only [allI, hi, Bool.true_and]; exact h
theorem still_goI {st sp fd : Nat} {l : List Nat} {w i : Nat} (hi : allI (stillI st sp fd l w) i = true) (h : fcmp .leq .f32 (sizeI (rateW st sp fd l i)) w = true) : allI (stillI st sp fd l w) (i + 1) = true := still_go hi (by rw [← size_leq]; exact h)
theorem fn68 : FnOk Tryz.prog 68 Tryz.f68 (bodyOf Tryz.f68) := ⟨Tryz.func68, rfl, by rfl⟩
def s68 : Spec := hspec fun args H => match args, H with
  | [.a [.f .f32 st, .f .f32 sp, .f .f32 fd, .sl 0 (.x o) (.x n)], .c (.f .f32 w)], [some ⟨false, 0, x⟩] => match x.toFl with
    | some l => some (vB (stillW (st ()) (sp ()) (fd ()) (l ()) (n ()) (w ())), [none], [fun _ => o () = 0 ∧ (l ()).length = 3 * n () ∧ n () ≤ 1048576])
    | _ => none
  | _, _ => none
def E68 : Env := fun g => envGetL [(73, ⟨true, s73, none⟩), (118, ⟨true, s118, none⟩)] g
theorem E68ok : EnvOk Tryz.prog E68 := envOk_cons ok73 (envOk_cons ok118 (envOk_nil _))
set_option maxRecDepth 100000 in
set_option maxHeartbeats 1000000 in
theorem ok68 : Ok Tryz.prog 68 (s68) := ok_of_wpaH (E := E68) mixed tts E68ok fn68 fun args H v H' o hs ho => by
  split at hs
  · rename_i st sp fd o n w x
    split at hs
    · rename_i l hl
      cases hs
      obtain ⟨ho0, hlen, hbig⟩ := ho.one
      try simp only [Unit.unit] at ho0 hlen hbig
      refine ⟨_, HLe.cons (BLe.fl hl) HLe.nil, ?_⟩
      cbv
      refine loop_rule (α := Unit → Nat) (c := ⟨tt, E68, 1⟩)
          (fun i => fr 19 [(1, .c (.f .f32 w)), (2, .c (.p 1 (.l 0))), (8, .c (.i .i64 (.x fun _ => n ()))), (9, .c (.i .i64 (.x fun _ => i ())))]) (fun i => [some ⟨false, 0, .fl l⟩, some ⟨true, 0, .lit [.f .f32 st, .f .f32 sp, .f .f32 fd, .sl 0 (.x o) (.x n)]⟩])
          (fun i => i () ≤ n () ∧ allI (stillI (st ()) (sp ()) (fd ()) (l ()) (w ())) (i ()) = true) (fun i => n () - i ()) (fun _ => n () + 1) ?_ ?_
      · refine .mk (fun _ => 0) ⟨Nat.zero_le _, rfl⟩ (by dsimp only; omega) ?_
        cbv
        repeat' (refine Ob.mk ?_ ?_; rotate_left)
        all_goals (try simp only [Unit.unit, Int.ofNat_lt, Int.ofNat_le, BE.val, IE.val, NE.val, ltB_iff, ltB_no, leB_iff, leB_no, Int.toNat_natCast, Nat.zero_add, Nat.add_zero, Nat.mul_one, forced, beq_iff_eq, beq_eq_false_iff_ne, bne_iff_ne, bne_eq_false_iff_eq] at *)
        all_goals first | with_reducible rfl | trivial | rfl
      · intro i hi
        cbv
        repeat' first
          | (refine alt_t (by assumption) ?_; cbv)
          | (refine alt_f (by assumption) ?_; cbv)
          | (refine alt_b (fun h => ?_) (fun h => ?_) <;> cbv)
          | (refine Br.mk (fun h => ?_) (fun h => ?_) <;> cbv)
          | (refine Ob.mk ?_ ?_; rotate_left; cbv)
          | (refine Lex.mk (by kernel_rfl) ?_; cbv)
          | (refine Next.mk (fun _ => i () + 1) ?_ ?_ ?_)
        all_goals (try simp only [Unit.unit, Int.ofNat_lt, Int.ofNat_le, BE.val, IE.val, NE.val, ltB_iff, ltB_no, leB_iff, leB_no, Int.toNat_natCast, Nat.zero_add, Nat.add_zero, Nat.mul_one, forced, beq_iff_eq, beq_eq_false_iff_ne, bne_iff_ne, bne_eq_false_iff_eq] at *)
        all_goals (try simp only [ho0, Nat.zero_add] at *)
        all_goals first | with_reducible rfl | omega | exact wrap64_nat (by omega) | (refine ⟨Int.natCast_nonneg _, ?_⟩; omega) | exact ⟨ho0, hlen, hbig⟩ | exact ⟨by trivial, hlen, hbig⟩ | exact ⟨Int.natCast_nonneg _, by simpa using (by omega)⟩ | exact (still_noI (by omega) (not_t (by assumption))).symm | exact still_noI (by omega) (not_t (by assumption)) | exact ⟨by omega, still_goI hi.2 (not_f (by assumption))⟩ | (rw [show i ⟨⟩ = n ⟨⟩ by omega] at hi; exact hi.2.symm) | (rw [show i ⟨⟩ = n ⟨⟩ by omega] at hi; exact hi.2) | (rw [still_noI (by omega) (not_t (by assumption))]; done)
    · cases hs
  · cases hs
end Go.Proofs.YteifneielgnniaaGreatDoor.Sh
end
section
namespace Go.Proofs.YteifneielgnniaaGreatDoor.Sh
open Go Go.Proofs
section
variable {st sp fd tm n s : Nat} {l L : List Nat} {k : Int} {m : Nat} {most : Int}
end
theorem eq_most {k : Nat} {most : Int} (h0 : 0 ≤ most) : (((k : Nat) : Int) = most) → most.toNat - k = 0 := fun h => by omega
theorem ne_most {k : Nat} {most : Int} (h0 : 0 ≤ most) (hk : k ≤ most.toNat) : ¬ (((k : Nat) : Int) = most) → k < most.toNat ∧ most.toNat - k = (most.toNat - (k + 1)) + 1 := fun h => by omega
end Go.Proofs.YteifneielgnniaaGreatDoor.Sh
end
section
namespace Go.Proofs.YteifneielgnniaaGreatDoor.Sh
open Go Go.Proofs
def settleK (st sp fd tm n w : Nat) : Nat → Nat → List Nat → Int × Nat
  | 0, k, l => if stillW st sp fd l n w then (0, k) else (7, 0)
  | m + 1, k, l => if stillW st sp fd l n w then (0, k) else
    if webOk st sp fd (stepW st sp fd tm l n) n then settleK st sp fd tm n w m (k + 1) (stepW st sp fd tm l n) else (4, 0)
def settleC (st sp fd : Nat) (l : List Nat) (n tm w : Nat) (most : Int) : Int × Nat :=
  if webOk st sp fd l n then if isTime tm && isFilm w && isCount most then settleK st sp fd tm n w most.toNat 0 l else (2, 0) else (1, 0)
section
variable {st sp fd tm n w : Nat} {l L : List Nat} {k m : Nat} {most : Int}
theorem sk_hit (h : stillW st sp fd L n w = true) : settleK st sp fd tm n w m k L = (0, k) := by cases m <;> simp [settleK, h]
theorem sk_end (h : stillW st sp fd L n w = false) : settleK st sp fd tm n w 0 k L = (7, 0) := by simp [settleK, h]
theorem sk_next (h : stillW st sp fd L n w = false) (hw : webOk st sp fd (stepW st sp fd tm L n) n = true) : settleK st sp fd tm n w (m + 1) k L = settleK st sp fd tm n w m (k + 1) (stepW st sp fd tm L n) := by simp [settleK, h, hw]
theorem sk_stop (h : stillW st sp fd L n w = false) (hw : webOk st sp fd (stepW st sp fd tm L n) n = false) : settleK st sp fd tm n w (m + 1) k L = (4, 0) := by simp [settleK, h, hw]
theorem settle_1 (h : webOk st sp fd l n = false) : settleC st sp fd l n tm w most = (1, 0) := by simp [settleC, h]
theorem settle_2 (h : webOk st sp fd l n = true) (h2 : (isTime tm && isFilm w && isCount most) = false) : settleC st sp fd l n tm w most = (2, 0) := by unfold settleC; rw [if_pos h, h2]; rfl
theorem settle_go (h : webOk st sp fd l n = true) (h2 : (isTime tm && isFilm w && isCount most) = true) : settleC st sp fd l n tm w most = settleK st sp fd tm n w most.toNat 0 l := by unfold settleC; rw [if_pos h, if_pos h2]
theorem fineS (h : (isTime tm && isFilm w && isCount most) = true) : isTime tm = true ∧ isFilm w = true ∧ isCount most = true := by
  simp only [Bool.and_eq_true] at h; exact ⟨h.1.1, h.1.2, h.2⟩
end
theorem fn14 : FnOk Tryz.prog 14 Tryz.f14 (bodyOf Tryz.f14) := ⟨Tryz.func14, rfl, by rfl⟩
def s14T : Spec := hspec fun args H => match args, H with
  | [.a [.f .f32 st, .f .f32 sp, .f .f32 fd, .sl 0 (.x o) (.x n)], .c (.f .f32 tm), .c (.f .f32 w), .c (.i .i64 (.x q))], [some ⟨false, 0, x⟩] => match x.toFl with
    | some l => some (.t [.a [.f .f32 st, .f .f32 sp, .f .f32 fd, .sl 1 (.l 0) (.x n)], vI ((settleC (st ()) (sp ()) (fd ()) (l ()) (n ()) (tm ()) (w ()) (q ())).2 : Nat), vI 0], [none, some ⟨true, 3, .fl fun _ => runW (st ()) (sp ()) (fd ()) (tm ()) (n ()) (l ()) (settleC (st ()) (sp ()) (fd ()) (l ()) (n ()) (tm ()) (w ()) (q ())).2⟩], [fun _ => ((settleC (st ()) (sp ()) (fd ()) (l ()) (n ()) (tm ()) (w ()) (q ())).1 == 0) = true, fun _ => o () = 0 ∧ (l ()).length = 3 * n () ∧ n () ≤ 1048576])
    | _ => none
  | _, _ => none
def E14T : Env := fun g => envGetL [(12, ⟨true, s12, none⟩), (63, ⟨true, s63, none⟩), (67, ⟨true, s67, none⟩), (64, ⟨true, s64, none⟩), (65, ⟨true, s65, none⟩), (68, ⟨true, s68, none⟩), (66, ⟨true, s66, none⟩)] g
theorem E14Tok : EnvOk Tryz.prog E14T := envOk_cons ok12 (envOk_cons ok63 (envOk_cons ok67 (envOk_cons ok64 (envOk_cons ok65 (envOk_cons ok68 (envOk_cons ok66 (envOk_nil _)))))))
set_option maxRecDepth 100000 in
set_option maxHeartbeats 4000000 in
theorem ok14T : Ok Tryz.prog 14 (s14T) := ok_of_wpaH (E := E14T) mixed tts E14Tok fn14 fun args H v H' o hs ho => by
  split at hs
  · rename_i st sp fd o n tm w q x
    split at hs
    · rename_i l hl
      cases hs
      obtain ⟨hc, ⟨ho0, hlen, hbig⟩⟩ := ho.two
      try simp only [Unit.unit] at hc ho0 hlen hbig
      refine ⟨_, HLe.cons (BLe.fl hl) HLe.nil, ?_⟩
      cbv
      refine Ob.mk ⟨ho0, hlen, hbig⟩ ?_
      cbv
      refine Br.mk (fun hv => ?_) (fun hv => ?_)
      · have hbw := settle_1 (tm := tm ⟨⟩) (w := w ⟨⟩) (most := q ⟨⟩) (not_t hv : webOk (st ⟨⟩) (sp ⟨⟩) (fd ⟨⟩) (l ⟨⟩) (n ⟨⟩) = false)
        exact absurd hc (by rw [hbw]; simp)
      have hv' : webOk (st ⟨⟩) (sp ⟨⟩) (fd ⟨⟩) (l ⟨⟩) (n ⟨⟩) = true := not_f hv
      clear hv
      cbv
      by_cases hf : (isTime (tm ⟨⟩) && isFilm (w ⟨⟩) && isCount (q ⟨⟩)) = true
      rotate_left
      · have hbw := settle_2 hv' (by simpa using hf : (isTime (tm ⟨⟩) && isFilm (w ⟨⟩) && isCount (q ⟨⟩)) = false)
        exact absurd hc (by rw [hbw]; simp)
      obtain ⟨hf1, hf2, hf3⟩ := fineS hf
      have hq2 : 0 ≤ q ⟨⟩ ∧ q ⟨⟩ ≤ 1000 := count_le hf3
      have hgo := settle_go hv' hf
      repeat' first
        | (refine Br.mk (fun h => ?_) (fun h => ?_) <;> cbv)
      all_goals try (first | (exfalso; simp_all; done) | (exfalso; simp only [Unit.unit, Int.ofNat_lt, Int.ofNat_le, BE.val, IE.val, NE.val, ltB_iff, ltB_no, leB_iff, leB_no, Int.toNat_natCast, Nat.zero_add, Nat.add_zero, Nat.mul_one, forced, beq_iff_eq, beq_eq_false_iff_ne, bne_iff_ne, bne_eq_false_iff_eq] at *; simp_all; done))
      refine Ob.mk ⟨ho0, hlen, hbig⟩ ?_
      cbv
      repeat' (refine Ob.mk ?_ ?_; rotate_left; cbv)
      all_goals try (first | exact ⟨ho0, hlen, hbig⟩ | with_reducible rfl)
      refine loop_rule (α := Unit → Nat) (c := ⟨tt, E14T, 1⟩)
          (fun k => fr 58 [(1, .c (.f .f32 tm)), (2, .c (.f .f32 w)), (3, .c (.i .i64 (.x q))), (8, .c (.p 2 (.l 0))), (11, .c (.p 4 (.l 0))), (12, .c (.i .i64 (.x fun _ => k ())))]) (fun k => [some ⟨false, 0, .fl l⟩, none, some ⟨true, 0, .lit [.f .f32 fun _ => 0, .f .f32 fun _ => 0, .f .f32 fun _ => 0, .sn]⟩, some ⟨true, 3, .fl fun _ => runW (st ()) (sp ()) (fd ()) (tm ()) (n ()) (l ()) (k ())⟩, some ⟨true, 0, .lit [.f .f32 st, .f .f32 sp, .f .f32 fd, .sl 3 (.l 0) (.x n)]⟩])
          (fun k => k () ≤ (q ()).toNat ∧ settleC (st ()) (sp ()) (fd ()) (l ()) (n ()) (tm ()) (w ()) (q ()) = settleK (st ()) (sp ()) (fd ()) (tm ()) (n ()) (w ()) ((q ()).toNat - k ()) (k ()) (runW (st ()) (sp ()) (fd ()) (tm ()) (n ()) (l ()) (k ()))) (fun k => (q ()).toNat - k ()) (fun _ => (q ()).toNat + 1) ?_ ?_
      · refine .mk (fun _ => 0) ⟨Nat.zero_le _, hgo⟩ (by dsimp only; omega) ?_
        cbv
        repeat' (refine Ob.mk ?_ ?_; rotate_left)
        all_goals (try simp only [Unit.unit, Int.ofNat_lt, Int.ofNat_le, BE.val, IE.val, NE.val, ltB_iff, ltB_no, leB_iff, leB_no, Int.toNat_natCast, Nat.zero_add, Nat.add_zero, Nat.mul_one, forced, beq_iff_eq, beq_eq_false_iff_ne, bne_iff_ne, bne_eq_false_iff_eq] at *)
        all_goals first | with_reducible rfl | trivial | (simp only [ho0, List.nil_append, seg_all hlen]; done) | rfl
      · intro k hi
        have hLx : (runW (st ⟨⟩) (sp ⟨⟩) (fd ⟨⟩) (tm ⟨⟩) (n ⟨⟩) (l ⟨⟩) (k ⟨⟩)).length = 3 * n ⟨⟩ := runW_len (st ⟨⟩) (sp ⟨⟩) (fd ⟨⟩) (tm ⟨⟩) (n ⟨⟩) (l ⟨⟩) hlen (k ⟨⟩)
        have hkq : k ⟨⟩ ≤ (q ⟨⟩).toNat := hi.1
        have hbw : settleC (st ⟨⟩) (sp ⟨⟩) (fd ⟨⟩) (l ⟨⟩) (n ⟨⟩) (tm ⟨⟩) (w ⟨⟩) (q ⟨⟩) = settleK (st ⟨⟩) (sp ⟨⟩) (fd ⟨⟩) (tm ⟨⟩) (n ⟨⟩) (w ⟨⟩) ((q ⟨⟩).toNat - k ⟨⟩) (k ⟨⟩) (runW (st ⟨⟩) (sp ⟨⟩) (fd ⟨⟩) (tm ⟨⟩) (n ⟨⟩) (l ⟨⟩) (k ⟨⟩)) := hi.2
        cbv
        refine Ob.mk ⟨by trivial, hLx, hbig⟩ ?_
        cbv
        refine Br.mk (fun hst => ?_) (fun hst => ?_)
        · have hst : stillW (st ⟨⟩) (sp ⟨⟩) (fd ⟨⟩) (runW (st ⟨⟩) (sp ⟨⟩) (fd ⟨⟩) (tm ⟨⟩) (n ⟨⟩) (l ⟨⟩) (k ⟨⟩)) (n ⟨⟩) (w ⟨⟩) = true := hst
          rw [sk_hit hst] at hbw
          cbv
          repeat' (refine Ob.mk ?_ ?_; rotate_left; cbv)
          all_goals (try simp only [Unit.unit, Int.ofNat_lt, Int.ofNat_le, BE.val, IE.val, NE.val, ltB_iff, ltB_no, leB_iff, leB_no, Int.toNat_natCast, Nat.zero_add, Nat.add_zero, Nat.mul_one, forced, beq_iff_eq, beq_eq_false_iff_ne, bne_iff_ne, bne_eq_false_iff_eq] at *)
          all_goals (try simp only [ho0, Nat.zero_add] at *)
          all_goals first | with_reducible rfl | rfl | (rw [hbw]; done) | (rw [hbw]; rfl) | exact ⟨by trivial, hLx, hbig⟩ | exact ⟨rfl, hLx, hbig⟩ | omega | exact wrap64_nat (by omega)
        · have hst : stillW (st ⟨⟩) (sp ⟨⟩) (fd ⟨⟩) (runW (st ⟨⟩) (sp ⟨⟩) (fd ⟨⟩) (tm ⟨⟩) (n ⟨⟩) (l ⟨⟩) (k ⟨⟩)) (n ⟨⟩) (w ⟨⟩) = false := hst
          cbv
          refine Br.mk (fun hm => ?_) (fun hm => ?_)
          · have hz := eq_most (k := k ⟨⟩) hq2.1 (beq_iff_eq.1 hm)
            rw [hz, sk_end hst] at hbw
            exact absurd hc (by rw [hbw]; simp)
          · obtain ⟨hk1, hk2⟩ := ne_most (k := k ⟨⟩) hq2.1 hkq (beq_eq_false_iff_ne.1 hm)
            rw [hk2] at hbw
            clear hm
            cbv
            refine Ob.mk ⟨by trivial, hLx, hbig⟩ ?_
            cbv
            refine Br.mk (fun h => ?_) (fun h => ?_)
            · rw [sk_stop hst (not_t h)] at hbw
              exact absurd hc (by rw [hbw]; simp)
            · rw [sk_next hst (not_f h)] at hbw
              cbv
              repeat' first | (refine Ob.mk ?_ ?_; rotate_left; cbv) | (refine Next.ren [1, 2, 5, 4] (fun _ => k () + 1) ?_ ?_ ?_)
              all_goals (try simp only [Unit.unit, Int.ofNat_lt, Int.ofNat_le, BE.val, IE.val, NE.val, ltB_iff, ltB_no, leB_iff, leB_no, Int.toNat_natCast, Nat.zero_add, Nat.add_zero, Nat.mul_one, forced, beq_iff_eq, beq_eq_false_iff_ne, bne_iff_ne, bne_eq_false_iff_eq] at *)
              all_goals (try simp only [ho0, Nat.zero_add] at *)
              all_goals first | with_reducible rfl | omega | exact wrap64_nat (by omega) | exact ⟨by omega, hbw⟩ | rfl | exact ⟨rfl, hLx, hbig⟩
    · cases hs
  · cases hs
def s14F : Spec := hspec fun args H => match args, H with
  | [.a [.f .f32 st, .f .f32 sp, .f .f32 fd, .sl 0 (.x o) (.x n)], .c (.f .f32 tm), .c (.f .f32 w), .c (.i .i64 (.x q))], [some ⟨false, 0, x⟩] => match x.toFl with
    | some l => some (.t [.a [.f .f32 fun _ => 0, .f .f32 fun _ => 0, .f .f32 fun _ => 0, .sn], vI 0, vI (settleC (st ()) (sp ()) (fd ()) (l ()) (n ()) (tm ()) (w ()) (q ())).1], [none], [fun _ => ((settleC (st ()) (sp ()) (fd ()) (l ()) (n ()) (tm ()) (w ()) (q ())).1 == 0) = false, fun _ => o () = 0 ∧ (l ()).length = 3 * n () ∧ n () ≤ 1048576])
    | _ => none
  | _, _ => none
def E14F : Env := fun g => envGetL [(12, ⟨true, s12, none⟩), (63, ⟨true, s63, none⟩), (67, ⟨true, s67, none⟩), (64, ⟨true, s64, none⟩), (65, ⟨true, s65, none⟩), (68, ⟨true, s68, none⟩), (66, ⟨true, s66, none⟩)] g
theorem E14Fok : EnvOk Tryz.prog E14F := envOk_cons ok12 (envOk_cons ok63 (envOk_cons ok67 (envOk_cons ok64 (envOk_cons ok65 (envOk_cons ok68 (envOk_cons ok66 (envOk_nil _)))))))
set_option maxRecDepth 100000 in
set_option maxHeartbeats 4000000 in
theorem ok14F : Ok Tryz.prog 14 (s14F) := ok_of_wpaH (E := E14F) mixed tts E14Fok fn14 fun args H v H' o hs ho => by
  split at hs
  · rename_i st sp fd o n tm w q x
    split at hs
    · rename_i l hl
      cases hs
      obtain ⟨hc, ⟨ho0, hlen, hbig⟩⟩ := ho.two
      try simp only [Unit.unit] at hc ho0 hlen hbig
      refine ⟨_, HLe.cons (BLe.fl hl) HLe.nil, ?_⟩
      cbv
      refine Ob.mk ⟨ho0, hlen, hbig⟩ ?_
      cbv
      refine Br.mk (fun hv => ?_) (fun hv => ?_)
      · have hbw := settle_1 (tm := tm ⟨⟩) (w := w ⟨⟩) (most := q ⟨⟩) (not_t hv : webOk (st ⟨⟩) (sp ⟨⟩) (fd ⟨⟩) (l ⟨⟩) (n ⟨⟩) = false)
        cbv
        repeat' (refine Ob.mk ?_ ?_; rotate_left; cbv)
        all_goals (try simp only [Unit.unit, Int.ofNat_lt, Int.ofNat_le, BE.val, IE.val, NE.val, ltB_iff, ltB_no, leB_iff, leB_no, Int.toNat_natCast, Nat.zero_add, Nat.add_zero, Nat.mul_one, forced, beq_iff_eq, beq_eq_false_iff_ne, bne_iff_ne, bne_eq_false_iff_eq] at *)
        all_goals (try simp only [ho0, Nat.zero_add] at *)
        all_goals first | with_reducible rfl | rfl | (rw [hbw]; done) | (rw [hbw]; rfl) | exact ⟨by trivial, hLx, hbig⟩ | exact ⟨rfl, hLx, hbig⟩ | omega | exact wrap64_nat (by omega)
      have hv' : webOk (st ⟨⟩) (sp ⟨⟩) (fd ⟨⟩) (l ⟨⟩) (n ⟨⟩) = true := not_f hv
      clear hv
      cbv
      by_cases hf : (isTime (tm ⟨⟩) && isFilm (w ⟨⟩) && isCount (q ⟨⟩)) = true
      rotate_left
      · have hbw := settle_2 hv' (by simpa using hf : (isTime (tm ⟨⟩) && isFilm (w ⟨⟩) && isCount (q ⟨⟩)) = false)
        repeat' first
          | (refine Br.mk (fun h => ?_) (fun h => ?_) <;> cbv)
          | (refine Ob.mk ?_ ?_; rotate_left; cbv)
        all_goals (try simp only [Unit.unit, Int.ofNat_lt, Int.ofNat_le, BE.val, IE.val, NE.val, ltB_iff, ltB_no, leB_iff, leB_no, Int.toNat_natCast, Nat.zero_add, Nat.add_zero, Nat.mul_one, forced, beq_iff_eq, beq_eq_false_iff_ne, bne_iff_ne, bne_eq_false_iff_eq] at *)
        all_goals first | with_reducible rfl | (rw [hbw]; done) | (exfalso; simp_all; done)
      obtain ⟨hf1, hf2, hf3⟩ := fineS hf
      have hq2 : 0 ≤ q ⟨⟩ ∧ q ⟨⟩ ≤ 1000 := count_le hf3
      have hgo := settle_go hv' hf
      repeat' first
        | (refine Br.mk (fun h => ?_) (fun h => ?_) <;> cbv)
      all_goals try (first | (exfalso; simp_all; done) | (exfalso; simp only [Unit.unit, Int.ofNat_lt, Int.ofNat_le, BE.val, IE.val, NE.val, ltB_iff, ltB_no, leB_iff, leB_no, Int.toNat_natCast, Nat.zero_add, Nat.add_zero, Nat.mul_one, forced, beq_iff_eq, beq_eq_false_iff_ne, bne_iff_ne, bne_eq_false_iff_eq] at *; simp_all; done))
      refine Ob.mk ⟨ho0, hlen, hbig⟩ ?_
      cbv
      repeat' (refine Ob.mk ?_ ?_; rotate_left; cbv)
      all_goals try (first | exact ⟨ho0, hlen, hbig⟩ | with_reducible rfl)
      refine loop_rule (α := Unit → Nat) (c := ⟨tt, E14F, 1⟩)
          (fun k => fr 58 [(1, .c (.f .f32 tm)), (2, .c (.f .f32 w)), (3, .c (.i .i64 (.x q))), (8, .c (.p 2 (.l 0))), (11, .c (.p 4 (.l 0))), (12, .c (.i .i64 (.x fun _ => k ())))]) (fun k => [some ⟨false, 0, .fl l⟩, none, some ⟨true, 0, .lit [.f .f32 fun _ => 0, .f .f32 fun _ => 0, .f .f32 fun _ => 0, .sn]⟩, some ⟨true, 3, .fl fun _ => runW (st ()) (sp ()) (fd ()) (tm ()) (n ()) (l ()) (k ())⟩, some ⟨true, 0, .lit [.f .f32 st, .f .f32 sp, .f .f32 fd, .sl 3 (.l 0) (.x n)]⟩])
          (fun k => k () ≤ (q ()).toNat ∧ settleC (st ()) (sp ()) (fd ()) (l ()) (n ()) (tm ()) (w ()) (q ()) = settleK (st ()) (sp ()) (fd ()) (tm ()) (n ()) (w ()) ((q ()).toNat - k ()) (k ()) (runW (st ()) (sp ()) (fd ()) (tm ()) (n ()) (l ()) (k ()))) (fun k => (q ()).toNat - k ()) (fun _ => (q ()).toNat + 1) ?_ ?_
      · refine .mk (fun _ => 0) ⟨Nat.zero_le _, hgo⟩ (by dsimp only; omega) ?_
        cbv
        repeat' (refine Ob.mk ?_ ?_; rotate_left)
        all_goals (try simp only [Unit.unit, Int.ofNat_lt, Int.ofNat_le, BE.val, IE.val, NE.val, ltB_iff, ltB_no, leB_iff, leB_no, Int.toNat_natCast, Nat.zero_add, Nat.add_zero, Nat.mul_one, forced, beq_iff_eq, beq_eq_false_iff_ne, bne_iff_ne, bne_eq_false_iff_eq] at *)
        all_goals first | with_reducible rfl | trivial | (simp only [ho0, List.nil_append, seg_all hlen]; done) | rfl
      · intro k hi
        have hLx : (runW (st ⟨⟩) (sp ⟨⟩) (fd ⟨⟩) (tm ⟨⟩) (n ⟨⟩) (l ⟨⟩) (k ⟨⟩)).length = 3 * n ⟨⟩ := runW_len (st ⟨⟩) (sp ⟨⟩) (fd ⟨⟩) (tm ⟨⟩) (n ⟨⟩) (l ⟨⟩) hlen (k ⟨⟩)
        have hkq : k ⟨⟩ ≤ (q ⟨⟩).toNat := hi.1
        have hbw : settleC (st ⟨⟩) (sp ⟨⟩) (fd ⟨⟩) (l ⟨⟩) (n ⟨⟩) (tm ⟨⟩) (w ⟨⟩) (q ⟨⟩) = settleK (st ⟨⟩) (sp ⟨⟩) (fd ⟨⟩) (tm ⟨⟩) (n ⟨⟩) (w ⟨⟩) ((q ⟨⟩).toNat - k ⟨⟩) (k ⟨⟩) (runW (st ⟨⟩) (sp ⟨⟩) (fd ⟨⟩) (tm ⟨⟩) (n ⟨⟩) (l ⟨⟩) (k ⟨⟩)) := hi.2
        cbv
        refine Ob.mk ⟨by trivial, hLx, hbig⟩ ?_
        cbv
        refine Br.mk (fun hst => ?_) (fun hst => ?_)
        · have hst : stillW (st ⟨⟩) (sp ⟨⟩) (fd ⟨⟩) (runW (st ⟨⟩) (sp ⟨⟩) (fd ⟨⟩) (tm ⟨⟩) (n ⟨⟩) (l ⟨⟩) (k ⟨⟩)) (n ⟨⟩) (w ⟨⟩) = true := hst
          rw [sk_hit hst] at hbw
          exact absurd hc (by rw [hbw]; simp)
        · have hst : stillW (st ⟨⟩) (sp ⟨⟩) (fd ⟨⟩) (runW (st ⟨⟩) (sp ⟨⟩) (fd ⟨⟩) (tm ⟨⟩) (n ⟨⟩) (l ⟨⟩) (k ⟨⟩)) (n ⟨⟩) (w ⟨⟩) = false := hst
          cbv
          refine Br.mk (fun hm => ?_) (fun hm => ?_)
          · have hz := eq_most (k := k ⟨⟩) hq2.1 (beq_iff_eq.1 hm)
            rw [hz, sk_end hst] at hbw
            cbv
            repeat' (refine Ob.mk ?_ ?_; rotate_left; cbv)
            all_goals (try simp only [Unit.unit, Int.ofNat_lt, Int.ofNat_le, BE.val, IE.val, NE.val, ltB_iff, ltB_no, leB_iff, leB_no, Int.toNat_natCast, Nat.zero_add, Nat.add_zero, Nat.mul_one, forced, beq_iff_eq, beq_eq_false_iff_ne, bne_iff_ne, bne_eq_false_iff_eq] at *)
            all_goals (try simp only [ho0, Nat.zero_add] at *)
            all_goals first | with_reducible rfl | rfl | (rw [hbw]; done) | (rw [hbw]; rfl) | exact ⟨by trivial, hLx, hbig⟩ | exact ⟨rfl, hLx, hbig⟩ | omega | exact wrap64_nat (by omega)
          · obtain ⟨hk1, hk2⟩ := ne_most (k := k ⟨⟩) hq2.1 hkq (beq_eq_false_iff_ne.1 hm)
            rw [hk2] at hbw
            clear hm
            cbv
            refine Ob.mk ⟨by trivial, hLx, hbig⟩ ?_
            cbv
            refine Br.mk (fun h => ?_) (fun h => ?_)
            · rw [sk_stop hst (not_t h)] at hbw
              cbv
              repeat' (refine Ob.mk ?_ ?_; rotate_left; cbv)
              all_goals (try simp only [Unit.unit, Int.ofNat_lt, Int.ofNat_le, BE.val, IE.val, NE.val, ltB_iff, ltB_no, leB_iff, leB_no, Int.toNat_natCast, Nat.zero_add, Nat.add_zero, Nat.mul_one, forced, beq_iff_eq, beq_eq_false_iff_ne, bne_iff_ne, bne_eq_false_iff_eq] at *)
              all_goals (try simp only [ho0, Nat.zero_add] at *)
              all_goals first | with_reducible rfl | rfl | (rw [hbw]; done) | (rw [hbw]; rfl) | exact ⟨by trivial, hLx, hbig⟩ | exact ⟨rfl, hLx, hbig⟩ | omega | exact wrap64_nat (by omega)
            · rw [sk_next hst (not_f h)] at hbw
              cbv
              repeat' first | (refine Ob.mk ?_ ?_; rotate_left; cbv) | (refine Next.ren [1, 2, 5, 4] (fun _ => k () + 1) ?_ ?_ ?_)
              all_goals (try simp only [Unit.unit, Int.ofNat_lt, Int.ofNat_le, BE.val, IE.val, NE.val, ltB_iff, ltB_no, leB_iff, leB_no, Int.toNat_natCast, Nat.zero_add, Nat.add_zero, Nat.mul_one, forced, beq_iff_eq, beq_eq_false_iff_ne, bne_iff_ne, bne_eq_false_iff_eq] at *)
              all_goals (try simp only [ho0, Nat.zero_add] at *)
              all_goals first | with_reducible rfl | omega | exact wrap64_nat (by omega) | exact ⟨by omega, hbw⟩ | rfl | exact ⟨rfl, hLx, hbig⟩
    · cases hs
  · cases hs
end Go.Proofs.YteifneielgnniaaGreatDoor.Sh
end
section
namespace Go.Proofs.YteifneielgnniaaGreatDoor.Sh
open Go Go.Proofs
theorem e136a : Extern.findNext Tryz.f117 = none := by rfl
theorem e136b : Extern.find Tryz.f117 = some Extern.MathFloatBits.float32bits := by rfl
theorem ext117 (b : Nat) (w : World) : (callFunc 117 #[.float .f32 b]).run Tryz.prog w = .ok (.value (.int .u32 b)) w := by
  rw [run_callFunc_extern Tryz.func117 (by rfl) (by rfl) e136a e136b]; rfl
def s117 : Spec := fun args H => match args with
  | [.c (.f .f32 e)] => some (.c (.i .u32 (.x fun _ => (e () : Int))), H, [fun _ => isNan (e ()) = false])
  | _ => none
theorem ok117 : Ok Tryz.prog 117 s117 := by
  intro args H v H' o hs ho μ W w vs hW hH hr
  unfold s117 at hs
  split at hs
  · rename_i e
    cases hs
    match vs, hr with
    | [x], hr =>
      obtain ⟨⟨b, rfl, hb⟩, _⟩ := hr
      refine .inr ⟨_, _, ext117 b w, μ, agree.refl _ _, Nat.le_refl _, hH, ?_, Fr.refl _ _⟩
      have hn := ho.one
      rw [isNan_eq] at hn
      rcases hb with rfl | ⟨h1, h2⟩
      · rfl
      · have h2 : (Ieee.single.read (e ())).isNaN = true := h2
        rw [h2] at hn; cases hn
  · cases hs
def s154 : Spec := fun args H => match args with
  | [.c (.f .f64 e)] => some (.c (.i .u64 (.x fun _ => (e () : Int))), H, [fun _ => (Ieee.double.read (e ())).isNaN = false])
  | _ => none
theorem ok154 : Ok Tryz.prog 154 s154 := by
  intro args H v H' o hs ho μ W w vs hW hH hr
  unfold s154 at hs
  split at hs
  · rename_i e
    cases hs
    match vs, hr with
    | [x], hr =>
      obtain ⟨⟨b, rfl, hb⟩, _⟩ := hr
      refine .inr ⟨_, _, ext154 b w, μ, agree.refl _ _, Nat.le_refl _, hH, ?_, Fr.refl _ _⟩
      have hn := ho.one
      rcases hb with rfl | ⟨h1, h2⟩
      · rfl
      · have h2 : (Ieee.double.read (e ())).isNaN = true := h2
        rw [h2] at hn; cases hn
  · cases hs
def sgnL (x : Nat) : Bool := ltB (IntKind.wrap .i64 (x : Int)) 0
theorem sgnL_eq {x : Nat} (h : x < 18446744073709551616) : sgnL x = sgnD x := by
  unfold sgnL sgnD ltB
  have e : IntKind.wrap .i64 (x : Int) = if x < 9223372036854775808 then (x : Int) else (x : Int) - 18446744073709551616 := by
    simp [IntKind.wrap, IntKind.signed, IntKind.bits]
    split <;> omega
  rw [e]
  split
  · rename_i h1
    rw [Nat.div_eq_of_lt h1]
    simp
  · rename_i h1
    rw [show x / 9223372036854775808 = 1 by omega]
    simp
    omega
theorem word64_lt (s : Bool) {r : Nat} (h : r ≤ 9218868437227405312) : Ieee.double.word s r < 18446744073709551616 := by
  unfold Ieee.Format.word
  rw [sgn64]
  split <;> omega
theorem cvU_lt (a : Nat) : cvU a < 18446744073709551616 := by
  unfold cvU
  cases hd : Ieee.single.read a with
  | number s m i =>
    obtain ⟨r, hr, h1, _, h2⟩ := up_num hd
    rw [h1, Option.getD_some]
    exact word64_lt s (Nat.le_of_lt hr)
  | infinity s =>
    have e1 : floatToFloatBits .f32 a .f64 = some (Ieee.double.word s 9218868437227405312) := by
      unfold floatToFloatBits
      rw [if_neg (by decide), show FloatKind.f32.decode a = .infinity s from hd]
      rfl
    rw [e1, Option.getD_some]
    exact word64_lt s (Nat.le_refl _)
  | nan s t =>
    have e1 : floatToFloatBits .f32 a .f64 = none := by
      unfold floatToFloatBits
      rw [if_neg (by decide), show FloatKind.f32.decode a = .nan s t from hd]
    rw [e1, Option.getD_none]
    decide
theorem eqS_num {a b : Nat} (ha : isNan a = false) (hb : isNan b = false) : eqS a b = (fcmp .eql .f32 a b && (sgnL (cvU a) == sgnL (cvU b))) := by
  unfold eqS
  rw [ha, hb, sgnL_eq (cvU_lt a), sgnL_eq (cvU_lt b)]
  rfl
theorem eqS_nan {a b : Nat} (h : isNan a = true ∨ isNan b = true) : eqS a b = (isNan a && isNan b) := by
  unfold eqS
  rw [if_pos (by simpa using h)]
theorem eqW_num {a b : Nat} (ha : isNan a = false) (hb : isNan b = false) : eqW a b = ((a : Int) == (b : Int)) := by
  unfold eqW
  rw [ha, hb]
  by_cases e : a = b
  · subst e; simp
  · have e' : ¬ ((a : Int) = (b : Int)) := by omega
    simp [e, e']
theorem eqW_nan {a b : Nat} (h : isNan a = true ∨ isNan b = true) : eqW a b = (isNan a && isNan b) := by
  unfold eqW
  rw [if_pos (by simpa using h)]
theorem fn130 : FnOk Tryz.prog 130 Tryz.f130 (bodyOf Tryz.f130) := ⟨Tryz.func130, rfl, by rfl⟩
def s130 : Spec := hspec fun args H => match args, H with
  | [.c (.f .f64 a)], [] => some (vB (sgnL (a ())), [], [fun _ => (Ieee.double.read (a ())).isNaN = false])
  | _, _ => none
def E130 : Env := fun g => envGetL [(154, ⟨true, s154, none⟩)] g
theorem E130ok : EnvOk Tryz.prog E130 := envOk_cons ok154 (envOk_nil _)
theorem ok130 : Ok Tryz.prog 130 (s130) := ok_of_wpaH (E := E130) mixed tts E130ok fn130 fun args H v H' o hs ho => by
  split at hs
  · rename_i a
    cases hs
    have hx0 := ho.one
    try simp only [Unit.unit] at hx0
    refine ⟨_, HLe.nil, ?_⟩
    cbv
    repeat' first
      | (refine alt_t (by assumption) ?_; cbv)
      | (refine alt_f (by assumption) ?_; cbv)
      | (refine alt_b (fun h => ?_) (fun h => ?_) <;> cbv)
      | (refine Br.mk (fun h => ?_) (fun h => ?_) <;> cbv)
      | (refine Ob.mk ?_ ?_; rotate_left; cbv)
      | (refine Lex.mk (by kernel_rfl) ?_; cbv)
    all_goals (try simp only [Unit.unit, Int.ofNat_lt, Int.ofNat_le, BE.val, IE.val, NE.val, ltB_iff, ltB_no, leB_iff, leB_no, Int.toNat_natCast, Nat.zero_add, Nat.add_zero, Nat.mul_one, forced, beq_iff_eq, beq_eq_false_iff_ne, bne_iff_ne, bne_eq_false_iff_eq] at *)
    all_goals first | with_reducible rfl | exact hx0 | rfl | (simp_all [sgnL]; done)
  · cases hs
theorem fn58 : FnOk Tryz.prog 58 Tryz.f58 (bodyOf Tryz.f58) := ⟨Tryz.func58, rfl, by rfl⟩
def s58 : Spec := hspec fun args H => match args, H with
  | [.c (.f .f32 a), .c (.f .f32 b)], [] => some (vB (eqW (a ()) (b ())), [], [])
  | _, _ => none
def E58 : Env := fun g => envGetL [(117, ⟨true, s117, none⟩)] g
theorem E58ok : EnvOk Tryz.prog E58 := envOk_cons ok117 (envOk_nil _)
theorem ok58 : Ok Tryz.prog 58 (s58) := ok_of_wpaH (E := E58) mixed tts E58ok fn58 fun args H v H' o hs ho => by
  split at hs
  · rename_i a b
    cases hs
    refine ⟨_, HLe.nil, ?_⟩
    cbv
    by_cases ha : isNan (a ⟨⟩) = true
    · have hr := eqW_nan (b := b ⟨⟩) (.inl ha)
      have ha' : fcmp .neq .f32 (a ⟨⟩) (a ⟨⟩) = true := ha
      by_cases hb : isNan (b ⟨⟩) = true
      · have hb' : fcmp .neq .f32 (b ⟨⟩) (b ⟨⟩) = true := hb
        rw [ha, hb] at hr
        repeat' first
          | (refine alt_t (by assumption) ?_; cbv)
          | (refine alt_f (by assumption) ?_; cbv)
          | (refine alt_b (fun h => ?_) (fun h => ?_) <;> cbv)
          | (refine Br.mk (fun h => ?_) (fun h => ?_) <;> cbv)
          | (refine Ob.mk ?_ ?_; rotate_left; cbv)
          | (refine Lex.mk (by kernel_rfl) ?_; cbv)
        all_goals (try simp only [Unit.unit, Int.ofNat_lt, Int.ofNat_le, BE.val, IE.val, NE.val, ltB_iff, ltB_no, leB_iff, leB_no, Int.toNat_natCast, Nat.zero_add, Nat.add_zero, Nat.mul_one, forced, beq_iff_eq, beq_eq_false_iff_ne, bne_iff_ne, bne_eq_false_iff_eq] at *)
        all_goals first | with_reducible rfl | exact nan_up ha | exact nan_up hb | exact ha | exact hb | (simp_all [isNan, cvU]; done) | (simp_all [isNan]; done) | grind [isNan]
      · have hb := Bool.eq_false_iff.2 hb
        have hb' : fcmp .neq .f32 (b ⟨⟩) (b ⟨⟩) = false := hb
        rw [ha, hb] at hr
        repeat' first
          | (refine alt_t (by assumption) ?_; cbv)
          | (refine alt_f (by assumption) ?_; cbv)
          | (refine alt_b (fun h => ?_) (fun h => ?_) <;> cbv)
          | (refine Br.mk (fun h => ?_) (fun h => ?_) <;> cbv)
          | (refine Ob.mk ?_ ?_; rotate_left; cbv)
          | (refine Lex.mk (by kernel_rfl) ?_; cbv)
        all_goals (try simp only [Unit.unit, Int.ofNat_lt, Int.ofNat_le, BE.val, IE.val, NE.val, ltB_iff, ltB_no, leB_iff, leB_no, Int.toNat_natCast, Nat.zero_add, Nat.add_zero, Nat.mul_one, forced, beq_iff_eq, beq_eq_false_iff_ne, bne_iff_ne, bne_eq_false_iff_eq] at *)
        all_goals first | with_reducible rfl | exact nan_up ha | exact nan_up hb | exact ha | exact hb | (simp_all [isNan, cvU]; done) | (simp_all [isNan]; done) | grind [isNan]
    · have ha := Bool.eq_false_iff.2 ha
      have ha' : fcmp .neq .f32 (a ⟨⟩) (a ⟨⟩) = false := ha
      by_cases hb : isNan (b ⟨⟩) = true
      · have hr := eqW_nan (a := a ⟨⟩) (.inr hb)
        have hb' : fcmp .neq .f32 (b ⟨⟩) (b ⟨⟩) = true := hb
        rw [ha, hb] at hr
        repeat' first
          | (refine alt_t (by assumption) ?_; cbv)
          | (refine alt_f (by assumption) ?_; cbv)
          | (refine alt_b (fun h => ?_) (fun h => ?_) <;> cbv)
          | (refine Br.mk (fun h => ?_) (fun h => ?_) <;> cbv)
          | (refine Ob.mk ?_ ?_; rotate_left; cbv)
          | (refine Lex.mk (by kernel_rfl) ?_; cbv)
        all_goals (try simp only [Unit.unit, Int.ofNat_lt, Int.ofNat_le, BE.val, IE.val, NE.val, ltB_iff, ltB_no, leB_iff, leB_no, Int.toNat_natCast, Nat.zero_add, Nat.add_zero, Nat.mul_one, forced, beq_iff_eq, beq_eq_false_iff_ne, bne_iff_ne, bne_eq_false_iff_eq] at *)
        all_goals first | with_reducible rfl | exact nan_up ha | exact nan_up hb | exact ha | exact hb | (simp_all [isNan, cvU]; done) | (simp_all [isNan]; done) | grind [isNan]
      · have hb := Bool.eq_false_iff.2 hb
        have hb' : fcmp .neq .f32 (b ⟨⟩) (b ⟨⟩) = false := hb
        have hr := eqW_num ha hb
        repeat' first
          | (refine alt_t (by assumption) ?_; cbv)
          | (refine alt_f (by assumption) ?_; cbv)
          | (refine alt_b (fun h => ?_) (fun h => ?_) <;> cbv)
          | (refine Br.mk (fun h => ?_) (fun h => ?_) <;> cbv)
          | (refine Ob.mk ?_ ?_; rotate_left; cbv)
          | (refine Lex.mk (by kernel_rfl) ?_; cbv)
        all_goals (try simp only [Unit.unit, Int.ofNat_lt, Int.ofNat_le, BE.val, IE.val, NE.val, ltB_iff, ltB_no, leB_iff, leB_no, Int.toNat_natCast, Nat.zero_add, Nat.add_zero, Nat.mul_one, forced, beq_iff_eq, beq_eq_false_iff_ne, bne_iff_ne, bne_eq_false_iff_eq] at *)
        all_goals first | with_reducible rfl | exact nan_up ha | exact nan_up hb | exact ha | exact hb | (simp_all [isNan, cvU]; done) | (simp_all [isNan]; done) | grind [isNan]
  · cases hs
theorem fn97 : FnOk Tryz.prog 97 Tryz.f97 (bodyOf Tryz.f97) := ⟨Tryz.func97, rfl, by rfl⟩
def s97 : Spec := hspec fun args H => match args, H with
  | [.c (.f .f32 a), .c (.f .f32 b)], [] => some (vB (eqS (a ()) (b ())), [], [])
  | _, _ => none
def E97 : Env := fun g => envGetL [(130, ⟨true, s130, none⟩)] g
theorem E97ok : EnvOk Tryz.prog E97 := envOk_cons ok130 (envOk_nil _)
theorem ok97 : Ok Tryz.prog 97 (s97) := ok_of_wpaH (E := E97) mixed tts E97ok fn97 fun args H v H' o hs ho => by
  split at hs
  · rename_i a b
    cases hs
    refine ⟨_, HLe.nil, ?_⟩
    cbv
    by_cases ha : isNan (a ⟨⟩) = true
    · have hr := eqS_nan (b := b ⟨⟩) (.inl ha)
      have ha' : fcmp .neq .f32 (a ⟨⟩) (a ⟨⟩) = true := ha
      by_cases hb : isNan (b ⟨⟩) = true
      · have hb' : fcmp .neq .f32 (b ⟨⟩) (b ⟨⟩) = true := hb
        rw [ha, hb] at hr
        repeat' first
          | (refine alt_t (by assumption) ?_; cbv)
          | (refine alt_f (by assumption) ?_; cbv)
          | (refine alt_b (fun h => ?_) (fun h => ?_) <;> cbv)
          | (refine Br.mk (fun h => ?_) (fun h => ?_) <;> cbv)
          | (refine Ob.mk ?_ ?_; rotate_left; cbv)
          | (refine Lex.mk (by kernel_rfl) ?_; cbv)
        all_goals (try simp only [Unit.unit, Int.ofNat_lt, Int.ofNat_le, BE.val, IE.val, NE.val, ltB_iff, ltB_no, leB_iff, leB_no, Int.toNat_natCast, Nat.zero_add, Nat.add_zero, Nat.mul_one, forced, beq_iff_eq, beq_eq_false_iff_ne, bne_iff_ne, bne_eq_false_iff_eq] at *)
        all_goals first | with_reducible rfl | exact nan_up ha | exact nan_up hb | exact ha | exact hb | (simp_all [isNan, cvU]; done) | (simp_all [isNan]; done) | grind [isNan]
      · have hb := Bool.eq_false_iff.2 hb
        have hb' : fcmp .neq .f32 (b ⟨⟩) (b ⟨⟩) = false := hb
        rw [ha, hb] at hr
        repeat' first
          | (refine alt_t (by assumption) ?_; cbv)
          | (refine alt_f (by assumption) ?_; cbv)
          | (refine alt_b (fun h => ?_) (fun h => ?_) <;> cbv)
          | (refine Br.mk (fun h => ?_) (fun h => ?_) <;> cbv)
          | (refine Ob.mk ?_ ?_; rotate_left; cbv)
          | (refine Lex.mk (by kernel_rfl) ?_; cbv)
        all_goals (try simp only [Unit.unit, Int.ofNat_lt, Int.ofNat_le, BE.val, IE.val, NE.val, ltB_iff, ltB_no, leB_iff, leB_no, Int.toNat_natCast, Nat.zero_add, Nat.add_zero, Nat.mul_one, forced, beq_iff_eq, beq_eq_false_iff_ne, bne_iff_ne, bne_eq_false_iff_eq] at *)
        all_goals first | with_reducible rfl | exact nan_up ha | exact nan_up hb | exact ha | exact hb | (simp_all [isNan, cvU]; done) | (simp_all [isNan]; done) | grind [isNan]
    · have ha := Bool.eq_false_iff.2 ha
      have ha' : fcmp .neq .f32 (a ⟨⟩) (a ⟨⟩) = false := ha
      by_cases hb : isNan (b ⟨⟩) = true
      · have hr := eqS_nan (a := a ⟨⟩) (.inr hb)
        have hb' : fcmp .neq .f32 (b ⟨⟩) (b ⟨⟩) = true := hb
        rw [ha, hb] at hr
        repeat' first
          | (refine alt_t (by assumption) ?_; cbv)
          | (refine alt_f (by assumption) ?_; cbv)
          | (refine alt_b (fun h => ?_) (fun h => ?_) <;> cbv)
          | (refine Br.mk (fun h => ?_) (fun h => ?_) <;> cbv)
          | (refine Ob.mk ?_ ?_; rotate_left; cbv)
          | (refine Lex.mk (by kernel_rfl) ?_; cbv)
        all_goals (try simp only [Unit.unit, Int.ofNat_lt, Int.ofNat_le, BE.val, IE.val, NE.val, ltB_iff, ltB_no, leB_iff, leB_no, Int.toNat_natCast, Nat.zero_add, Nat.add_zero, Nat.mul_one, forced, beq_iff_eq, beq_eq_false_iff_ne, bne_iff_ne, bne_eq_false_iff_eq] at *)
        all_goals first | with_reducible rfl | exact nan_up ha | exact nan_up hb | exact ha | exact hb | (simp_all [isNan, cvU]; done) | (simp_all [isNan]; done) | grind [isNan]
      · have hb := Bool.eq_false_iff.2 hb
        have hb' : fcmp .neq .f32 (b ⟨⟩) (b ⟨⟩) = false := hb
        have hr := eqS_num ha hb
        repeat' first
          | (refine alt_t (by assumption) ?_; cbv)
          | (refine alt_f (by assumption) ?_; cbv)
          | (refine alt_b (fun h => ?_) (fun h => ?_) <;> cbv)
          | (refine Br.mk (fun h => ?_) (fun h => ?_) <;> cbv)
          | (refine Ob.mk ?_ ?_; rotate_left; cbv)
          | (refine Lex.mk (by kernel_rfl) ?_; cbv)
        all_goals (try simp only [Unit.unit, Int.ofNat_lt, Int.ofNat_le, BE.val, IE.val, NE.val, ltB_iff, ltB_no, leB_iff, leB_no, Int.toNat_natCast, Nat.zero_add, Nat.add_zero, Nat.mul_one, forced, beq_iff_eq, beq_eq_false_iff_ne, bne_iff_ne, bne_eq_false_iff_eq] at *)
        all_goals first | with_reducible rfl | exact nan_up ha | exact nan_up hb | exact ha | exact hb | (simp_all [isNan, cvU]; done) | (simp_all [isNan]; done) | grind [isNan]
  · cases hs
end Go.Proofs.YteifneielgnniaaGreatDoor.Sh
end
section
namespace Go.Proofs.YteifneielgnniaaGreatDoor.Sh
open Go Go.Proofs
def rowSame (f : Nat → Nat → Bool) (o o' : Nat) (l l' : List Nat) (i : Nat) : Bool := f (l.getD (o + i) 0) (l'.getD (o' + i) 0)
def spanSame (f : Nat → Nat → Bool) (l l' : List Nat) (i : Nat) : Bool := f (l.getD (i * 3) 0) (l'.getD (i * 3) 0) && f (l.getD (i * 3 + 1) 0) (l'.getD (i * 3 + 1) 0) && f (l.getD (i * 3 + 2) 0) (l'.getD (i * 3 + 2) 0)
def webSame (f : Nat → Nat → Bool) (st sp fd : Nat) (n : Nat) (l : List Nat) (st' sp' fd' : Nat) (n' : Nat) (l' : List Nat) : Bool :=
  decide (n = n') && (f st st' && f sp sp' && f fd fd') && allI (spanSame f l l') n
theorem same_n {f : Nat → Nat → Bool} {st sp fd n : Nat} {l : List Nat} {st' sp' fd' n' : Nat} {l' : List Nat} (h : n ≠ n') : webSame f st sp fd n l st' sp' fd' n' l' = false := by simp [webSame, h]
theorem same_h {f : Nat → Nat → Bool} {st sp fd n : Nat} {l : List Nat} {st' sp' fd' n' : Nat} {l' : List Nat} (h : (f st st' && f sp sp' && f fd fd') = false) : webSame f st sp fd n l st' sp' fd' n' l' = false := by simp [webSame, h]
theorem same_s {f : Nat → Nat → Bool} {st sp fd n : Nat} {l : List Nat} {st' sp' fd' n' : Nat} {l' : List Nat} {i : Nat} (hi : i < n) (h : spanSame f l l' i = false) : webSame f st sp fd n l st' sp' fd' n' l' = false := by
  simp [webSame, allI_no hi h]
theorem same_y {f : Nat → Nat → Bool} {st sp fd n : Nat} {l : List Nat} {st' sp' fd' n' : Nat} {l' : List Nat} (h0 : n = n') (h : (f st st' && f sp sp' && f fd fd') = true) (h1 : allI (spanSame f l l') n = true) : webSame f st sp fd n l st' sp' fd' n' l' = true := by
  unfold webSame; rw [h, h1, decide_eq_true h0]; rfl
theorem intne {n m : Nat} (h : ((n : Int) != (m : Int)) = true) : n ≠ m := by simp at h; omega
theorem inteq {n m : Nat} (h : ((n : Int) != (m : Int)) = false) : n = m := by simp at h; omega
theorem and_1 {a b c : Bool} (h : (!a) = true) : (a && b && c) = false := by simp_all
theorem and_2 {a b c : Bool} (h : (!b) = true) : (a && b && c) = false := by simp_all
theorem and_3 {a b c : Bool} (h : (!c) = true) : (a && b && c) = false := by simp_all
theorem and_y {a b c : Bool} (h1 : (!a) = false) (h2 : (!b) = false) (h3 : (!c) = false) : (a && b && c) = true := by simp_all
theorem span_1 {f : Nat → Nat → Bool} {l l' : List Nat} {i : Nat} (h : (!f (l.getD (i * 3) 0) (l'.getD (i * 3) 0)) = true) : spanSame f l l' i = false := and_1 h
theorem span_2 {f : Nat → Nat → Bool} {l l' : List Nat} {i : Nat} (h : (!f (l.getD (i * 3 + 1) 0) (l'.getD (i * 3 + 1) 0)) = true) : spanSame f l l' i = false := and_2 h
theorem span_3 {f : Nat → Nat → Bool} {l l' : List Nat} {i : Nat} (h : (!f (l.getD (i * 3 + 2) 0) (l'.getD (i * 3 + 2) 0)) = true) : spanSame f l l' i = false := and_3 h
theorem span_y {f : Nat → Nat → Bool} {l l' : List Nat} {i : Nat} (h : allI (spanSame f l l') i = true) (h1 : (!f (l.getD (i * 3) 0) (l'.getD (i * 3) 0)) = false) (h2 : (!f (l.getD (i * 3 + 1) 0) (l'.getD (i * 3 + 1) 0)) = false) (h3 : (!f (l.getD (i * 3 + 2) 0) (l'.getD (i * 3 + 2) 0)) = false) : allI (spanSame f l l') (i + 1) = true := by
  simp only [allI, h, Bool.true_and]; exact and_y h1 h2 h3
theorem all3 {f : Nat → Nat → Bool} {a b c a' b' c' : Nat} : (allI (rowSame f 0 0 [a, b, c] [a', b', c']) 3 && decide (3 = 3)) = (f a a' && f b b' && f c c') := by
  simp [allI, rowSame]
theorem span_a {f : Nat → Nat → Bool} {l l' : List Nat} {i : Nat} (h : (!(allI (rowSame f 0 0 [l.getD (i * 3) 0, l.getD (i * 3 + 1) 0, l.getD (i * 3 + 2) 0] [l'.getD (i * 3) 0, l'.getD (i * 3 + 1) 0, l'.getD (i * 3 + 2) 0]) 3 && decide (3 = 3))) = true) : spanSame f l l' i = false := by
  have h := all3 (f := f) ▸ not_t h
  exact h
theorem span_ya {f : Nat → Nat → Bool} {l l' : List Nat} {i : Nat} (hi : allI (spanSame f l l') i = true) (h : (!(allI (rowSame f 0 0 [l.getD (i * 3) 0, l.getD (i * 3 + 1) 0, l.getD (i * 3 + 2) 0] [l'.getD (i * 3) 0, l'.getD (i * 3 + 1) 0, l'.getD (i * 3 + 2) 0]) 3 && decide (3 = 3))) = false) : allI (spanSame f l l') (i + 1) = true := by
  have h := all3 (f := f) ▸ not_f h
  simp only [allI, hi, Bool.true_and]; exact h
theorem fn59 : FnOk Tryz.prog 59 Tryz.f59 (bodyOf Tryz.f59) := ⟨Tryz.func59, rfl, by rfl⟩
def s59 : Spec := hspec fun args H => match args, H with
  | [.c (.sl 0 (.x o) (.x n)), .c (.sl 1 (.x o') (.x n'))], [some ⟨false, 0, x⟩, some ⟨false, 0, x'⟩] => match x.toFl, x'.toFl with
    | some l, some l' => some (vB (allI (rowSame eqS (o ()) (o' ()) (l ()) (l' ())) (n ()) && decide (n () = n' ())), [none, none], [fun _ => o () + n () ≤ (l ()).length ∧ n () ≤ 1048576, fun _ => o' () + n' () ≤ (l' ()).length ∧ n' () ≤ 1048576, fun _ => n () ≤ n' ()])
    | _, _ => none
  | _, _ => none
def E59 : Env := fun g => envGetL [(97, ⟨true, s97, none⟩)] g
theorem E59ok : EnvOk Tryz.prog E59 := envOk_cons ok97 (envOk_nil _)
set_option maxRecDepth 100000 in
set_option maxHeartbeats 1000000 in
theorem ok59 : Ok Tryz.prog 59 (s59) := ok_of_wpaH (E := E59) mixed tts E59ok fn59 fun args H v H' o hs ho => by
  split at hs
  · rename_i o n o' n' x x'
    split at hs
    · rename_i l l' hl hl'
      cases hs
      obtain ⟨⟨hlen, hbig⟩, ⟨hlen', hbig'⟩, hx0⟩ := ho.three
      try simp only [Unit.unit] at hlen hbig hlen' hbig' hx0
      refine ⟨_, HLe.cons (BLe.fl hl) (HLe.cons (BLe.fl hl') HLe.nil), ?_⟩
      cbv
      refine loop_rule (α := Unit → Nat) (c := ⟨tt, E59, 2⟩)
          (fun i => fr 27 [(0, .c (.sl 0 (.x o) (.x n))), (1, .c (.sl 1 (.x o') (.x n'))), (7, .c (.i .i64 (.x fun _ => n ()))), (8, .c (.i .i64 (.x fun _ => i ())))]) (fun i => [some ⟨false, 0, .fl l⟩, some ⟨false, 0, .fl l'⟩])
          (fun i => i () ≤ n () ∧ allI (rowSame eqS (o ()) (o' ()) (l ()) (l' ())) (i ()) = true) (fun i => n () - i ()) (fun _ => n () + 1) ?_ ?_
      · refine .mk (fun _ => 0) ⟨Nat.zero_le _, rfl⟩ (by dsimp only; omega) ?_
        cbv
        repeat' (refine Ob.mk ?_ ?_; rotate_left)
        all_goals (try simp only [Unit.unit, Int.ofNat_lt, Int.ofNat_le, BE.val, IE.val, NE.val, ltB_iff, ltB_no, leB_iff, leB_no, Int.toNat_natCast, Nat.zero_add, Nat.add_zero, Nat.mul_one, forced, beq_iff_eq, beq_eq_false_iff_ne, bne_iff_ne, bne_eq_false_iff_eq] at *)
        all_goals first | with_reducible rfl | trivial | rfl
      · intro i hi
        cbv
        repeat' first
          | (refine alt_t (by assumption) ?_; cbv)
          | (refine alt_f (by assumption) ?_; cbv)
          | (refine alt_b (fun h => ?_) (fun h => ?_) <;> cbv)
          | (refine Br.mk (fun h => ?_) (fun h => ?_) <;> cbv)
          | (refine Ob.mk ?_ ?_; rotate_left; cbv)
          | (refine Lex.mk (by decide +kernel) ?_; cbv)
          | (refine Next.mk (fun _ => i () + 1) ?_ ?_ ?_)
        all_goals (try simp only [Unit.unit, Int.ofNat_lt, Int.ofNat_le, BE.val, IE.val, NE.val, ltB_iff, ltB_no, leB_iff, leB_no, Int.toNat_natCast, Nat.zero_add, Nat.add_zero, Nat.mul_one, forced, beq_iff_eq, beq_eq_false_iff_ne, bne_iff_ne, bne_eq_false_iff_eq] at *)
        all_goals (try simp only [Nat.zero_add] at *)
        all_goals first | with_reducible rfl | omega | exact wrap64_nat (by omega) | (refine ⟨Int.natCast_nonneg _, ?_⟩; omega) | omega | exact ⟨Int.natCast_nonneg _, by omega⟩ | (rw [allI_no (i := i ⟨⟩) (by omega) (by simpa [rowSame] using not_t (by assumption))]; rfl) | (refine ⟨by omega, ?_⟩; simp only [allI, hi.2, Bool.true_and]; simpa [rowSame] using not_f (by assumption)) | (rw [show i ⟨⟩ = n ⟨⟩ by omega] at hi; rw [hi.2]; simp; omega) | grind
    · cases hs
  · cases hs
end Go.Proofs.YteifneielgnniaaGreatDoor.Sh
end
section
namespace Go.Proofs.YteifneielgnniaaGreatDoor.Sh
open Go Go.Proofs
theorem fn10 : FnOk Tryz.prog 10 Tryz.f10 (bodyOf Tryz.f10) := ⟨Tryz.func10, rfl, by rfl⟩
def s10 : Spec := hspec fun args H => match args, H with
  | [.a [.f .f32 st, .f .f32 sp, .f .f32 fd, .sl 0 (.x o) (.x n)], .a [.f .f32 st', .f .f32 sp', .f .f32 fd', .sl 1 (.x o') (.x n')]], [some ⟨false, 0, x⟩, some ⟨false, 0, x'⟩] => match x.toFl, x'.toFl with
    | some l, some l' => some (vB (webSame eqW (st ()) (sp ()) (fd ()) (n ()) (l ()) (st' ()) (sp' ()) (fd' ()) (n' ()) (l' ())), [none, none], [fun _ => o () = 0 ∧ (l ()).length = 3 * n () ∧ n () ≤ 1048576, fun _ => o' () = 0 ∧ (l' ()).length = 3 * n' () ∧ n' () ≤ 1048576])
    | _, _ => none
  | _, _ => none
def E10 : Env := fun g => envGetL [(58, ⟨true, s58, none⟩)] g
theorem E10ok : EnvOk Tryz.prog E10 := envOk_cons ok58 (envOk_nil _)
set_option maxRecDepth 100000 in
set_option maxHeartbeats 1000000 in
theorem ok10 : Ok Tryz.prog 10 (s10) := ok_of_wpaH (E := E10) mixed tts E10ok fn10 fun args H v H' o hs ho => by
  split at hs
  · rename_i st sp fd o n st' sp' fd' o' n' x x'
    split at hs
    · rename_i l l' hl hl'
      cases hs
      obtain ⟨⟨ho0, hlen, hbig⟩, ⟨ho0', hlen', hbig'⟩⟩ := ho.two
      try simp only [Unit.unit] at ho0 hlen hbig ho0' hlen' hbig'
      refine ⟨_, HLe.cons (BLe.fl hl) (HLe.cons (BLe.fl hl') HLe.nil), ?_⟩
      cbv
      by_cases hn : n ⟨⟩ = n' ⟨⟩
      rotate_left
      · have hr := same_n (f := eqW) (st := st ⟨⟩) (sp := sp ⟨⟩) (fd := fd ⟨⟩) (l := l ⟨⟩) (st' := st' ⟨⟩) (sp' := sp' ⟨⟩) (fd' := fd' ⟨⟩) (l' := l' ⟨⟩) hn
        refine Br.mk (fun h => ?_) (fun h => ?_)
        rotate_left
        · have h2 := inteq h
          exfalso
          exact hn h2
        cbv
        repeat' (refine Ob.mk ?_ ?_; rotate_left; cbv)
        all_goals (try simp only [Unit.unit, BE.val, IE.val, NE.val] at *)
        all_goals first | with_reducible rfl | (rw [hr]; done) | (rw [hr]; rfl)
      refine Br.mk (fun h => ?_) (fun h => ?_)
      · have h2 := intne h
        exfalso
        exact h2 hn
      clear h
      cbv
      refine Br.mk (fun k1 => ?_) (fun k1 => ?_)
      · have k1 : (!eqW (st ⟨⟩) (st' ⟨⟩)) = true := k1
        have hr := same_h (f := eqW) (n := n ⟨⟩) (n' := n' ⟨⟩) (l := l ⟨⟩) (l' := l' ⟨⟩) (and_1 (b := eqW (sp ⟨⟩) (sp' ⟨⟩)) (c := eqW (fd ⟨⟩) (fd' ⟨⟩)) k1)
        cbv
        repeat' (refine Ob.mk ?_ ?_; rotate_left; cbv)
        all_goals (try simp only [Unit.unit, BE.val, IE.val, NE.val] at *)
        all_goals first | with_reducible rfl | (rw [hr]; done) | (rw [hr]; rfl)
      have k1 : (!eqW (st ⟨⟩) (st' ⟨⟩)) = false := k1
      cbv
      refine Br.mk (fun k2 => ?_) (fun k2 => ?_)
      · have k2 : (!eqW (sp ⟨⟩) (sp' ⟨⟩)) = true := k2
        have hr := same_h (f := eqW) (n := n ⟨⟩) (n' := n' ⟨⟩) (l := l ⟨⟩) (l' := l' ⟨⟩) (and_2 (a := eqW (st ⟨⟩) (st' ⟨⟩)) (c := eqW (fd ⟨⟩) (fd' ⟨⟩)) k2)
        cbv
        repeat' (refine Ob.mk ?_ ?_; rotate_left; cbv)
        all_goals (try simp only [Unit.unit, BE.val, IE.val, NE.val] at *)
        all_goals first | with_reducible rfl | (rw [hr]; done) | (rw [hr]; rfl)
      have k2 : (!eqW (sp ⟨⟩) (sp' ⟨⟩)) = false := k2
      cbv
      refine Br.mk (fun k3 => ?_) (fun k3 => ?_)
      · have k3 : (!eqW (fd ⟨⟩) (fd' ⟨⟩)) = true := k3
        have hr := same_h (f := eqW) (n := n ⟨⟩) (n' := n' ⟨⟩) (l := l ⟨⟩) (l' := l' ⟨⟩) (and_3 (a := eqW (st ⟨⟩) (st' ⟨⟩)) (b := eqW (sp ⟨⟩) (sp' ⟨⟩)) k3)
        cbv
        repeat' (refine Ob.mk ?_ ?_; rotate_left; cbv)
        all_goals (try simp only [Unit.unit, BE.val, IE.val, NE.val] at *)
        all_goals first | with_reducible rfl | (rw [hr]; done) | (rw [hr]; rfl)
      have k3 : (!eqW (fd ⟨⟩) (fd' ⟨⟩)) = false := k3
      cbv
      have hh := and_y k1 k2 k3
      clear k1 k2 k3
      refine loop_rule (α := Unit → Nat) (c := ⟨tt, E10, 2⟩)
          (fun i => fr 78 [(2, .c (.p 2 (.l 0))), (3, .c (.p 3 (.l 0))), (5, .c (.i .i64 (.x fun _ => i ())))]) (fun i => [some ⟨false, 0, .fl l⟩, some ⟨false, 0, .fl l'⟩, some ⟨true, 0, .lit [.f .f32 st, .f .f32 sp, .f .f32 fd, .sl 0 (.x o) (.x n)]⟩, some ⟨true, 0, .lit [.f .f32 st', .f .f32 sp', .f .f32 fd', .sl 1 (.x o') (.x n')]⟩])
          (fun i => i () ≤ n () ∧ allI (spanSame eqW (l ()) (l' ())) (i ()) = true) (fun i => n () - i ()) (fun _ => n () + 1) ?_ ?_
      · refine .mk (fun _ => 0) ⟨Nat.zero_le _, rfl⟩ (by dsimp only; omega) ?_
        cbv
        repeat' (refine Ob.mk ?_ ?_; rotate_left)
        all_goals (try simp only [Unit.unit, Int.ofNat_lt, Int.ofNat_le, BE.val, IE.val, NE.val, ltB_iff, ltB_no, leB_iff, leB_no, Int.toNat_natCast, Nat.zero_add, Nat.add_zero, Nat.mul_one, forced, beq_iff_eq, beq_eq_false_iff_ne, bne_iff_ne, bne_eq_false_iff_eq] at *)
        all_goals first | with_reducible rfl | trivial | rfl
      · intro i hi
        cbv
        repeat' first
          | (refine alt_t (by assumption) ?_; cbv)
          | (refine alt_f (by assumption) ?_; cbv)
          | (refine alt_b (fun h => ?_) (fun h => ?_) <;> cbv)
          | (refine Br.mk (fun h => ?_) (fun h => ?_) <;> cbv)
          | (refine Ob.mk ?_ ?_; rotate_left; cbv)
          | (refine Lex.mk (by decide +kernel) ?_; cbv)
          | (refine Next.mk (fun _ => i () + 1) ?_ ?_ ?_)
        all_goals (try simp only [Unit.unit, Int.ofNat_lt, Int.ofNat_le, BE.val, IE.val, NE.val, ltB_iff, ltB_no, leB_iff, leB_no, Int.toNat_natCast, Nat.zero_add, Nat.add_zero, Nat.mul_one, forced, beq_iff_eq, beq_eq_false_iff_ne, bne_iff_ne, bne_eq_false_iff_eq] at *)
        all_goals (try simp only [ho0, ho0', Nat.zero_add] at *)
        all_goals first | with_reducible rfl | omega | exact wrap64_nat (by omega) | (refine ⟨Int.natCast_nonneg _, ?_⟩; omega) | omega | exact ⟨Int.natCast_nonneg _, by omega⟩ | (rw [same_s (i := i ⟨⟩) (by omega) (span_1 (f := eqW) (l := l ⟨⟩) (l' := l' ⟨⟩) (by assumption))]; done) | (rw [same_s (i := i ⟨⟩) (by omega) (span_2 (f := eqW) (l := l ⟨⟩) (l' := l' ⟨⟩) (by assumption))]; done) | (rw [same_s (i := i ⟨⟩) (by omega) (span_3 (f := eqW) (l := l ⟨⟩) (l' := l' ⟨⟩) (by assumption))]; done) | exact ⟨by omega, span_y hi.2 (by assumption) (by assumption) (by assumption)⟩ | (rw [show i ⟨⟩ = n ⟨⟩ by omega] at hi; rw [same_y hn hh hi.2]; done) | exact Nat.le_refl 3 | exact ⟨Nat.le_refl 3, Nat.le_of_ble_eq_true rfl⟩
    · cases hs
  · cases hs
end Go.Proofs.YteifneielgnniaaGreatDoor.Sh
end
section
namespace Go.Proofs.YteifneielgnniaaGreatDoor.Sh
open Go Go.Proofs
theorem fn11 : FnOk Tryz.prog 11 Tryz.f11 (bodyOf Tryz.f11) := ⟨Tryz.func11, rfl, by rfl⟩
def s11 : Spec := hspec fun args H => match args, H with
  | [.a [.f .f32 st, .f .f32 sp, .f .f32 fd, .sl 0 (.x o) (.x n)], .a [.f .f32 st', .f .f32 sp', .f .f32 fd', .sl 1 (.x o') (.x n')]], [some ⟨false, 0, x⟩, some ⟨false, 0, x'⟩] => match x.toFl, x'.toFl with
    | some l, some l' => some (vB (webSame eqS (st ()) (sp ()) (fd ()) (n ()) (l ()) (st' ()) (sp' ()) (fd' ()) (n' ()) (l' ())), [none, none], [fun _ => o () = 0 ∧ (l ()).length = 3 * n () ∧ n () ≤ 1048576, fun _ => o' () = 0 ∧ (l' ()).length = 3 * n' () ∧ n' () ≤ 1048576])
    | _, _ => none
  | _, _ => none
def E11 : Env := fun g => envGetL [(59, ⟨true, s59, none⟩)] g
theorem E11ok : EnvOk Tryz.prog E11 := envOk_cons ok59 (envOk_nil _)
set_option maxRecDepth 100000 in
set_option maxHeartbeats 1000000 in
theorem ok11 : Ok Tryz.prog 11 (s11) := ok_of_wpaH (E := E11) mixed tts E11ok fn11 fun args H v H' o hs ho => by
  split at hs
  · rename_i st sp fd o n st' sp' fd' o' n' x x'
    split at hs
    · rename_i l l' hl hl'
      cases hs
      obtain ⟨⟨ho0, hlen, hbig⟩, ⟨ho0', hlen', hbig'⟩⟩ := ho.two
      try simp only [Unit.unit] at ho0 hlen hbig ho0' hlen' hbig'
      refine ⟨_, HLe.cons (BLe.fl hl) (HLe.cons (BLe.fl hl') HLe.nil), ?_⟩
      cbv
      by_cases hn : n ⟨⟩ = n' ⟨⟩
      rotate_left
      · have hr := same_n (f := eqS) (st := st ⟨⟩) (sp := sp ⟨⟩) (fd := fd ⟨⟩) (l := l ⟨⟩) (st' := st' ⟨⟩) (sp' := sp' ⟨⟩) (fd' := fd' ⟨⟩) (l' := l' ⟨⟩) hn
        refine Br.mk (fun h => ?_) (fun h => ?_)
        rotate_left
        · have h2 := inteq h
          exfalso
          exact hn h2
        cbv
        repeat' (refine Ob.mk ?_ ?_; rotate_left; cbv)
        all_goals (try simp only [Unit.unit, BE.val, IE.val, NE.val] at *)
        all_goals first | with_reducible rfl | (rw [hr]; done) | (rw [hr]; rfl)
      refine Br.mk (fun h => ?_) (fun h => ?_)
      · have h2 := intne h
        exfalso
        exact h2 hn
      clear h
      cbv
      repeat' (refine Ob.mk ?_ ?_; rotate_left; cbv)
      all_goals try (first | exact Nat.le_refl 3 | exact ⟨Nat.le_refl 3, Nat.le_of_ble_eq_true rfl⟩)
      refine Br.mk (fun k => ?_) (fun k => ?_)
      · have k : (eqS (st ⟨⟩) (st' ⟨⟩) && eqS (sp ⟨⟩) (sp' ⟨⟩) && eqS (fd ⟨⟩) (fd' ⟨⟩)) = false := all3 (f := eqS) ▸ not_t k
        have hr := same_h (f := eqS) (n := n ⟨⟩) (n' := n' ⟨⟩) (l := l ⟨⟩) (l' := l' ⟨⟩) (k)
        cbv
        repeat' (refine Ob.mk ?_ ?_; rotate_left; cbv)
        all_goals (try simp only [Unit.unit, BE.val, IE.val, NE.val] at *)
        all_goals first | with_reducible rfl | (rw [hr]; done) | (rw [hr]; rfl)
      have hh : (eqS (st ⟨⟩) (st' ⟨⟩) && eqS (sp ⟨⟩) (sp' ⟨⟩) && eqS (fd ⟨⟩) (fd' ⟨⟩)) = true := all3 (f := eqS) ▸ not_f k
      clear k
      cbv
      refine loop_rule (α := Unit → Nat) (c := ⟨tt, E11, 2⟩)
          (fun i => fr 63 [(2, .c (.p 2 (.l 0))), (3, .c (.p 3 (.l 0))), (34, .c (.sl 0 (.x o) (.x n))), (35, .c (.i .i64 (.x fun _ => n ()))), (36, .c (.i .i64 (.x fun _ => i ())))]) (fun i => [some ⟨false, 0, .fl l⟩, some ⟨false, 0, .fl l'⟩, some ⟨true, 0, .lit [.f .f32 st, .f .f32 sp, .f .f32 fd, .sl 0 (.x o) (.x n)]⟩, some ⟨true, 0, .lit [.f .f32 st', .f .f32 sp', .f .f32 fd', .sl 1 (.x o') (.x n')]⟩])
          (fun i => i () ≤ n () ∧ allI (spanSame eqS (l ()) (l' ())) (i ()) = true) (fun i => n () - i ()) (fun _ => n () + 1) ?_ ?_
      · refine .mk (fun _ => 0) ⟨Nat.zero_le _, rfl⟩ (by dsimp only; omega) ?_
        cbv
        repeat' (refine Ob.mk ?_ ?_; rotate_left)
        all_goals (try simp only [Unit.unit, Int.ofNat_lt, Int.ofNat_le, BE.val, IE.val, NE.val, ltB_iff, ltB_no, leB_iff, leB_no, Int.toNat_natCast, Nat.zero_add, Nat.add_zero, Nat.mul_one, forced, beq_iff_eq, beq_eq_false_iff_ne, bne_iff_ne, bne_eq_false_iff_eq] at *)
        all_goals first | with_reducible rfl | trivial | rfl
      · intro i hi
        cbv
        repeat' first
          | (refine alt_t (by assumption) ?_; cbv)
          | (refine alt_f (by assumption) ?_; cbv)
          | (refine alt_b (fun h => ?_) (fun h => ?_) <;> cbv)
          | (refine Br.mk (fun h => ?_) (fun h => ?_) <;> cbv)
          | (refine Ob.mk ?_ ?_; rotate_left; cbv)
          | (refine Lex.mk (by decide +kernel) ?_; cbv)
          | (refine Next.mk (fun _ => i () + 1) ?_ ?_ ?_)
        all_goals (try simp only [Unit.unit, Int.ofNat_lt, Int.ofNat_le, BE.val, IE.val, NE.val, ltB_iff, ltB_no, leB_iff, leB_no, Int.toNat_natCast, Nat.zero_add, Nat.add_zero, Nat.mul_one, forced, beq_iff_eq, beq_eq_false_iff_ne, bne_iff_ne, bne_eq_false_iff_eq] at *)
        all_goals (try simp only [ho0, ho0', Nat.zero_add] at *)
        all_goals first | with_reducible rfl | omega | exact wrap64_nat (by omega) | (refine ⟨Int.natCast_nonneg _, ?_⟩; omega) | omega | exact ⟨Int.natCast_nonneg _, by omega⟩ | (rw [same_s (i := i ⟨⟩) (by omega) (span_a (f := eqS) (l := l ⟨⟩) (l' := l' ⟨⟩) (by assumption))]; done) | exact ⟨by omega, span_ya hi.2 (by assumption)⟩ | (rw [show i ⟨⟩ = n ⟨⟩ by omega] at hi; rw [same_y hn hh hi.2]; done) | exact Nat.le_refl 3 | exact ⟨Nat.le_refl 3, Nat.le_of_ble_eq_true rfl⟩
    · cases hs
  · cases hs
end Go.Proofs.YteifneielgnniaaGreatDoor.Sh
end
section
namespace Go.Proofs.YteifneielgnniaaGreatDoor.Sh
open Go Go.Proofs
def nxB (L : List Int) (a : Int) : Int := if a < (L.length : Int) then IntKind.wrap .i64 (L.getD a.toNat 0) else 0
def nxS (L : List Int) (q : Int × Int) : Int := IntKind.wrap .u64 (IntKind.wrap .u64 (IntKind.wrap .u64 (q.2 * 6364136223846793005) + IntKind.wrap .u64 (nxB L q.1)) + 1442695040888963407)
def nxV (L : List Int) (q : Int × Int) : Int := if q.1 + 1 ≤ (L.length : Int) then nxB L q.1 else IntKind.wrap .i64 (iand .u64 (ishr .u64 (nxS L q) 40) 255)
def nxQ (L : List Int) (q : Int × Int) : Int × Int := (q.1 + 1, nxS L q)
def pkV (L : List Int) (k : Int) (q : Int × Int) : Int :=
  if k ≤ 1 then 0 else if 200 < k then (IntKind.wrap .i64 (IntKind.wrap .i64 (nxV L q * 256) + nxV L (nxQ L q))).tmod k else (nxV L q).tmod k
def pkQ (L : List Int) (k : Int) (q : Int × Int) : Int × Int :=
  if k ≤ 1 then q else if 200 < k then nxQ L (nxQ L q) else nxQ L q
def bytesOk (L : List Int) : Prop := ∀ x ∈ L, 0 ≤ x ∧ x ≤ 255
theorem natlt {a : Int} {n : Nat} (h0 : 0 ≤ a) (h : a < (n : Int)) : a.toNat < n := by omega
theorem bytes_nil : bytesOk [] := fun x hx => by cases hx
theorem nxB_bd {L : List Int} (h : bytesOk L) (a : Int) : 0 ≤ nxB L a ∧ nxB L a ≤ 255 := by
  unfold nxB
  split
  · have : 0 ≤ L.getD a.toNat 0 ∧ L.getD a.toNat 0 ≤ 255 := by
      rw [List.getD_eq_getElem?_getD]
      cases e : L[a.toNat]? with
      | none => decide
      | some x => exact h x (List.mem_of_getElem? e)
    rw [wrap64 (by omega) (by omega)]
    exact this
  · decide
theorem iand_bd (x : Int) : 0 ≤ iand .u64 x 255 ∧ iand .u64 x 255 ≤ 255 := by
  have h : (BitVec.ofInt 64 x &&& BitVec.ofInt 64 255).toNat ≤ 255 := by
    rw [BitVec.toNat_and]
    exact Nat.le_trans Nat.and_le_right (by decide)
  unfold iand
  show 0 ≤ IntKind.wrap .u64 ((BitVec.ofInt 64 x &&& BitVec.ofInt 64 255).toNat : Int) ∧ IntKind.wrap .u64 ((BitVec.ofInt 64 x &&& BitVec.ofInt 64 255).toNat : Int) ≤ 255
  generalize (BitVec.ofInt 64 x &&& BitVec.ofInt 64 255).toNat = y at h
  simp [IntKind.wrap, IntKind.signed, IntKind.bits]
  omega
theorem nxV_bd {L : List Int} (h : bytesOk L) (q : Int × Int) : 0 ≤ nxV L q ∧ nxV L q ≤ 255 := by
  unfold nxV
  split
  · exact nxB_bd h _
  · have := iand_bd (ishr .u64 (nxS L q) 40)
    rw [wrap64 (by omega) (by omega)]
    exact this
theorem tmod_bd {x k : Int} (hx : 0 ≤ x) (hk : 1 < k) : 0 ≤ x.tmod k ∧ x.tmod k < k := ⟨Int.tmod_nonneg _ hx, Int.tmod_lt_of_pos _ (by omega)⟩
theorem pkV_bd {L : List Int} (h : bytesOk L) {k : Int} (hk : 1 ≤ k) (q : Int × Int) : 0 ≤ pkV L k q ∧ pkV L k q < k := by
  unfold pkV
  split
  · omega
  · split
    · have h1 := nxV_bd h q
      have h2 := nxV_bd h (nxQ L q)
      rw [wrap64 (x := nxV L q * 256) (by omega) (by omega), wrap64 (by omega) (by omega)]
      exact tmod_bd (by omega) (by omega)
    · exact tmod_bd (nxV_bd h q).1 (by omega)
theorem pkQ_bd {L : List Int} {k : Int} {q : Int × Int} : q.1 ≤ (pkQ L k q).1 ∧ (pkQ L k q).1 ≤ q.1 + 2 := by
  unfold pkQ nxQ
  repeat' split
  · omega
  · show q.1 ≤ q.1 + 1 + 1 ∧ q.1 + 1 + 1 ≤ q.1 + 2; omega
  · show q.1 ≤ q.1 + 1 ∧ q.1 + 1 ≤ q.1 + 2; omega
theorem fn113 : FnOk Tryz.prog 113 Tryz.f113 (bodyOf Tryz.f113) := ⟨Tryz.func113, rfl, by rfl⟩
def s113 : Spec := hspec fun args H => match args, H with
  | [.c (.p 0 (.l 0))], [some ⟨true, 0, .lit [.sl 1 (.x o) (.x n), .i .i64 (.x a), .i .u64 (.x s)]⟩, some ⟨false, 0, .it .u8 L⟩] => some (vI (nxV (L ()) (a (), s ())), [some ⟨true, 0, .lit [.sl 1 (.x o) (.x n), .i .i64 (.x fun _ => (nxQ (L ()) (a (), s ())).1), .i .u64 (.x fun _ => (nxQ (L ()) (a (), s ())).2)]⟩, some ⟨false, 0, .it .u8 L⟩], [fun _ => 0 ≤ a () ∧ a () ≤ 100000, fun _ => o () = 0 ∧ (L ()).length = n () ∧ n () ≤ 4096 ∧ bytesOk (L ())])
  | [.c (.p 0 (.l 0))], [some ⟨true, 0, .lit [.sn, .i .i64 (.x a), .i .u64 (.x s)]⟩] => some (vI (nxV [] (a (), s ())), [some ⟨true, 0, .lit [.sn, .i .i64 (.x fun _ => (nxQ [] (a (), s ())).1), .i .u64 (.x fun _ => (nxQ [] (a (), s ())).2)]⟩], [fun _ => 0 ≤ a () ∧ a () ≤ 100000])
  | _, _ => none
set_option maxRecDepth 100000 in
set_option maxHeartbeats 1000000 in
theorem ok113 : Ok Tryz.prog 113 (s113) := ok_of_wpaH (E := envGetL []) mixed tts (envOk_nil _) fn113 fun args H v H' o hs ho => by
  split at hs
  · rename_i o n a s L
    cases hs
    obtain ⟨⟨ha0, ha1⟩, ⟨ho0, hlen, hbig, hby⟩⟩ := ho.two
    try simp only [Unit.unit] at ha0 ha1 ho0 hlen hbig 
    refine ⟨_, HLe.refl _, ?_⟩
    cbv
    have hB : nxB (L ⟨⟩) (a ⟨⟩) = if a ⟨⟩ < (n ⟨⟩ : Int) then IntKind.wrap .i64 (((L ⟨⟩)).getD (a ⟨⟩).toNat 0) else 0 := by rw [← hlen]; rfl
    have hV : nxV (L ⟨⟩) (a ⟨⟩, s ⟨⟩) = if a ⟨⟩ + 1 ≤ (n ⟨⟩ : Int) then nxB (L ⟨⟩) (a ⟨⟩) else IntKind.wrap .i64 (iand .u64 (ishr .u64 (nxS (L ⟨⟩) (a ⟨⟩, s ⟨⟩)) 40) 255) := by rw [← hlen]; rfl
    have hS : nxS (L ⟨⟩) (a ⟨⟩, s ⟨⟩) = IntKind.wrap .u64 (IntKind.wrap .u64 (IntKind.wrap .u64 (s ⟨⟩ * 6364136223846793005) + IntKind.wrap .u64 (nxB (L ⟨⟩) (a ⟨⟩))) + 1442695040888963407) := rfl
    have hw : IntKind.wrap .i64 (a ⟨⟩ + 1) = a ⟨⟩ + 1 := wrap64 (by omega) (by omega)
    by_cases hc : a ⟨⟩ < (n ⟨⟩ : Int)
    · rw [if_pos hc] at hB
      rw [hB] at hS hV
      repeat' first
        | (refine Br.mk (fun h => ?_) (fun h => ?_) <;> cbv)
        | (refine Ob.mk ?_ ?_; rotate_left; cbv)
        | (refine Lex.mk (by decide +kernel) ?_; cbv)
      all_goals (try simp only [Unit.unit, Int.ofNat_lt, Int.ofNat_le, BE.val, IE.val, NE.val, ltB_iff, ltB_no, leB_iff, leB_no, Int.toNat_natCast, Nat.zero_add, Nat.add_zero, Nat.mul_one, forced, beq_iff_eq, beq_eq_false_iff_ne, bne_iff_ne, bne_eq_false_iff_eq] at *)
      all_goals (try simp only [hw, ho0, hlen, Nat.zero_add, Nat.mul_one] at *)
      all_goals first | with_reducible rfl | omega | (refine ⟨by omega, ?_⟩; omega) | (exfalso; omega) | exact natlt ha0 hc | exact ⟨ha0, hc⟩ | exact hS.symm | exact hS | (rw [hV, if_pos (by omega)]; done) | (rw [hV, if_neg (by omega)]; done) | (rw [hV, if_neg (by omega), hS]; done) | rfl
    · rw [if_neg hc] at hB
      rw [hB, show IntKind.wrap .u64 0 = 0 from rfl] at hS
      rw [hB] at hV
      repeat' first
        | (refine Br.mk (fun h => ?_) (fun h => ?_) <;> cbv)
        | (refine Ob.mk ?_ ?_; rotate_left; cbv)
        | (refine Lex.mk (by decide +kernel) ?_; cbv)
      all_goals (try simp only [Unit.unit, Int.ofNat_lt, Int.ofNat_le, BE.val, IE.val, NE.val, ltB_iff, ltB_no, leB_iff, leB_no, Int.toNat_natCast, Nat.zero_add, Nat.add_zero, Nat.mul_one, forced, beq_iff_eq, beq_eq_false_iff_ne, bne_iff_ne, bne_eq_false_iff_eq] at *)
      all_goals (try simp only [hw, ho0, hlen, Nat.zero_add, Nat.mul_one] at *)
      all_goals first | with_reducible rfl | omega | (refine ⟨by omega, ?_⟩; omega) | (exfalso; omega) | exact natlt ha0 hc | exact ⟨ha0, hc⟩ | exact hS.symm | exact hS | (rw [hV, if_pos (by omega)]; done) | (rw [hV, if_neg (by omega)]; done) | (rw [hV, if_neg (by omega), hS]; done) | rfl
  · rename_i a s
    cases hs
    obtain ⟨ha0, ha1⟩ := ho.one
    have hby := bytes_nil
    try simp only [Unit.unit] at ha0 ha1 
    refine ⟨_, HLe.refl _, ?_⟩
    cbv
    have hB : nxB [] (a ⟨⟩) = if a ⟨⟩ < ((0 : Nat) : Int) then IntKind.wrap .i64 (([]).getD (a ⟨⟩).toNat 0) else 0 := by rfl
    have hV : nxV [] (a ⟨⟩, s ⟨⟩) = if a ⟨⟩ + 1 ≤ ((0 : Nat) : Int) then nxB [] (a ⟨⟩) else IntKind.wrap .i64 (iand .u64 (ishr .u64 (nxS [] (a ⟨⟩, s ⟨⟩)) 40) 255) := by rfl
    have hS : nxS [] (a ⟨⟩, s ⟨⟩) = IntKind.wrap .u64 (IntKind.wrap .u64 (IntKind.wrap .u64 (s ⟨⟩ * 6364136223846793005) + IntKind.wrap .u64 (nxB [] (a ⟨⟩))) + 1442695040888963407) := rfl
    have hw : IntKind.wrap .i64 (a ⟨⟩ + 1) = a ⟨⟩ + 1 := wrap64 (by omega) (by omega)
    by_cases hc : a ⟨⟩ < ((0 : Nat) : Int)
    · rw [if_pos hc] at hB
      rw [hB] at hS hV
      exfalso; omega
    · rw [if_neg hc] at hB
      rw [hB, show IntKind.wrap .u64 0 = 0 from rfl] at hS
      rw [hB] at hV
      repeat' first
        | (refine Br.mk (fun h => ?_) (fun h => ?_) <;> cbv)
        | (refine Ob.mk ?_ ?_; rotate_left; cbv)
        | (refine Lex.mk (by decide +kernel) ?_; cbv)
      all_goals (try simp only [Unit.unit, Int.ofNat_lt, Int.ofNat_le, BE.val, IE.val, NE.val, ltB_iff, ltB_no, leB_iff, leB_no, Int.toNat_natCast, Nat.zero_add, Nat.add_zero, Nat.mul_one, forced, beq_iff_eq, beq_eq_false_iff_ne, bne_iff_ne, bne_eq_false_iff_eq] at *)
      all_goals (try simp only [hw, Nat.zero_add, Nat.mul_one] at *)
      all_goals first | with_reducible rfl | omega | (refine ⟨by omega, ?_⟩; omega) | (exfalso; omega) | exact natlt ha0 hc | exact ⟨ha0, hc⟩ | exact hS.symm | exact hS | (rw [hV, if_pos (by omega)]; done) | (rw [hV, if_neg (by omega)]; done) | (rw [hV, if_neg (by omega), hS]; done) | rfl
  · cases hs
end Go.Proofs.YteifneielgnniaaGreatDoor.Sh
end
section
namespace Go.Proofs.YteifneielgnniaaGreatDoor.Sh
open Go Go.Proofs
theorem nx_bd {L : List Int} {q : Int × Int} (h0 : 0 ≤ q.1) (h1 : q.1 ≤ 50000) : 0 ≤ (nxQ L q).1 ∧ (nxQ L q).1 ≤ 100000 := ⟨by show 0 ≤ q.1 + 1; omega, by show q.1 + 1 ≤ 100000; omega⟩
theorem pkV_0 {L : List Int} {k : Int} {q : Int × Int} (h : k ≤ 1) : pkV L k q = 0 := if_pos h
theorem pkQ_0 {L : List Int} {k : Int} {q : Int × Int} (h : k ≤ 1) : pkQ L k q = q := if_pos h
theorem pkV_1 {L : List Int} {k : Int} {q : Int × Int} (h : ¬ k ≤ 1) (h2 : ¬ 200 < k) : pkV L k q = (nxV L q).tmod k := by unfold pkV; rw [if_neg h, if_neg h2]
theorem pkQ_1 {L : List Int} {k : Int} {q : Int × Int} (h : ¬ k ≤ 1) (h2 : ¬ 200 < k) : pkQ L k q = nxQ L q := by unfold pkQ; rw [if_neg h, if_neg h2]
theorem pkV_2 {L : List Int} {k : Int} {q : Int × Int} (h : ¬ k ≤ 1) (h2 : 200 < k) : pkV L k q = (IntKind.wrap .i64 (IntKind.wrap .i64 (nxV L q * 256) + nxV L (nxQ L q))).tmod k := by unfold pkV; rw [if_neg h, if_pos h2]
theorem pkQ_2 {L : List Int} {k : Int} {q : Int × Int} (h : ¬ k ≤ 1) (h2 : 200 < k) : pkQ L k q = nxQ L (nxQ L q) := by unfold pkQ; rw [if_neg h, if_pos h2]
theorem fn55 : FnOk Tryz.prog 55 Tryz.f55 (bodyOf Tryz.f55) := ⟨Tryz.func55, rfl, by rfl⟩
def s55 : Spec := hspec fun args H => match args, H with
  | [.c (.p 0 (.l 0)), .c (.i .i64 (.x k))], [some ⟨true, 0, .lit [.sl 1 (.x o) (.x n), .i .i64 (.x a), .i .u64 (.x s)]⟩, some ⟨false, 0, .it .u8 L⟩] => some (vI (pkV (L ()) (k ()) (a (), s ())), [some ⟨true, 0, .lit [.sl 1 (.x o) (.x n), .i .i64 (.x fun _ => (pkQ (L ()) (k ()) (a (), s ())).1), .i .u64 (.x fun _ => (pkQ (L ()) (k ()) (a (), s ())).2)]⟩, some ⟨false, 0, .it .u8 L⟩], [fun _ => 0 ≤ a () ∧ a () ≤ 100000, fun _ => o () = 0 ∧ (L ()).length = n () ∧ n () ≤ 4096 ∧ bytesOk (L ()), fun _ => a () ≤ 50000])
  | [.c (.p 0 (.l 0)), .c (.i .i64 (.x k))], [some ⟨true, 0, .lit [.sn, .i .i64 (.x a), .i .u64 (.x s)]⟩] => some (vI (pkV [] (k ()) (a (), s ())), [some ⟨true, 0, .lit [.sn, .i .i64 (.x fun _ => (pkQ [] (k ()) (a (), s ())).1), .i .u64 (.x fun _ => (pkQ [] (k ()) (a (), s ())).2)]⟩], [fun _ => 0 ≤ a () ∧ a () ≤ 100000, fun _ => a () ≤ 50000])
  | _, _ => none
def E55 : Env := fun g => envGetL [(113, ⟨false, s113, none⟩)] g
theorem E55ok : EnvOk Tryz.prog E55 := envOk_cons ok113 (envOk_nil _)
set_option maxRecDepth 100000 in
set_option maxHeartbeats 1000000 in
theorem ok55 : Ok Tryz.prog 55 (s55) := ok_of_wpaH (E := E55) mixed tts E55ok fn55 fun args H v H' o hs ho => by
  split at hs
  · rename_i k o n a s L
    cases hs
    obtain ⟨⟨ha0, ha1⟩, ⟨ho0, hlen, hbig, hby⟩, hx0⟩ := ho.three
    try simp only [Unit.unit] at ha0 ha1 ho0 hlen hbig hx0
    refine ⟨_, HLe.refl _, ?_⟩
    cbv
    by_cases h1 : k ⟨⟩ ≤ 1
    · have hV := pkV_0 (L := (L ⟨⟩)) (q := (a ⟨⟩, s ⟨⟩)) h1
      have hQ := pkQ_0 (L := (L ⟨⟩)) (q := (a ⟨⟩, s ⟨⟩)) h1
      repeat' first
        | (refine Br.mk (fun h => ?_) (fun h => ?_) <;> cbv)
        | (refine Ob.mk ?_ ?_; rotate_left; cbv)
        | (refine Lex.mk (by decide +kernel) ?_; cbv)
      all_goals try (first | exact ⟨ha0, ha1⟩ | exact nx_bd ha0 hx0 | exact ⟨ho0, hlen, hbig, hby⟩ | exact ⟨by trivial, hlen, hbig, hby⟩)
      all_goals (try simp only [Unit.unit, Int.ofNat_lt, Int.ofNat_le, BE.val, IE.val, NE.val, ltB_iff, ltB_no, leB_iff, leB_no, Int.toNat_natCast, Nat.zero_add, Nat.add_zero, Nat.mul_one, forced, beq_iff_eq, beq_eq_false_iff_ne, bne_iff_ne, bne_eq_false_iff_eq] at *)
      all_goals first | with_reducible rfl | (exfalso; omega) | omega | (rw [hV]; done) | (rw [hV]; rfl) | (rw [hQ]; done) | (rw [hQ]; rfl) | rfl
    · by_cases h2 : 200 < k ⟨⟩
      · have hV := pkV_2 (L := (L ⟨⟩)) (q := (a ⟨⟩, s ⟨⟩)) h1 h2
        have hQ := pkQ_2 (L := (L ⟨⟩)) (q := (a ⟨⟩, s ⟨⟩)) h1 h2
        repeat' first
          | (refine Br.mk (fun h => ?_) (fun h => ?_) <;> cbv)
          | (refine Ob.mk ?_ ?_; rotate_left; cbv)
          | (refine Lex.mk (by decide +kernel) ?_; cbv)
        all_goals try (first | exact ⟨ha0, ha1⟩ | exact nx_bd ha0 hx0 | exact ⟨ho0, hlen, hbig, hby⟩ | exact ⟨by trivial, hlen, hbig, hby⟩)
        all_goals (try simp only [Unit.unit, Int.ofNat_lt, Int.ofNat_le, BE.val, IE.val, NE.val, ltB_iff, ltB_no, leB_iff, leB_no, Int.toNat_natCast, Nat.zero_add, Nat.add_zero, Nat.mul_one, forced, beq_iff_eq, beq_eq_false_iff_ne, bne_iff_ne, bne_eq_false_iff_eq] at *)
        all_goals first | with_reducible rfl | (exfalso; omega) | omega | (rw [hV]; done) | (rw [hV]; rfl) | (rw [hQ]; done) | (rw [hQ]; rfl) | rfl
      · have hV := pkV_1 (L := (L ⟨⟩)) (q := (a ⟨⟩, s ⟨⟩)) h1 h2
        have hQ := pkQ_1 (L := (L ⟨⟩)) (q := (a ⟨⟩, s ⟨⟩)) h1 h2
        repeat' first
          | (refine Br.mk (fun h => ?_) (fun h => ?_) <;> cbv)
          | (refine Ob.mk ?_ ?_; rotate_left; cbv)
          | (refine Lex.mk (by decide +kernel) ?_; cbv)
        all_goals try (first | exact ⟨ha0, ha1⟩ | exact nx_bd ha0 hx0 | exact ⟨ho0, hlen, hbig, hby⟩ | exact ⟨by trivial, hlen, hbig, hby⟩)
        all_goals (try simp only [Unit.unit, Int.ofNat_lt, Int.ofNat_le, BE.val, IE.val, NE.val, ltB_iff, ltB_no, leB_iff, leB_no, Int.toNat_natCast, Nat.zero_add, Nat.add_zero, Nat.mul_one, forced, beq_iff_eq, beq_eq_false_iff_ne, bne_iff_ne, bne_eq_false_iff_eq] at *)
        all_goals first | with_reducible rfl | (exfalso; omega) | omega | (rw [hV]; done) | (rw [hV]; rfl) | (rw [hQ]; done) | (rw [hQ]; rfl) | rfl
  · rename_i k a s
    cases hs
    obtain ⟨⟨ha0, ha1⟩, hx0⟩ := ho.two
    have hby := bytes_nil
    try simp only [Unit.unit] at ha0 ha1 hx0
    refine ⟨_, HLe.refl _, ?_⟩
    cbv
    by_cases h1 : k ⟨⟩ ≤ 1
    · have hV := pkV_0 (L := []) (q := (a ⟨⟩, s ⟨⟩)) h1
      have hQ := pkQ_0 (L := []) (q := (a ⟨⟩, s ⟨⟩)) h1
      repeat' first
        | (refine Br.mk (fun h => ?_) (fun h => ?_) <;> cbv)
        | (refine Ob.mk ?_ ?_; rotate_left; cbv)
        | (refine Lex.mk (by decide +kernel) ?_; cbv)
      all_goals try (first | exact ⟨ha0, ha1⟩ | exact nx_bd ha0 hx0)
      all_goals (try simp only [Unit.unit, Int.ofNat_lt, Int.ofNat_le, BE.val, IE.val, NE.val, ltB_iff, ltB_no, leB_iff, leB_no, Int.toNat_natCast, Nat.zero_add, Nat.add_zero, Nat.mul_one, forced, beq_iff_eq, beq_eq_false_iff_ne, bne_iff_ne, bne_eq_false_iff_eq] at *)
      all_goals first | with_reducible rfl | (exfalso; omega) | omega | (rw [hV]; done) | (rw [hV]; rfl) | (rw [hQ]; done) | (rw [hQ]; rfl) | rfl
    · by_cases h2 : 200 < k ⟨⟩
      · have hV := pkV_2 (L := []) (q := (a ⟨⟩, s ⟨⟩)) h1 h2
        have hQ := pkQ_2 (L := []) (q := (a ⟨⟩, s ⟨⟩)) h1 h2
        repeat' first
          | (refine Br.mk (fun h => ?_) (fun h => ?_) <;> cbv)
          | (refine Ob.mk ?_ ?_; rotate_left; cbv)
          | (refine Lex.mk (by decide +kernel) ?_; cbv)
        all_goals try (first | exact ⟨ha0, ha1⟩ | exact nx_bd ha0 hx0)
        all_goals (try simp only [Unit.unit, Int.ofNat_lt, Int.ofNat_le, BE.val, IE.val, NE.val, ltB_iff, ltB_no, leB_iff, leB_no, Int.toNat_natCast, Nat.zero_add, Nat.add_zero, Nat.mul_one, forced, beq_iff_eq, beq_eq_false_iff_ne, bne_iff_ne, bne_eq_false_iff_eq] at *)
        all_goals first | with_reducible rfl | (exfalso; omega) | omega | (rw [hV]; done) | (rw [hV]; rfl) | (rw [hQ]; done) | (rw [hQ]; rfl) | rfl
      · have hV := pkV_1 (L := []) (q := (a ⟨⟩, s ⟨⟩)) h1 h2
        have hQ := pkQ_1 (L := []) (q := (a ⟨⟩, s ⟨⟩)) h1 h2
        repeat' first
          | (refine Br.mk (fun h => ?_) (fun h => ?_) <;> cbv)
          | (refine Ob.mk ?_ ?_; rotate_left; cbv)
          | (refine Lex.mk (by decide +kernel) ?_; cbv)
        all_goals try (first | exact ⟨ha0, ha1⟩ | exact nx_bd ha0 hx0)
        all_goals (try simp only [Unit.unit, Int.ofNat_lt, Int.ofNat_le, BE.val, IE.val, NE.val, ltB_iff, ltB_no, leB_iff, leB_no, Int.toNat_natCast, Nat.zero_add, Nat.add_zero, Nat.mul_one, forced, beq_iff_eq, beq_eq_false_iff_ne, bne_iff_ne, bne_eq_false_iff_eq] at *)
        all_goals first | with_reducible rfl | (exfalso; omega) | omega | (rw [hV]; done) | (rw [hV]; rfl) | (rw [hQ]; done) | (rw [hQ]; rfl) | rfl
  · cases hs
theorem fn112 : FnOk Tryz.prog 112 Tryz.f112 (bodyOf Tryz.f112) := ⟨Tryz.func112, rfl, by rfl⟩
def s112 : Spec := hspec fun args H => match args, H with
  | [.c (.p 0 (.l 0)), .c (.i .i64 (.x k))], [some ⟨true, 0, .lit [.sl 1 (.x o) (.x n), .i .i64 (.x a), .i .u64 (.x s)]⟩, some ⟨false, 0, .it .u8 L⟩] => some (vB (pkV (L ()) (k ()) (a (), s ()) == 0), [some ⟨true, 0, .lit [.sl 1 (.x o) (.x n), .i .i64 (.x fun _ => (pkQ (L ()) (k ()) (a (), s ())).1), .i .u64 (.x fun _ => (pkQ (L ()) (k ()) (a (), s ())).2)]⟩, some ⟨false, 0, .it .u8 L⟩], [fun _ => 0 ≤ a () ∧ a () ≤ 100000, fun _ => o () = 0 ∧ (L ()).length = n () ∧ n () ≤ 4096 ∧ bytesOk (L ()), fun _ => a () ≤ 50000])
  | [.c (.p 0 (.l 0)), .c (.i .i64 (.x k))], [some ⟨true, 0, .lit [.sn, .i .i64 (.x a), .i .u64 (.x s)]⟩] => some (vB (pkV [] (k ()) (a (), s ()) == 0), [some ⟨true, 0, .lit [.sn, .i .i64 (.x fun _ => (pkQ [] (k ()) (a (), s ())).1), .i .u64 (.x fun _ => (pkQ [] (k ()) (a (), s ())).2)]⟩], [fun _ => 0 ≤ a () ∧ a () ≤ 100000, fun _ => a () ≤ 50000])
  | _, _ => none
def E112 : Env := fun g => envGetL [(55, ⟨false, s55, none⟩)] g
theorem E112ok : EnvOk Tryz.prog E112 := envOk_cons ok55 (envOk_nil _)
set_option maxRecDepth 100000 in
set_option maxHeartbeats 1000000 in
theorem ok112 : Ok Tryz.prog 112 (s112) := ok_of_wpaH (E := E112) mixed tts E112ok fn112 fun args H v H' o hs ho => by
  split at hs
  · rename_i k o n a s L
    cases hs
    obtain ⟨⟨ha0, ha1⟩, ⟨ho0, hlen, hbig, hby⟩, hx0⟩ := ho.three
    try simp only [Unit.unit] at ha0 ha1 ho0 hlen hbig hx0
    refine ⟨_, HLe.refl _, ?_⟩
    cbv
    repeat' first
      | (refine Br.mk (fun h => ?_) (fun h => ?_) <;> cbv)
      | (refine Ob.mk ?_ ?_; rotate_left; cbv)
      | (refine Lex.mk (by decide +kernel) ?_; cbv)
    all_goals try (first | exact ⟨ha0, ha1⟩ | exact ⟨ho0, hlen, hbig, hby⟩ | exact ⟨by trivial, hlen, hbig, hby⟩)
    all_goals (try simp only [Unit.unit, Int.ofNat_lt, Int.ofNat_le, BE.val, IE.val, NE.val, ltB_iff, ltB_no, leB_iff, leB_no, Int.toNat_natCast, Nat.zero_add, Nat.add_zero, Nat.mul_one, forced, beq_iff_eq, beq_eq_false_iff_ne, bne_iff_ne, bne_eq_false_iff_eq] at *)
    all_goals first | with_reducible rfl | omega | exact hx0 | rfl
  · rename_i k a s
    cases hs
    obtain ⟨⟨ha0, ha1⟩, hx0⟩ := ho.two
    have hby := bytes_nil
    try simp only [Unit.unit] at ha0 ha1 hx0
    refine ⟨_, HLe.refl _, ?_⟩
    cbv
    repeat' first
      | (refine Br.mk (fun h => ?_) (fun h => ?_) <;> cbv)
      | (refine Ob.mk ?_ ?_; rotate_left; cbv)
      | (refine Lex.mk (by decide +kernel) ?_; cbv)
    all_goals try (first | exact ⟨ha0, ha1⟩)
    all_goals (try simp only [Unit.unit, Int.ofNat_lt, Int.ofNat_le, BE.val, IE.val, NE.val, ltB_iff, ltB_no, leB_iff, leB_no, Int.toNat_natCast, Nat.zero_add, Nat.add_zero, Nat.mul_one, forced, beq_iff_eq, beq_eq_false_iff_ne, bne_iff_ne, bne_eq_false_iff_eq] at *)
    all_goals first | with_reducible rfl | omega | exact hx0 | rfl
  · cases hs
theorem fn111 : FnOk Tryz.prog 111 Tryz.f111 (bodyOf Tryz.f111) := ⟨Tryz.func111, rfl, by rfl⟩
def s111 : Spec := hspec fun args H => match args, H with
  | [.c (.p 0 (.l 0)), .c (.sl 1 (.x o') (.x m))], [some ⟨true, 0, .lit [.sl 2 (.x o) (.x n), .i .i64 (.x a), .i .u64 (.x s)]⟩, some ⟨true, 1, x⟩, some ⟨false, 0, .it .u8 L⟩] => match x.toIt .i64 with
    | some l => some (vI ((l ()).getD (pkV (L ()) (m () : Int) (a (), s ())).toNat 0), [some ⟨true, 0, .lit [.sl 2 (.x o) (.x n), .i .i64 (.x fun _ => (pkQ (L ()) (m () : Int) (a (), s ())).1), .i .u64 (.x fun _ => (pkQ (L ()) (m () : Int) (a (), s ())).2)]⟩, some ⟨true, 1, .it .i64 l⟩, some ⟨false, 0, .it .u8 L⟩], [fun _ => 0 ≤ a () ∧ a () ≤ 50000, fun _ => o () = 0 ∧ (L ()).length = n () ∧ n () ≤ 4096 ∧ bytesOk (L ()), fun _ => o' () = 0 ∧ (l ()).length = m () ∧ 1 ≤ m () ∧ m () ≤ 200])
    | none => none
  | [.c (.p 0 (.l 0)), .c (.sl 1 (.x o') (.x m))], [some ⟨true, 0, .lit [.sn, .i .i64 (.x a), .i .u64 (.x s)]⟩, some ⟨true, 1, x⟩] => match x.toIt .i64 with
    | some l => some (vI ((l ()).getD (pkV [] (m () : Int) (a (), s ())).toNat 0), [some ⟨true, 0, .lit [.sn, .i .i64 (.x fun _ => (pkQ [] (m () : Int) (a (), s ())).1), .i .u64 (.x fun _ => (pkQ [] (m () : Int) (a (), s ())).2)]⟩, some ⟨true, 1, .it .i64 l⟩], [fun _ => 0 ≤ a () ∧ a () ≤ 50000, fun _ => o' () = 0 ∧ (l ()).length = m () ∧ 1 ≤ m () ∧ m () ≤ 200])
    | none => none
  | _, _ => none
def E111 : Env := fun g => envGetL [(55, ⟨false, s55, none⟩)] g
theorem E111ok : EnvOk Tryz.prog E111 := envOk_cons ok55 (envOk_nil _)
set_option maxRecDepth 100000 in
set_option maxHeartbeats 1000000 in
theorem ok111 : Ok Tryz.prog 111 (s111) := ok_of_wpaH (E := E111) mixed tts E111ok fn111 fun args H v H' o hs ho => by
  split at hs
  · rename_i o' m o n a s x L
    split at hs
    · rename_i l hl
      cases hs
      obtain ⟨⟨ha0, ha1⟩, ⟨ho0, hlen, hbig, hby⟩, ⟨ho1, hlen1, hm1, hm2⟩⟩ := ho.three
      try simp only [Unit.unit] at *
      have hb := pkV_bd hby (k := (m ⟨⟩ : Int)) (by omega) (a ⟨⟩, s ⟨⟩)
      refine ⟨_, HLe.cons (BLe.refl _) (HLe.cons (BLe.it hl) (HLe.cons (BLe.refl _) HLe.nil)), ?_⟩
      cbv
      repeat' first
        | (refine Br.mk (fun h => ?_) (fun h => ?_) <;> cbv)
        | (refine Ob.mk ?_ ?_; rotate_left; cbv)
        | (refine Lex.mk (by decide +kernel) ?_; cbv)
      all_goals try (first | exact ⟨ha0, Int.le_trans ha1 (by decide)⟩ | exact ha1 | exact ⟨ho0, hlen, hbig, hby⟩ | exact ⟨by trivial, hlen, hbig, hby⟩ | exact hb | exact natlt hb.1 hb.2)
      all_goals (try simp only [Unit.unit, Int.ofNat_lt, Int.ofNat_le, BE.val, IE.val, NE.val, ltB_iff, ltB_no, leB_iff, leB_no, Int.toNat_natCast, Nat.zero_add, Nat.add_zero, Nat.mul_one, forced, beq_iff_eq, beq_eq_false_iff_ne, bne_iff_ne, bne_eq_false_iff_eq] at *)
      all_goals (try simp only [ho1, Nat.zero_add, Nat.mul_one] at *)
      all_goals first | with_reducible rfl | exact hb | exact natlt hb.1 hb.2 | (rw [hlen1]; exact natlt hb.1 hb.2) | rfl
    · cases hs
  · rename_i o' m a s x
    split at hs
    · rename_i l hl
      cases hs
      obtain ⟨⟨ha0, ha1⟩, ⟨ho1, hlen1, hm1, hm2⟩⟩ := ho.two
      have hby := bytes_nil
      try simp only [Unit.unit] at *
      have hb := pkV_bd hby (k := (m ⟨⟩ : Int)) (by omega) (a ⟨⟩, s ⟨⟩)
      refine ⟨_, HLe.cons (BLe.refl _) (HLe.cons (BLe.it hl) HLe.nil), ?_⟩
      cbv
      repeat' first
        | (refine Br.mk (fun h => ?_) (fun h => ?_) <;> cbv)
        | (refine Ob.mk ?_ ?_; rotate_left; cbv)
        | (refine Lex.mk (by decide +kernel) ?_; cbv)
      all_goals try (first | exact ⟨ha0, Int.le_trans ha1 (by decide)⟩ | exact ha1 | exact hb | exact natlt hb.1 hb.2)
      all_goals (try simp only [Unit.unit, Int.ofNat_lt, Int.ofNat_le, BE.val, IE.val, NE.val, ltB_iff, ltB_no, leB_iff, leB_no, Int.toNat_natCast, Nat.zero_add, Nat.add_zero, Nat.mul_one, forced, beq_iff_eq, beq_eq_false_iff_ne, bne_iff_ne, bne_eq_false_iff_eq] at *)
      all_goals (try simp only [ho1, Nat.zero_add, Nat.mul_one] at *)
      all_goals first | with_reducible rfl | exact hb | exact natlt hb.1 hb.2 | (rw [hlen1]; exact natlt hb.1 hb.2) | rfl
    · cases hs
  · cases hs
end Go.Proofs.YteifneielgnniaaGreatDoor.Sh
end
section
namespace Go.Proofs.YteifneielgnniaaGreatDoor.Sh
open Go Go.Proofs
theorem fn54 : FnOk Tryz.prog 54 Tryz.f54 (bodyOf Tryz.f54) := ⟨Tryz.func54, rfl, by rfl⟩
def s54 : Spec := hspec fun args H => match args, H with
  | [.c (.sl 0 (.x o) (.x n))], [some ⟨false, 0, .it .u8 L⟩] => some (.c (.p 1 (.l 0)), [some ⟨false, 0, .it .u8 L⟩, some ⟨true, 0, .lit [.sl 0 (.x o) (.x n), .i .i64 (.l 0), .i .u64 (.l 0)]⟩], [])
  | [.c .sn], [] => some (.c (.p 0 (.l 0)), [some ⟨true, 0, .lit [.sn, .i .i64 (.l 0), .i .u64 (.l 0)]⟩], [])
  | _, _ => none
theorem ok54 : Ok Tryz.prog 54 (s54) := ok_of_wpaH (E := envGetL []) mixed tts (envOk_nil _) fn54 fun args H v H' o hs ho => by
  split at hs
  · rename_i o n L
    cases hs
    refine ⟨_, HLe.refl _, ?_⟩
    cbv
    repeat' first
      | (refine alt_t (by assumption) ?_; cbv)
      | (refine alt_f (by assumption) ?_; cbv)
      | (refine alt_b (fun h => ?_) (fun h => ?_) <;> cbv)
      | (refine Br.mk (fun h => ?_) (fun h => ?_) <;> cbv)
      | (refine Ob.mk ?_ ?_; rotate_left; cbv)
      | (refine Lex.mk (by decide +kernel) ?_; cbv)
    all_goals (try simp only [Unit.unit, Int.ofNat_lt, Int.ofNat_le, BE.val, IE.val, NE.val, ltB_iff, ltB_no, leB_iff, leB_no, Int.toNat_natCast, Nat.zero_add, Nat.add_zero, Nat.mul_one, forced, beq_iff_eq, beq_eq_false_iff_ne, bne_iff_ne, bne_eq_false_iff_eq] at *)
    all_goals first | with_reducible rfl | grind | rfl
  · cases hs
    refine ⟨_, HLe.refl _, ?_⟩
    cbv
    repeat' first
      | (refine alt_t (by assumption) ?_; cbv)
      | (refine alt_f (by assumption) ?_; cbv)
      | (refine alt_b (fun h => ?_) (fun h => ?_) <;> cbv)
      | (refine Br.mk (fun h => ?_) (fun h => ?_) <;> cbv)
      | (refine Ob.mk ?_ ?_; rotate_left; cbv)
      | (refine Lex.mk (by decide +kernel) ?_; cbv)
    all_goals (try simp only [Unit.unit, Int.ofNat_lt, Int.ofNat_le, BE.val, IE.val, NE.val, ltB_iff, ltB_no, leB_iff, leB_no, Int.toNat_natCast, Nat.zero_add, Nat.add_zero, Nat.mul_one, forced, beq_iff_eq, beq_eq_false_iff_ne, bne_iff_ne, bne_eq_false_iff_eq] at *)
    all_goals first | with_reducible rfl | grind | rfl
  · cases hs
theorem fn5 : FnOk Tryz.prog 5 Tryz.f5 (bodyOf Tryz.f5) := ⟨Tryz.func5, rfl, by rfl⟩
def s5 : Spec := hspec fun args H => match args, H with
  | [.c (.sl 0 (.x _) (.x n))], [some ⟨false, 0, .it .u8 _⟩] => some (vB (ltB 4096 (n () : Int)), [none], [])
  | [.c .sn], [] => some (.c (.b (.l false)), [], [])
  | _, _ => none
theorem ok5 : Ok Tryz.prog 5 (s5) := ok_of_wpaH (E := envGetL []) mixed tts (envOk_nil _) fn5 fun args H v H' o hs ho => by
  split at hs
  · rename_i o n L
    cases hs
    refine ⟨_, HLe.refl _, ?_⟩
    cbv
    repeat' first
      | (refine alt_t (by assumption) ?_; cbv)
      | (refine alt_f (by assumption) ?_; cbv)
      | (refine alt_b (fun h => ?_) (fun h => ?_) <;> cbv)
      | (refine Br.mk (fun h => ?_) (fun h => ?_) <;> cbv)
      | (refine Ob.mk ?_ ?_; rotate_left; cbv)
      | (refine Lex.mk (by decide +kernel) ?_; cbv)
    all_goals (try simp only [Unit.unit, Int.ofNat_lt, Int.ofNat_le, BE.val, IE.val, NE.val, ltB_iff, ltB_no, leB_iff, leB_no, Int.toNat_natCast, Nat.zero_add, Nat.add_zero, Nat.mul_one, forced, beq_iff_eq, beq_eq_false_iff_ne, bne_iff_ne, bne_eq_false_iff_eq] at *)
    all_goals first | with_reducible rfl | grind | rfl
  · cases hs
    refine ⟨_, HLe.refl _, ?_⟩
    cbv
    repeat' first
      | (refine alt_t (by assumption) ?_; cbv)
      | (refine alt_f (by assumption) ?_; cbv)
      | (refine alt_b (fun h => ?_) (fun h => ?_) <;> cbv)
      | (refine Br.mk (fun h => ?_) (fun h => ?_) <;> cbv)
      | (refine Ob.mk ?_ ?_; rotate_left; cbv)
      | (refine Lex.mk (by decide +kernel) ?_; cbv)
    all_goals (try simp only [Unit.unit, Int.ofNat_lt, Int.ofNat_le, BE.val, IE.val, NE.val, ltB_iff, ltB_no, leB_iff, leB_no, Int.toNat_natCast, Nat.zero_add, Nat.add_zero, Nat.mul_one, forced, beq_iff_eq, beq_eq_false_iff_ne, bne_iff_ne, bne_eq_false_iff_eq] at *)
    all_goals first | with_reducible rfl | grind | rfl
  · cases hs
theorem fn7 : FnOk Tryz.prog 7 Tryz.f7 (bodyOf Tryz.f7) := ⟨Tryz.func7, rfl, by rfl⟩
def s7 : Spec := hspec fun args H => match args, H with
  | [.c (.sl 0 (.x o) (.x n)), .c (.i .i64 (.x k))], [some ⟨false, 0, .it .u8 L⟩] => some (vI (pkV (L ()) (k ()) (0, 0)), [none], [fun _ => o () = 0 ∧ (L ()).length = n () ∧ n () ≤ 4096 ∧ bytesOk (L ())])
  | [.c .sn, .c (.i .i64 (.x k))], [] => some (vI (pkV [] (k ()) (0, 0)), [], [])
  | _, _ => none
def E7 : Env := fun g => envGetL [(54, ⟨false, s54, none⟩), (55, ⟨false, s55, none⟩)] g
theorem E7ok : EnvOk Tryz.prog E7 := envOk_cons ok54 (envOk_cons ok55 (envOk_nil _))
theorem ok7 : Ok Tryz.prog 7 (s7) := ok_of_wpaH (E := E7) mixed tts E7ok fn7 fun args H v H' o hs ho => by
  split at hs
  · rename_i o n k L
    cases hs
    have hcb := ho.one
    refine ⟨_, HLe.refl _, ?_⟩
    cbv
    repeat' first
      | (refine alt_t (by assumption) ?_; cbv)
      | (refine alt_f (by assumption) ?_; cbv)
      | (refine alt_b (fun h => ?_) (fun h => ?_) <;> cbv)
      | (refine Br.mk (fun h => ?_) (fun h => ?_) <;> cbv)
      | (refine Ob.mk ?_ ?_; rotate_left; cbv)
      | (refine Lex.mk (by decide +kernel) ?_; cbv)
    all_goals (try simp only [Unit.unit, Int.ofNat_lt, Int.ofNat_le, BE.val, IE.val, NE.val, ltB_iff, ltB_no, leB_iff, leB_no, Int.toNat_natCast, Nat.zero_add, Nat.add_zero, Nat.mul_one, forced, beq_iff_eq, beq_eq_false_iff_ne, bne_iff_ne, bne_eq_false_iff_eq] at *)
    all_goals first | with_reducible rfl | exact hcb | exact ⟨by decide, by decide⟩ | decide | rfl
  · rename_i k
    cases hs
    refine ⟨_, HLe.refl _, ?_⟩
    cbv
    repeat' first
      | (refine alt_t (by assumption) ?_; cbv)
      | (refine alt_f (by assumption) ?_; cbv)
      | (refine alt_b (fun h => ?_) (fun h => ?_) <;> cbv)
      | (refine Br.mk (fun h => ?_) (fun h => ?_) <;> cbv)
      | (refine Ob.mk ?_ ?_; rotate_left; cbv)
      | (refine Lex.mk (by decide +kernel) ?_; cbv)
    all_goals (try simp only [Unit.unit, Int.ofNat_lt, Int.ofNat_le, BE.val, IE.val, NE.val, ltB_iff, ltB_no, leB_iff, leB_no, Int.toNat_natCast, Nat.zero_add, Nat.add_zero, Nat.mul_one, forced, beq_iff_eq, beq_eq_false_iff_ne, bne_iff_ne, bne_eq_false_iff_eq] at *)
    all_goals first | with_reducible rfl | exact hcb | exact ⟨by decide, by decide⟩ | decide | rfl
  · cases hs
end Go.Proofs.YteifneielgnniaaGreatDoor.Sh
end
section
namespace Go.Proofs.YteifneielgnniaaGreatDoor.Sh
open Go Go.Proofs
/-! a web that is drawn -/
def drSt (L : List Int) (q : Int × Int) : Nat := floatOfInt .f32 ([64, 256, 1000, 4096].getD (pkV L 4 q).toNat 0)
def drQ1 (L : List Int) (q : Int × Int) : Int × Int := pkQ L 4 q
def drSp (L : List Int) (q : Int × Int) : Nat := fop .quo .f32 (floatOfInt .f32 (IntKind.wrap .i64 (4 + pkV L 20 (drQ1 L q)))) 1082130432
def drQ2 (L : List Int) (q : Int × Int) : Int × Int := pkQ L 20 (drQ1 L q)
def drFd (L : List Int) (q : Int × Int) : Nat := fop .quo .f32 (floatOfInt .f32 (pkV L 40 (drQ2 L q))) 1082130432
def drQ3 (L : List Int) (q : Int × Int) : Int × Int := pkQ L 40 (drQ2 L q)
def drK (L : List Int) (q : Int × Int) : Int := 1 + pkV L 4 (drQ3 L q)
def drN (L : List Int) (q : Int × Int) : Nat := (drK L q).toNat
def drQ4 (L : List Int) (q : Int × Int) : Int × Int := pkQ L 4 (drQ3 L q)
/-- a span -/
def spQa (L : List Int) (q : Int × Int) : Int × Int := pkQ L 2 q
def spY (L : List Int) (q : Int × Int) : Bool := pkV L 2 q == 0
def spV (L : List Int) (q : Int × Int) (sp : Nat) : Nat := if spY L q then fop .add .f32 sp (fop .quo .f32 (floatOfInt .f32 (IntKind.wrap .i64 (pkV L 9 (spQa L q) - 3))) 1115684864) else sp
def spQb (L : List Int) (q : Int × Int) : Int × Int := if spY L q then pkQ L 9 (spQa L q) else spQa L q
def spLen (L : List Int) (q : Int × Int) : Nat := fop .quo .f32 (floatOfInt .f32 (IntKind.wrap .i64 (2 + pkV L 30 (spQb L q)))) 1073741824
def spQc (L : List Int) (q : Int × Int) : Int × Int := pkQ L 30 (spQb L q)
def spTen (L : List Int) (q : Int × Int) : Nat := fop .quo .f32 (floatOfInt .f32 (IntKind.wrap .i64 (pkV L 80 (spQc L q) - 8))) 1082130432
def spQ (L : List Int) (q : Int × Int) : Int × Int := pkQ L 80 (spQc L q)
def drI (L : List Int) (q : Int × Int) : Nat → (Int × Int) × Nat
  | 0 => (drQ4 L q, drSp L q)
  | i + 1 => (spQ L (drI L q i).1, spV L (drI L q i).1 (drI L q i).2)
def drL (L : List Int) (q : Int × Int) : Nat → List Nat
  | 0 => []
  | i + 1 => drL L q i ++ [spLen L (drI L q i).1, (drI L q (i + 1)).2, spTen L (drI L q i).1]
def drW (L : List Int) (q : Int × Int) : List Nat := drL L q (drN L q)
def drQ (L : List Int) (q : Int × Int) : Int × Int := (drI L q (drN L q)).1
theorem drL_len (L : List Int) (q : Int × Int) : ∀ i, (drL L q i).length = i * 3
  | 0 => rfl
  | i + 1 => by simp only [drL, List.length_append, drL_len L q i, List.length_cons, List.length_nil]; omega
def qIn (N : Int) (q : Int × Int) : Prop := 0 ≤ q.1 ∧ q.1 ≤ N
theorem qIn_pk {N : Int} {L : List Int} {k : Int} {q : Int × Int} (h : qIn N q) : qIn (N + 2) (pkQ L k q) := by
  have := pkQ_bd (L := L) (k := k) (q := q)
  unfold qIn at *
  omega
theorem qIn_le {N M : Int} {q : Int × Int} (h : qIn N q) (hM : N ≤ M) : qIn M q := ⟨h.1, Int.le_trans h.2 hM⟩
theorem drQ4_in {N : Int} {L : List Int} {q : Int × Int} (h : qIn N q) : qIn (N + 8) (drQ4 L q) := by
  have h4 := qIn_pk (L := L) (k := 4) (qIn_pk (L := L) (k := 40) (qIn_pk (L := L) (k := 20) (qIn_pk (L := L) (k := 4) h)))
  exact qIn_le h4 (by omega)
theorem spQb_in {N : Int} {L : List Int} {q : Int × Int} (h : qIn N q) : qIn (N + 4) (spQb L q) := by
  unfold spQb spQa
  split
  · exact qIn_le (qIn_pk (qIn_pk h)) (by omega)
  · exact qIn_le (qIn_pk h) (by omega)
theorem spQ_in {N : Int} {L : List Int} {q : Int × Int} (h : qIn N q) : qIn (N + 8) (spQ L q) := qIn_le (qIn_pk (qIn_pk (spQb_in h))) (by omega)
theorem drI_in {N : Int} {L : List Int} {q : Int × Int} (h : qIn N q) : ∀ i : Nat, qIn (N + 8 + 8 * (i : Int)) (drI L q i).1
  | 0 => qIn_le (drQ4_in h) (by omega)
  | i + 1 => qIn_le (spQ_in (drI_in h i)) (by omega)
theorem drK_bd {L : List Int} (h : bytesOk L) (q : Int × Int) : 1 ≤ drK L q ∧ drK L q ≤ 4 := by
  have := pkV_bd h (k := 4) (by decide) (drQ3 L q)
  unfold drK
  omega
theorem in_lt {i N : Nat} {K : Int} (h : (N : Int) = K) (h2 : 0 < K - (i : Int)) : i < N := by omega
theorem in_eq {i N : Nat} {K : Int} (h : (N : Int) = K) (h2 : ¬ 0 < K - (i : Int)) (h3 : i ≤ N) : i = N := by omega
theorem drN_bd {L : List Int} (h : bytesOk L) (q : Int × Int) : 1 ≤ drN L q ∧ drN L q ≤ 4 ∧ (drN L q : Int) = drK L q := by
  have := drK_bd h q
  unfold drN
  omega
end Go.Proofs.YteifneielgnniaaGreatDoor.Sh
end
section
namespace Go.Proofs.YteifneielgnniaaGreatDoor.Sh
open Go Go.Proofs
theorem fn53 : FnOk Tryz.prog 53 Tryz.f53 (bodyOf Tryz.f53) := ⟨Tryz.func53, rfl, by rfl⟩
def s53 : Spec := hspec fun args H => match args, H with
  | [.c (.p 0 (.l 0))], [some ⟨true, 0, .lit [.sl 1 (.x o) (.x n), .i .i64 (.x a), .i .u64 (.x s)]⟩, some ⟨false, 0, .it .u8 L⟩] => some (.a [.f .f32 fun _ => drSt (L ()) (a (), s ()), .f .f32 fun _ => drSp (L ()) (a (), s ()), .f .f32 fun _ => drFd (L ()) (a (), s ()), .sl 2 (.l 0) (.x fun _ => drN (L ()) (a (), s ()))], [some ⟨true, 0, .lit [.sl 1 (.x o) (.x n), .i .i64 (.x fun _ => (drQ (L ()) (a (), s ())).1), .i .u64 (.x fun _ => (drQ (L ()) (a (), s ())).2)]⟩, some ⟨false, 0, .it .u8 L⟩, some ⟨true, 3, .fl fun _ => drW (L ()) (a (), s ())⟩], [fun _ => 0 ≤ a () ∧ a () ≤ 100000, fun _ => o () = 0 ∧ (L ()).length = n () ∧ n () ≤ 4096 ∧ bytesOk (L ()), fun _ => a () ≤ 1000])
  | [.c (.p 0 (.l 0))], [some ⟨true, 0, .lit [.sn, .i .i64 (.x a), .i .u64 (.x s)]⟩] => some (.a [.f .f32 fun _ => drSt [] (a (), s ()), .f .f32 fun _ => drSp [] (a (), s ()), .f .f32 fun _ => drFd [] (a (), s ()), .sl 1 (.l 0) (.x fun _ => drN [] (a (), s ()))], [some ⟨true, 0, .lit [.sn, .i .i64 (.x fun _ => (drQ [] (a (), s ())).1), .i .u64 (.x fun _ => (drQ [] (a (), s ())).2)]⟩, some ⟨true, 3, .fl fun _ => drW [] (a (), s ())⟩], [fun _ => 0 ≤ a () ∧ a () ≤ 100000, fun _ => a () ≤ 1000])
  | _, _ => none
def E53 : Env := fun g => envGetL [(111, ⟨false, s111, none⟩), (55, ⟨false, s55, none⟩), (112, ⟨false, s112, none⟩)] g
theorem E53ok : EnvOk Tryz.prog E53 := envOk_cons ok111 (envOk_cons ok55 (envOk_cons ok112 (envOk_nil _)))
set_option maxRecDepth 100000 in
set_option maxHeartbeats 2000000 in
theorem ok53 : Ok Tryz.prog 53 (s53) := ok_of_wpaH (E := E53) mixed tts E53ok fn53 fun args H v H' o hs ho => by
  split at hs
  · rename_i o n a s L
    cases hs
    obtain ⟨⟨ha0, ha1⟩, ⟨ho0, hlen, hbig, hby⟩, hx0⟩ := ho.three
    try simp only [Unit.unit] at ha0 ha1 ho0 hlen hbig hx0
    refine ⟨_, HLe.refl _, ?_⟩
    cbv
    have hq0 : qIn 1000 (a ⟨⟩, s ⟨⟩) := ⟨ha0, hx0⟩
    have hq1 : qIn 1002 (drQ1 (L ⟨⟩) (a ⟨⟩, s ⟨⟩)) := qIn_pk hq0
    have hq2 : qIn 1004 (drQ2 (L ⟨⟩) (a ⟨⟩, s ⟨⟩)) := qIn_pk hq1
    have hq3 : qIn 1006 (drQ3 (L ⟨⟩) (a ⟨⟩, s ⟨⟩)) := qIn_pk hq2
    have hK := drK_bd hby (a ⟨⟩, s ⟨⟩)
    have hN := drN_bd hby (a ⟨⟩, s ⟨⟩)
    have hwK : IntKind.wrap .i64 (1 + pkV (L ⟨⟩) 4 (drQ3 (L ⟨⟩) (a ⟨⟩, s ⟨⟩))) = drK (L ⟨⟩) (a ⟨⟩, s ⟨⟩) := wrap64 (Int.le_trans (by decide) hK.1) (Int.le_trans hK.2 (by decide))
    repeat' first
      | (refine Ob.mk ?_ ?_; rotate_left; cbv)
      | (refine Lex.mk (by decide +kernel) ?_; cbv)
    rotate_left
    all_goals try (first | exact ⟨hq0.1, Int.le_trans hq0.2 (by decide)⟩ | exact Int.le_trans hq0.2 (by decide) | exact ⟨hq1.1, Int.le_trans hq1.2 (by decide)⟩ | exact Int.le_trans hq1.2 (by decide) | exact ⟨hq2.1, Int.le_trans hq2.2 (by decide)⟩ | exact Int.le_trans hq2.2 (by decide) | exact ⟨hq3.1, Int.le_trans hq3.2 (by decide)⟩ | exact Int.le_trans hq3.2 (by decide) | exact ⟨ho0, hlen, hbig, hby⟩ | exact ⟨by trivial, hlen, hbig, hby⟩ | exact ⟨rfl, rfl, by decide, by decide⟩)
    refine loop_rule (α := (Unit → Nat) ⊕ (Unit → Nat)) (c := ⟨tt, E53, 2⟩)
        (fun a' => match a' with | .inl _ => fr 60 [(0, .c (.p 0 (.l 0))), (2, .c (.p 2 (.l 0))), (3, .c (.p 4 (.l 0))), (4, .c (.f .f32 fun _ => drSp (L ()) (a (), s ()))), (5, .c (.i .i64 (.x fun _ => drK (L ()) (a (), s ()))))] | .inr i => fr 60 [(0, .c (.p 0 (.l 0))), (2, .c (.p 2 (.l 0))), (3, .c (.p 4 (.l 0))), (4, .c (.f .f32 fun _ => (drI (L ()) (a (), s ()) (i ())).2)), (5, .c (.i .i64 (.x fun _ => drK (L ()) (a (), s ()) - (i () : Int))))]) (fun a' => match a' with | .inl _ => [some ⟨true, 0, .lit [.sl 1 (.x o) (.x n), .i .i64 (.x fun _ => (drQ4 (L ()) (a (), s ())).1), .i .u64 (.x fun _ => (drQ4 (L ()) (a (), s ())).2)]⟩, some ⟨false, 0, .it .u8 L⟩, some ⟨true, 0, .lit [.f .f32 fun _ => 0, .f .f32 fun _ => 0, .f .f32 fun _ => 0, .sn]⟩, none, some ⟨true, 0, .lit [.f .f32 fun _ => drSt (L ()) (a (), s ()), .f .f32 fun _ => drSp (L ()) (a (), s ()), .f .f32 fun _ => drFd (L ()) (a (), s ()), .sn]⟩] | .inr i => [some ⟨true, 0, .lit [.sl 1 (.x o) (.x n), .i .i64 (.x fun _ => ((drI (L ()) (a (), s ()) (i ())).1).1), .i .u64 (.x fun _ => ((drI (L ()) (a (), s ()) (i ())).1).2)]⟩, some ⟨false, 0, .it .u8 L⟩, some ⟨true, 0, .lit [.f .f32 fun _ => 0, .f .f32 fun _ => 0, .f .f32 fun _ => 0, .sn]⟩, none, some ⟨true, 0, .lit [.f .f32 fun _ => drSt (L ()) (a (), s ()), .f .f32 fun _ => drSp (L ()) (a (), s ()), .f .f32 fun _ => drFd (L ()) (a (), s ()), .sl 5 (.l 0) (.x fun _ => i ())]⟩, some ⟨true, 3, .fl fun _ => drL (L ()) (a (), s ()) (i ())⟩])
        (fun a' => match a' with | .inl _ => True | .inr i => 1 ≤ i () ∧ i () ≤ drN (L ()) (a (), s ())) (fun a' => match a' with | .inl _ => drN (L ()) (a (), s ()) + 1 | .inr i => drN (L ()) (a (), s ()) - i ()) (fun _ => drN (L ()) (a (), s ()) + 2) ?_ ?_
    · refine .mk (.inl fun _ => 0) trivial (by dsimp only; omega) ?_
      cbv
      repeat' (refine Ob.mk ?_ ?_; rotate_left)
      all_goals (try simp only [Unit.unit, Int.ofNat_lt, Int.ofNat_le, BE.val, IE.val, NE.val, ltB_iff, ltB_no, leB_iff, leB_no, Int.toNat_natCast, Nat.zero_add, Nat.add_zero, Nat.mul_one, forced, beq_iff_eq, beq_eq_false_iff_ne, bne_iff_ne, bne_eq_false_iff_eq] at *)
      all_goals first | with_reducible rfl | trivial | exact hwK | rfl
    · rintro (i | i) hi
      · cbv
        refine Br.mk (fun hk => ?_) (fun hk => ?_)
        · clear hk
          have f1 : qIn 2000 ((drI (L ⟨⟩) (a ⟨⟩, s ⟨⟩) (0)).1) := qIn_le (drI_in hq0 (0)) (by omega)
          have hkn : IntKind.wrap .i64 (drK (L ⟨⟩) (a ⟨⟩, s ⟨⟩) - 0 - 1) = drK (L ⟨⟩) (a ⟨⟩, s ⟨⟩) - ((0 + 1 : Nat) : Int) := by rw [wrap64 (by omega) (by omega)]; omega
          have hkn : IntKind.wrap .i64 (drK (L ⟨⟩) (a ⟨⟩, s ⟨⟩) - 1) = drK (L ⟨⟩) (a ⟨⟩, s ⟨⟩) - ((1 : Nat) : Int) := by rw [wrap64 (by omega) (by omega)]; omega
          have hln := drL_len (L ⟨⟩) (a ⟨⟩, s ⟨⟩) (0)
          cbv
          repeat' (refine Ob.mk ?_ ?_; rotate_left; cbv)
          rotate_left
          all_goals try (first | exact ⟨f1.1, Int.le_trans f1.2 (by decide)⟩ | exact Int.le_trans f1.2 (by decide) | exact ⟨ho0, hlen, hbig, hby⟩ | exact ⟨by trivial, hlen, hbig, hby⟩)
          refine Br.mk (fun hy => ?_) (fun hy => ?_)
          · have hy : spY (L ⟨⟩) ((drI (L ⟨⟩) (a ⟨⟩, s ⟨⟩) (0)).1) = true := hy
            have e1 : spV (L ⟨⟩) ((drI (L ⟨⟩) (a ⟨⟩, s ⟨⟩) (0)).1) ((drI (L ⟨⟩) (a ⟨⟩, s ⟨⟩) (0)).2) = fop .add .f32 ((drI (L ⟨⟩) (a ⟨⟩, s ⟨⟩) (0)).2) (fop .quo .f32 (floatOfInt .f32 (IntKind.wrap .i64 (pkV (L ⟨⟩) 9 (pkQ (L ⟨⟩) 2 (drI (L ⟨⟩) (a ⟨⟩, s ⟨⟩) (0)).1) - 3))) 1115684864) := if_pos hy
            have e2 : spQb (L ⟨⟩) ((drI (L ⟨⟩) (a ⟨⟩, s ⟨⟩) (0)).1) = pkQ (L ⟨⟩) 9 (pkQ (L ⟨⟩) 2 (drI (L ⟨⟩) (a ⟨⟩, s ⟨⟩) (0)).1) := if_pos hy
            have e3 : spQ (L ⟨⟩) ((drI (L ⟨⟩) (a ⟨⟩, s ⟨⟩) (0)).1) = pkQ (L ⟨⟩) 80 (pkQ (L ⟨⟩) 30 (pkQ (L ⟨⟩) 9 (pkQ (L ⟨⟩) 2 (drI (L ⟨⟩) (a ⟨⟩, s ⟨⟩) (0)).1))) := by unfold spQ spQc; rw [e2]
            have e4 : spLen (L ⟨⟩) ((drI (L ⟨⟩) (a ⟨⟩, s ⟨⟩) (0)).1) = fop .quo .f32 (floatOfInt .f32 (IntKind.wrap .i64 (2 + pkV (L ⟨⟩) 30 (pkQ (L ⟨⟩) 9 (pkQ (L ⟨⟩) 2 (drI (L ⟨⟩) (a ⟨⟩, s ⟨⟩) (0)).1))))) 1073741824 := by unfold spLen; rw [e2]
            have e5 : spTen (L ⟨⟩) ((drI (L ⟨⟩) (a ⟨⟩, s ⟨⟩) (0)).1) = fop .quo .f32 (floatOfInt .f32 (IntKind.wrap .i64 (pkV (L ⟨⟩) 80 (pkQ (L ⟨⟩) 30 (pkQ (L ⟨⟩) 9 (pkQ (L ⟨⟩) 2 (drI (L ⟨⟩) (a ⟨⟩, s ⟨⟩) (0)).1))) - 8))) 1082130432 := by unfold spTen spQc; rw [e2]
            have e6 : drL (L ⟨⟩) (a ⟨⟩, s ⟨⟩) (0 + 1) = drL (L ⟨⟩) (a ⟨⟩, s ⟨⟩) (0) ++ [fop .quo .f32 (floatOfInt .f32 (IntKind.wrap .i64 (2 + pkV (L ⟨⟩) 30 (pkQ (L ⟨⟩) 9 (pkQ (L ⟨⟩) 2 (drI (L ⟨⟩) (a ⟨⟩, s ⟨⟩) (0)).1))))) 1073741824, fop .add .f32 ((drI (L ⟨⟩) (a ⟨⟩, s ⟨⟩) (0)).2) (fop .quo .f32 (floatOfInt .f32 (IntKind.wrap .i64 (pkV (L ⟨⟩) 9 (pkQ (L ⟨⟩) 2 (drI (L ⟨⟩) (a ⟨⟩, s ⟨⟩) (0)).1) - 3))) 1115684864), fop .quo .f32 (floatOfInt .f32 (IntKind.wrap .i64 (pkV (L ⟨⟩) 80 (pkQ (L ⟨⟩) 30 (pkQ (L ⟨⟩) 9 (pkQ (L ⟨⟩) 2 (drI (L ⟨⟩) (a ⟨⟩, s ⟨⟩) (0)).1))) - 8))) 1082130432] := by
              show drL (L ⟨⟩) (a ⟨⟩, s ⟨⟩) (0) ++ [spLen (L ⟨⟩) ((drI (L ⟨⟩) (a ⟨⟩, s ⟨⟩) (0)).1), spV (L ⟨⟩) ((drI (L ⟨⟩) (a ⟨⟩, s ⟨⟩) (0)).1) ((drI (L ⟨⟩) (a ⟨⟩, s ⟨⟩) (0)).2), spTen (L ⟨⟩) ((drI (L ⟨⟩) (a ⟨⟩, s ⟨⟩) (0)).1)] = _
              rw [e1, e4, e5]
            have f2 : qIn 2002 (pkQ (L ⟨⟩) 2 ((drI (L ⟨⟩) (a ⟨⟩, s ⟨⟩) (0)).1)) := qIn_pk f1
            have f3 : qIn 2004 (pkQ (L ⟨⟩) 9 (pkQ (L ⟨⟩) 2 (drI (L ⟨⟩) (a ⟨⟩, s ⟨⟩) (0)).1)) := qIn_pk f2
            have f4 : qIn 2006 (pkQ (L ⟨⟩) 30 (pkQ (L ⟨⟩) 9 (pkQ (L ⟨⟩) 2 (drI (L ⟨⟩) (a ⟨⟩, s ⟨⟩) (0)).1))) := qIn_le (qIn_pk f3) (by decide)
            have f5 : qIn 2008 (pkQ (L ⟨⟩) 80 (pkQ (L ⟨⟩) 30 (pkQ (L ⟨⟩) 9 (pkQ (L ⟨⟩) 2 (drI (L ⟨⟩) (a ⟨⟩, s ⟨⟩) (0)).1)))) := qIn_le (qIn_pk f4) (by decide)
            cbv
            repeat' first
              | (refine Ob.mk ?_ ?_; rotate_left; cbv)
              | (refine Lex.mk (by decide +kernel) ?_; cbv)
              | (refine Next.ren [2, 3, 4, 7] (.inr fun _ => 1) ?_ ?_ ?_)
            all_goals try (first | exact ⟨f1.1, Int.le_trans f1.2 (by decide)⟩ | exact Int.le_trans f1.2 (by decide) | exact ⟨f2.1, Int.le_trans f2.2 (by decide)⟩ | exact Int.le_trans f2.2 (by decide) | exact ⟨f3.1, Int.le_trans f3.2 (by decide)⟩ | exact Int.le_trans f3.2 (by decide) | exact ⟨f4.1, Int.le_trans f4.2 (by decide)⟩ | exact Int.le_trans f4.2 (by decide) | exact ⟨f5.1, Int.le_trans f5.2 (by decide)⟩ | exact Int.le_trans f5.2 (by decide) | exact ⟨ho0, hlen, hbig, hby⟩ | exact ⟨by trivial, hlen, hbig, hby⟩ | exact (congrArg Prod.fst e3).symm | exact (congrArg Prod.snd e3).symm | exact e1.symm | exact e6.symm | exact hkn | exact hln)
            all_goals (try simp only [Unit.unit, Int.ofNat_lt, Int.ofNat_le, BE.val, IE.val, NE.val, ltB_iff, ltB_no, leB_iff, leB_no, Int.toNat_natCast, Nat.zero_add, Nat.add_zero, Nat.mul_one, forced, beq_iff_eq, beq_eq_false_iff_ne, bne_iff_ne, bne_eq_false_iff_eq] at *)
            all_goals first | with_reducible rfl | trivial | omega | exact ⟨by omega, by omega⟩ | exact hkn | exact hln | exact (congrArg Prod.fst e3).symm | exact (congrArg Prod.snd e3).symm | exact e1.symm | exact e6.symm | rfl
          · have hy : spY (L ⟨⟩) ((drI (L ⟨⟩) (a ⟨⟩, s ⟨⟩) (0)).1) = false := hy
            have e1 : spV (L ⟨⟩) ((drI (L ⟨⟩) (a ⟨⟩, s ⟨⟩) (0)).1) ((drI (L ⟨⟩) (a ⟨⟩, s ⟨⟩) (0)).2) = (drI (L ⟨⟩) (a ⟨⟩, s ⟨⟩) (0)).2 := if_neg (by rw [hy]; decide)
            have e2 : spQb (L ⟨⟩) ((drI (L ⟨⟩) (a ⟨⟩, s ⟨⟩) (0)).1) = pkQ (L ⟨⟩) 2 (drI (L ⟨⟩) (a ⟨⟩, s ⟨⟩) (0)).1 := if_neg (by rw [hy]; decide)
            have e3 : spQ (L ⟨⟩) ((drI (L ⟨⟩) (a ⟨⟩, s ⟨⟩) (0)).1) = pkQ (L ⟨⟩) 80 (pkQ (L ⟨⟩) 30 (pkQ (L ⟨⟩) 2 (drI (L ⟨⟩) (a ⟨⟩, s ⟨⟩) (0)).1)) := by unfold spQ spQc; rw [e2]
            have e4 : spLen (L ⟨⟩) ((drI (L ⟨⟩) (a ⟨⟩, s ⟨⟩) (0)).1) = fop .quo .f32 (floatOfInt .f32 (IntKind.wrap .i64 (2 + pkV (L ⟨⟩) 30 (pkQ (L ⟨⟩) 2 (drI (L ⟨⟩) (a ⟨⟩, s ⟨⟩) (0)).1)))) 1073741824 := by unfold spLen; rw [e2]
            have e5 : spTen (L ⟨⟩) ((drI (L ⟨⟩) (a ⟨⟩, s ⟨⟩) (0)).1) = fop .quo .f32 (floatOfInt .f32 (IntKind.wrap .i64 (pkV (L ⟨⟩) 80 (pkQ (L ⟨⟩) 30 (pkQ (L ⟨⟩) 2 (drI (L ⟨⟩) (a ⟨⟩, s ⟨⟩) (0)).1)) - 8))) 1082130432 := by unfold spTen spQc; rw [e2]
            have e6 : drL (L ⟨⟩) (a ⟨⟩, s ⟨⟩) (0 + 1) = drL (L ⟨⟩) (a ⟨⟩, s ⟨⟩) (0) ++ [fop .quo .f32 (floatOfInt .f32 (IntKind.wrap .i64 (2 + pkV (L ⟨⟩) 30 (pkQ (L ⟨⟩) 2 (drI (L ⟨⟩) (a ⟨⟩, s ⟨⟩) (0)).1)))) 1073741824, (drI (L ⟨⟩) (a ⟨⟩, s ⟨⟩) (0)).2, fop .quo .f32 (floatOfInt .f32 (IntKind.wrap .i64 (pkV (L ⟨⟩) 80 (pkQ (L ⟨⟩) 30 (pkQ (L ⟨⟩) 2 (drI (L ⟨⟩) (a ⟨⟩, s ⟨⟩) (0)).1)) - 8))) 1082130432] := by
              show drL (L ⟨⟩) (a ⟨⟩, s ⟨⟩) (0) ++ [spLen (L ⟨⟩) ((drI (L ⟨⟩) (a ⟨⟩, s ⟨⟩) (0)).1), spV (L ⟨⟩) ((drI (L ⟨⟩) (a ⟨⟩, s ⟨⟩) (0)).1) ((drI (L ⟨⟩) (a ⟨⟩, s ⟨⟩) (0)).2), spTen (L ⟨⟩) ((drI (L ⟨⟩) (a ⟨⟩, s ⟨⟩) (0)).1)] = _
              rw [e1, e4, e5]
            have f2 : qIn 2002 (pkQ (L ⟨⟩) 2 ((drI (L ⟨⟩) (a ⟨⟩, s ⟨⟩) (0)).1)) := qIn_pk f1
            have f4 : qIn 2006 (pkQ (L ⟨⟩) 30 (pkQ (L ⟨⟩) 2 (drI (L ⟨⟩) (a ⟨⟩, s ⟨⟩) (0)).1)) := qIn_le (qIn_pk f2) (by decide)
            have f5 : qIn 2008 (pkQ (L ⟨⟩) 80 (pkQ (L ⟨⟩) 30 (pkQ (L ⟨⟩) 2 (drI (L ⟨⟩) (a ⟨⟩, s ⟨⟩) (0)).1))) := qIn_le (qIn_pk f4) (by decide)
            cbv
            repeat' first
              | (refine Ob.mk ?_ ?_; rotate_left; cbv)
              | (refine Lex.mk (by decide +kernel) ?_; cbv)
              | (refine Next.ren [2, 3, 4, 7] (.inr fun _ => 1) ?_ ?_ ?_)
            all_goals try (first | exact ⟨f1.1, Int.le_trans f1.2 (by decide)⟩ | exact Int.le_trans f1.2 (by decide) | exact ⟨f2.1, Int.le_trans f2.2 (by decide)⟩ | exact Int.le_trans f2.2 (by decide) | exact ⟨f4.1, Int.le_trans f4.2 (by decide)⟩ | exact Int.le_trans f4.2 (by decide) | exact ⟨f5.1, Int.le_trans f5.2 (by decide)⟩ | exact Int.le_trans f5.2 (by decide) | exact ⟨ho0, hlen, hbig, hby⟩ | exact ⟨by trivial, hlen, hbig, hby⟩ | exact (congrArg Prod.fst e3).symm | exact (congrArg Prod.snd e3).symm | exact e1.symm | exact e6.symm | exact hkn | exact hln)
            all_goals (try simp only [Unit.unit, Int.ofNat_lt, Int.ofNat_le, BE.val, IE.val, NE.val, ltB_iff, ltB_no, leB_iff, leB_no, Int.toNat_natCast, Nat.zero_add, Nat.add_zero, Nat.mul_one, forced, beq_iff_eq, beq_eq_false_iff_ne, bne_iff_ne, bne_eq_false_iff_eq] at *)
            all_goals first | with_reducible rfl | trivial | omega | exact ⟨by omega, by omega⟩ | exact hkn | exact hln | exact (congrArg Prod.fst e3).symm | exact (congrArg Prod.snd e3).symm | exact e1.symm | exact e6.symm | rfl
        · exfalso
          have h2 := ltB_no.1 hk
          exact h2 (Int.lt_of_lt_of_le (by decide) hK.1)
      · have hi1 : 1 ≤ i ⟨⟩ := hi.1
        have hi2 : i ⟨⟩ ≤ drN (L ⟨⟩) (a ⟨⟩, s ⟨⟩) := hi.2
        cbv
        refine Br.mk (fun hk => ?_) (fun hk => ?_)
        · have hin : i ⟨⟩ < drN (L ⟨⟩) (a ⟨⟩, s ⟨⟩) := in_lt hN.2.2 (ltB_iff.1 hk)
          clear hk
          have f1 : qIn 2000 ((drI (L ⟨⟩) (a ⟨⟩, s ⟨⟩) (i ⟨⟩)).1) := qIn_le (drI_in hq0 (i ⟨⟩)) (by omega)
          have hkn : IntKind.wrap .i64 (drK (L ⟨⟩) (a ⟨⟩, s ⟨⟩) - (i ⟨⟩ : Int) - 1) = drK (L ⟨⟩) (a ⟨⟩, s ⟨⟩) - ((i ⟨⟩ + 1 : Nat) : Int) := by rw [wrap64 (by omega) (by omega)]; omega
          have hln := drL_len (L ⟨⟩) (a ⟨⟩, s ⟨⟩) (i ⟨⟩)
          cbv
          repeat' (refine Ob.mk ?_ ?_; rotate_left; cbv)
          rotate_left
          all_goals try (first | exact ⟨f1.1, Int.le_trans f1.2 (by decide)⟩ | exact Int.le_trans f1.2 (by decide) | exact ⟨ho0, hlen, hbig, hby⟩ | exact ⟨by trivial, hlen, hbig, hby⟩)
          refine Br.mk (fun hy => ?_) (fun hy => ?_)
          · have hy : spY (L ⟨⟩) ((drI (L ⟨⟩) (a ⟨⟩, s ⟨⟩) (i ⟨⟩)).1) = true := hy
            have e1 : spV (L ⟨⟩) ((drI (L ⟨⟩) (a ⟨⟩, s ⟨⟩) (i ⟨⟩)).1) ((drI (L ⟨⟩) (a ⟨⟩, s ⟨⟩) (i ⟨⟩)).2) = fop .add .f32 ((drI (L ⟨⟩) (a ⟨⟩, s ⟨⟩) (i ⟨⟩)).2) (fop .quo .f32 (floatOfInt .f32 (IntKind.wrap .i64 (pkV (L ⟨⟩) 9 (pkQ (L ⟨⟩) 2 (drI (L ⟨⟩) (a ⟨⟩, s ⟨⟩) (i ⟨⟩)).1) - 3))) 1115684864) := if_pos hy
            have e2 : spQb (L ⟨⟩) ((drI (L ⟨⟩) (a ⟨⟩, s ⟨⟩) (i ⟨⟩)).1) = pkQ (L ⟨⟩) 9 (pkQ (L ⟨⟩) 2 (drI (L ⟨⟩) (a ⟨⟩, s ⟨⟩) (i ⟨⟩)).1) := if_pos hy
            have e3 : spQ (L ⟨⟩) ((drI (L ⟨⟩) (a ⟨⟩, s ⟨⟩) (i ⟨⟩)).1) = pkQ (L ⟨⟩) 80 (pkQ (L ⟨⟩) 30 (pkQ (L ⟨⟩) 9 (pkQ (L ⟨⟩) 2 (drI (L ⟨⟩) (a ⟨⟩, s ⟨⟩) (i ⟨⟩)).1))) := by unfold spQ spQc; rw [e2]
            have e4 : spLen (L ⟨⟩) ((drI (L ⟨⟩) (a ⟨⟩, s ⟨⟩) (i ⟨⟩)).1) = fop .quo .f32 (floatOfInt .f32 (IntKind.wrap .i64 (2 + pkV (L ⟨⟩) 30 (pkQ (L ⟨⟩) 9 (pkQ (L ⟨⟩) 2 (drI (L ⟨⟩) (a ⟨⟩, s ⟨⟩) (i ⟨⟩)).1))))) 1073741824 := by unfold spLen; rw [e2]
            have e5 : spTen (L ⟨⟩) ((drI (L ⟨⟩) (a ⟨⟩, s ⟨⟩) (i ⟨⟩)).1) = fop .quo .f32 (floatOfInt .f32 (IntKind.wrap .i64 (pkV (L ⟨⟩) 80 (pkQ (L ⟨⟩) 30 (pkQ (L ⟨⟩) 9 (pkQ (L ⟨⟩) 2 (drI (L ⟨⟩) (a ⟨⟩, s ⟨⟩) (i ⟨⟩)).1))) - 8))) 1082130432 := by unfold spTen spQc; rw [e2]
            have e6 : drL (L ⟨⟩) (a ⟨⟩, s ⟨⟩) (i ⟨⟩ + 1) = drL (L ⟨⟩) (a ⟨⟩, s ⟨⟩) (i ⟨⟩) ++ [fop .quo .f32 (floatOfInt .f32 (IntKind.wrap .i64 (2 + pkV (L ⟨⟩) 30 (pkQ (L ⟨⟩) 9 (pkQ (L ⟨⟩) 2 (drI (L ⟨⟩) (a ⟨⟩, s ⟨⟩) (i ⟨⟩)).1))))) 1073741824, fop .add .f32 ((drI (L ⟨⟩) (a ⟨⟩, s ⟨⟩) (i ⟨⟩)).2) (fop .quo .f32 (floatOfInt .f32 (IntKind.wrap .i64 (pkV (L ⟨⟩) 9 (pkQ (L ⟨⟩) 2 (drI (L ⟨⟩) (a ⟨⟩, s ⟨⟩) (i ⟨⟩)).1) - 3))) 1115684864), fop .quo .f32 (floatOfInt .f32 (IntKind.wrap .i64 (pkV (L ⟨⟩) 80 (pkQ (L ⟨⟩) 30 (pkQ (L ⟨⟩) 9 (pkQ (L ⟨⟩) 2 (drI (L ⟨⟩) (a ⟨⟩, s ⟨⟩) (i ⟨⟩)).1))) - 8))) 1082130432] := by
              show drL (L ⟨⟩) (a ⟨⟩, s ⟨⟩) (i ⟨⟩) ++ [spLen (L ⟨⟩) ((drI (L ⟨⟩) (a ⟨⟩, s ⟨⟩) (i ⟨⟩)).1), spV (L ⟨⟩) ((drI (L ⟨⟩) (a ⟨⟩, s ⟨⟩) (i ⟨⟩)).1) ((drI (L ⟨⟩) (a ⟨⟩, s ⟨⟩) (i ⟨⟩)).2), spTen (L ⟨⟩) ((drI (L ⟨⟩) (a ⟨⟩, s ⟨⟩) (i ⟨⟩)).1)] = _
              rw [e1, e4, e5]
            have f2 : qIn 2002 (pkQ (L ⟨⟩) 2 ((drI (L ⟨⟩) (a ⟨⟩, s ⟨⟩) (i ⟨⟩)).1)) := qIn_pk f1
            have f3 : qIn 2004 (pkQ (L ⟨⟩) 9 (pkQ (L ⟨⟩) 2 (drI (L ⟨⟩) (a ⟨⟩, s ⟨⟩) (i ⟨⟩)).1)) := qIn_pk f2
            have f4 : qIn 2006 (pkQ (L ⟨⟩) 30 (pkQ (L ⟨⟩) 9 (pkQ (L ⟨⟩) 2 (drI (L ⟨⟩) (a ⟨⟩, s ⟨⟩) (i ⟨⟩)).1))) := qIn_le (qIn_pk f3) (by decide)
            have f5 : qIn 2008 (pkQ (L ⟨⟩) 80 (pkQ (L ⟨⟩) 30 (pkQ (L ⟨⟩) 9 (pkQ (L ⟨⟩) 2 (drI (L ⟨⟩) (a ⟨⟩, s ⟨⟩) (i ⟨⟩)).1)))) := qIn_le (qIn_pk f4) (by decide)
            cbv
            repeat' first
              | (refine Ob.mk ?_ ?_; rotate_left; cbv)
              | (refine Lex.mk (by decide +kernel) ?_; cbv)
              | (refine Next.ren [2, 3, 4, 8] (.inr fun _ => i () + 1) ?_ ?_ ?_)
            all_goals try (first | exact ⟨f1.1, Int.le_trans f1.2 (by decide)⟩ | exact Int.le_trans f1.2 (by decide) | exact ⟨f2.1, Int.le_trans f2.2 (by decide)⟩ | exact Int.le_trans f2.2 (by decide) | exact ⟨f3.1, Int.le_trans f3.2 (by decide)⟩ | exact Int.le_trans f3.2 (by decide) | exact ⟨f4.1, Int.le_trans f4.2 (by decide)⟩ | exact Int.le_trans f4.2 (by decide) | exact ⟨f5.1, Int.le_trans f5.2 (by decide)⟩ | exact Int.le_trans f5.2 (by decide) | exact ⟨ho0, hlen, hbig, hby⟩ | exact ⟨by trivial, hlen, hbig, hby⟩ | exact (congrArg Prod.fst e3).symm | exact (congrArg Prod.snd e3).symm | exact e1.symm | exact e6.symm | exact hkn | exact hln)
            all_goals (try simp only [Unit.unit, Int.ofNat_lt, Int.ofNat_le, BE.val, IE.val, NE.val, ltB_iff, ltB_no, leB_iff, leB_no, Int.toNat_natCast, Nat.zero_add, Nat.add_zero, Nat.mul_one, forced, beq_iff_eq, beq_eq_false_iff_ne, bne_iff_ne, bne_eq_false_iff_eq] at *)
            all_goals first | with_reducible rfl | trivial | omega | exact ⟨by omega, by omega⟩ | exact hkn | exact hln | exact (congrArg Prod.fst e3).symm | exact (congrArg Prod.snd e3).symm | exact e1.symm | exact e6.symm | rfl
          · have hy : spY (L ⟨⟩) ((drI (L ⟨⟩) (a ⟨⟩, s ⟨⟩) (i ⟨⟩)).1) = false := hy
            have e1 : spV (L ⟨⟩) ((drI (L ⟨⟩) (a ⟨⟩, s ⟨⟩) (i ⟨⟩)).1) ((drI (L ⟨⟩) (a ⟨⟩, s ⟨⟩) (i ⟨⟩)).2) = (drI (L ⟨⟩) (a ⟨⟩, s ⟨⟩) (i ⟨⟩)).2 := if_neg (by rw [hy]; decide)
            have e2 : spQb (L ⟨⟩) ((drI (L ⟨⟩) (a ⟨⟩, s ⟨⟩) (i ⟨⟩)).1) = pkQ (L ⟨⟩) 2 (drI (L ⟨⟩) (a ⟨⟩, s ⟨⟩) (i ⟨⟩)).1 := if_neg (by rw [hy]; decide)
            have e3 : spQ (L ⟨⟩) ((drI (L ⟨⟩) (a ⟨⟩, s ⟨⟩) (i ⟨⟩)).1) = pkQ (L ⟨⟩) 80 (pkQ (L ⟨⟩) 30 (pkQ (L ⟨⟩) 2 (drI (L ⟨⟩) (a ⟨⟩, s ⟨⟩) (i ⟨⟩)).1)) := by unfold spQ spQc; rw [e2]
            have e4 : spLen (L ⟨⟩) ((drI (L ⟨⟩) (a ⟨⟩, s ⟨⟩) (i ⟨⟩)).1) = fop .quo .f32 (floatOfInt .f32 (IntKind.wrap .i64 (2 + pkV (L ⟨⟩) 30 (pkQ (L ⟨⟩) 2 (drI (L ⟨⟩) (a ⟨⟩, s ⟨⟩) (i ⟨⟩)).1)))) 1073741824 := by unfold spLen; rw [e2]
            have e5 : spTen (L ⟨⟩) ((drI (L ⟨⟩) (a ⟨⟩, s ⟨⟩) (i ⟨⟩)).1) = fop .quo .f32 (floatOfInt .f32 (IntKind.wrap .i64 (pkV (L ⟨⟩) 80 (pkQ (L ⟨⟩) 30 (pkQ (L ⟨⟩) 2 (drI (L ⟨⟩) (a ⟨⟩, s ⟨⟩) (i ⟨⟩)).1)) - 8))) 1082130432 := by unfold spTen spQc; rw [e2]
            have e6 : drL (L ⟨⟩) (a ⟨⟩, s ⟨⟩) (i ⟨⟩ + 1) = drL (L ⟨⟩) (a ⟨⟩, s ⟨⟩) (i ⟨⟩) ++ [fop .quo .f32 (floatOfInt .f32 (IntKind.wrap .i64 (2 + pkV (L ⟨⟩) 30 (pkQ (L ⟨⟩) 2 (drI (L ⟨⟩) (a ⟨⟩, s ⟨⟩) (i ⟨⟩)).1)))) 1073741824, (drI (L ⟨⟩) (a ⟨⟩, s ⟨⟩) (i ⟨⟩)).2, fop .quo .f32 (floatOfInt .f32 (IntKind.wrap .i64 (pkV (L ⟨⟩) 80 (pkQ (L ⟨⟩) 30 (pkQ (L ⟨⟩) 2 (drI (L ⟨⟩) (a ⟨⟩, s ⟨⟩) (i ⟨⟩)).1)) - 8))) 1082130432] := by
              show drL (L ⟨⟩) (a ⟨⟩, s ⟨⟩) (i ⟨⟩) ++ [spLen (L ⟨⟩) ((drI (L ⟨⟩) (a ⟨⟩, s ⟨⟩) (i ⟨⟩)).1), spV (L ⟨⟩) ((drI (L ⟨⟩) (a ⟨⟩, s ⟨⟩) (i ⟨⟩)).1) ((drI (L ⟨⟩) (a ⟨⟩, s ⟨⟩) (i ⟨⟩)).2), spTen (L ⟨⟩) ((drI (L ⟨⟩) (a ⟨⟩, s ⟨⟩) (i ⟨⟩)).1)] = _
              rw [e1, e4, e5]
            have f2 : qIn 2002 (pkQ (L ⟨⟩) 2 ((drI (L ⟨⟩) (a ⟨⟩, s ⟨⟩) (i ⟨⟩)).1)) := qIn_pk f1
            have f4 : qIn 2006 (pkQ (L ⟨⟩) 30 (pkQ (L ⟨⟩) 2 (drI (L ⟨⟩) (a ⟨⟩, s ⟨⟩) (i ⟨⟩)).1)) := qIn_le (qIn_pk f2) (by decide)
            have f5 : qIn 2008 (pkQ (L ⟨⟩) 80 (pkQ (L ⟨⟩) 30 (pkQ (L ⟨⟩) 2 (drI (L ⟨⟩) (a ⟨⟩, s ⟨⟩) (i ⟨⟩)).1))) := qIn_le (qIn_pk f4) (by decide)
            cbv
            repeat' first
              | (refine Ob.mk ?_ ?_; rotate_left; cbv)
              | (refine Lex.mk (by decide +kernel) ?_; cbv)
              | (refine Next.ren [2, 3, 4, 8] (.inr fun _ => i () + 1) ?_ ?_ ?_)
            all_goals try (first | exact ⟨f1.1, Int.le_trans f1.2 (by decide)⟩ | exact Int.le_trans f1.2 (by decide) | exact ⟨f2.1, Int.le_trans f2.2 (by decide)⟩ | exact Int.le_trans f2.2 (by decide) | exact ⟨f4.1, Int.le_trans f4.2 (by decide)⟩ | exact Int.le_trans f4.2 (by decide) | exact ⟨f5.1, Int.le_trans f5.2 (by decide)⟩ | exact Int.le_trans f5.2 (by decide) | exact ⟨ho0, hlen, hbig, hby⟩ | exact ⟨by trivial, hlen, hbig, hby⟩ | exact (congrArg Prod.fst e3).symm | exact (congrArg Prod.snd e3).symm | exact e1.symm | exact e6.symm | exact hkn | exact hln)
            all_goals (try simp only [Unit.unit, Int.ofNat_lt, Int.ofNat_le, BE.val, IE.val, NE.val, ltB_iff, ltB_no, leB_iff, leB_no, Int.toNat_natCast, Nat.zero_add, Nat.add_zero, Nat.mul_one, forced, beq_iff_eq, beq_eq_false_iff_ne, bne_iff_ne, bne_eq_false_iff_eq] at *)
            all_goals first | with_reducible rfl | trivial | omega | exact ⟨by omega, by omega⟩ | exact hkn | exact hln | exact (congrArg Prod.fst e3).symm | exact (congrArg Prod.snd e3).symm | exact e1.symm | exact e6.symm | rfl
        · have hin : i ⟨⟩ = drN (L ⟨⟩) (a ⟨⟩, s ⟨⟩) := in_eq hN.2.2 (ltB_no.1 hk) hi2
          clear hk
          cbv
          repeat' (refine Ob.mk ?_ ?_; rotate_left; cbv)
          all_goals (try simp only [Unit.unit, Int.ofNat_lt, Int.ofNat_le, BE.val, IE.val, NE.val, ltB_iff, ltB_no, leB_iff, leB_no, Int.toNat_natCast, Nat.zero_add, Nat.add_zero, Nat.mul_one, forced, beq_iff_eq, beq_eq_false_iff_ne, bne_iff_ne, bne_eq_false_iff_eq] at *)
          all_goals first | with_reducible rfl | trivial | exact hin | exact hin.symm | (rw [hin]; done) | (rw [hin]; rfl) | rfl
  · rename_i a s
    cases hs
    obtain ⟨⟨ha0, ha1⟩, hx0⟩ := ho.two
    have hby := bytes_nil
    try simp only [Unit.unit] at ha0 ha1 hx0
    refine ⟨_, HLe.refl _, ?_⟩
    cbv
    have hq0 : qIn 1000 (a ⟨⟩, s ⟨⟩) := ⟨ha0, hx0⟩
    have hq1 : qIn 1002 (drQ1 [] (a ⟨⟩, s ⟨⟩)) := qIn_pk hq0
    have hq2 : qIn 1004 (drQ2 [] (a ⟨⟩, s ⟨⟩)) := qIn_pk hq1
    have hq3 : qIn 1006 (drQ3 [] (a ⟨⟩, s ⟨⟩)) := qIn_pk hq2
    have hK := drK_bd hby (a ⟨⟩, s ⟨⟩)
    have hN := drN_bd hby (a ⟨⟩, s ⟨⟩)
    have hwK : IntKind.wrap .i64 (1 + pkV [] 4 (drQ3 [] (a ⟨⟩, s ⟨⟩))) = drK [] (a ⟨⟩, s ⟨⟩) := wrap64 (Int.le_trans (by decide) hK.1) (Int.le_trans hK.2 (by decide))
    repeat' first
      | (refine Ob.mk ?_ ?_; rotate_left; cbv)
      | (refine Lex.mk (by decide +kernel) ?_; cbv)
    rotate_left
    all_goals try (first | exact ⟨hq0.1, Int.le_trans hq0.2 (by decide)⟩ | exact Int.le_trans hq0.2 (by decide) | exact ⟨hq1.1, Int.le_trans hq1.2 (by decide)⟩ | exact Int.le_trans hq1.2 (by decide) | exact ⟨hq2.1, Int.le_trans hq2.2 (by decide)⟩ | exact Int.le_trans hq2.2 (by decide) | exact ⟨hq3.1, Int.le_trans hq3.2 (by decide)⟩ | exact Int.le_trans hq3.2 (by decide) | exact ⟨rfl, rfl, by decide, by decide⟩)
    refine loop_rule (α := (Unit → Nat) ⊕ (Unit → Nat)) (c := ⟨tt, E53, 1⟩)
        (fun a' => match a' with | .inl _ => fr 60 [(0, .c (.p 0 (.l 0))), (2, .c (.p 1 (.l 0))), (3, .c (.p 3 (.l 0))), (4, .c (.f .f32 fun _ => drSp [] (a (), s ()))), (5, .c (.i .i64 (.x fun _ => drK [] (a (), s ()))))] | .inr i => fr 60 [(0, .c (.p 0 (.l 0))), (2, .c (.p 1 (.l 0))), (3, .c (.p 3 (.l 0))), (4, .c (.f .f32 fun _ => (drI [] (a (), s ()) (i ())).2)), (5, .c (.i .i64 (.x fun _ => drK [] (a (), s ()) - (i () : Int))))]) (fun a' => match a' with | .inl _ => [some ⟨true, 0, .lit [.sn, .i .i64 (.x fun _ => (drQ4 [] (a (), s ())).1), .i .u64 (.x fun _ => (drQ4 [] (a (), s ())).2)]⟩, some ⟨true, 0, .lit [.f .f32 fun _ => 0, .f .f32 fun _ => 0, .f .f32 fun _ => 0, .sn]⟩, none, some ⟨true, 0, .lit [.f .f32 fun _ => drSt [] (a (), s ()), .f .f32 fun _ => drSp [] (a (), s ()), .f .f32 fun _ => drFd [] (a (), s ()), .sn]⟩] | .inr i => [some ⟨true, 0, .lit [.sn, .i .i64 (.x fun _ => ((drI [] (a (), s ()) (i ())).1).1), .i .u64 (.x fun _ => ((drI [] (a (), s ()) (i ())).1).2)]⟩, some ⟨true, 0, .lit [.f .f32 fun _ => 0, .f .f32 fun _ => 0, .f .f32 fun _ => 0, .sn]⟩, none, some ⟨true, 0, .lit [.f .f32 fun _ => drSt [] (a (), s ()), .f .f32 fun _ => drSp [] (a (), s ()), .f .f32 fun _ => drFd [] (a (), s ()), .sl 4 (.l 0) (.x fun _ => i ())]⟩, some ⟨true, 3, .fl fun _ => drL [] (a (), s ()) (i ())⟩])
        (fun a' => match a' with | .inl _ => True | .inr i => 1 ≤ i () ∧ i () ≤ drN [] (a (), s ())) (fun a' => match a' with | .inl _ => drN [] (a (), s ()) + 1 | .inr i => drN [] (a (), s ()) - i ()) (fun _ => drN [] (a (), s ()) + 2) ?_ ?_
    · refine .mk (.inl fun _ => 0) trivial (by dsimp only; omega) ?_
      cbv
      repeat' (refine Ob.mk ?_ ?_; rotate_left)
      all_goals (try simp only [Unit.unit, Int.ofNat_lt, Int.ofNat_le, BE.val, IE.val, NE.val, ltB_iff, ltB_no, leB_iff, leB_no, Int.toNat_natCast, Nat.zero_add, Nat.add_zero, Nat.mul_one, forced, beq_iff_eq, beq_eq_false_iff_ne, bne_iff_ne, bne_eq_false_iff_eq] at *)
      all_goals first | with_reducible rfl | trivial | exact hwK | rfl
    · rintro (i | i) hi
      · cbv
        refine Br.mk (fun hk => ?_) (fun hk => ?_)
        · clear hk
          have f1 : qIn 2000 ((drI [] (a ⟨⟩, s ⟨⟩) (0)).1) := qIn_le (drI_in hq0 (0)) (by omega)
          have hkn : IntKind.wrap .i64 (drK [] (a ⟨⟩, s ⟨⟩) - 0 - 1) = drK [] (a ⟨⟩, s ⟨⟩) - ((0 + 1 : Nat) : Int) := by rw [wrap64 (by omega) (by omega)]; omega
          have hkn : IntKind.wrap .i64 (drK [] (a ⟨⟩, s ⟨⟩) - 1) = drK [] (a ⟨⟩, s ⟨⟩) - ((1 : Nat) : Int) := by rw [wrap64 (by omega) (by omega)]; omega
          have hln := drL_len [] (a ⟨⟩, s ⟨⟩) (0)
          cbv
          repeat' (refine Ob.mk ?_ ?_; rotate_left; cbv)
          rotate_left
          all_goals try (first | exact ⟨f1.1, Int.le_trans f1.2 (by decide)⟩ | exact Int.le_trans f1.2 (by decide))
          refine Br.mk (fun hy => ?_) (fun hy => ?_)
          · have hy : spY [] ((drI [] (a ⟨⟩, s ⟨⟩) (0)).1) = true := hy
            have e1 : spV [] ((drI [] (a ⟨⟩, s ⟨⟩) (0)).1) ((drI [] (a ⟨⟩, s ⟨⟩) (0)).2) = fop .add .f32 ((drI [] (a ⟨⟩, s ⟨⟩) (0)).2) (fop .quo .f32 (floatOfInt .f32 (IntKind.wrap .i64 (pkV [] 9 (pkQ [] 2 (drI [] (a ⟨⟩, s ⟨⟩) (0)).1) - 3))) 1115684864) := if_pos hy
            have e2 : spQb [] ((drI [] (a ⟨⟩, s ⟨⟩) (0)).1) = pkQ [] 9 (pkQ [] 2 (drI [] (a ⟨⟩, s ⟨⟩) (0)).1) := if_pos hy
            have e3 : spQ [] ((drI [] (a ⟨⟩, s ⟨⟩) (0)).1) = pkQ [] 80 (pkQ [] 30 (pkQ [] 9 (pkQ [] 2 (drI [] (a ⟨⟩, s ⟨⟩) (0)).1))) := by unfold spQ spQc; rw [e2]
            have e4 : spLen [] ((drI [] (a ⟨⟩, s ⟨⟩) (0)).1) = fop .quo .f32 (floatOfInt .f32 (IntKind.wrap .i64 (2 + pkV [] 30 (pkQ [] 9 (pkQ [] 2 (drI [] (a ⟨⟩, s ⟨⟩) (0)).1))))) 1073741824 := by unfold spLen; rw [e2]
            have e5 : spTen [] ((drI [] (a ⟨⟩, s ⟨⟩) (0)).1) = fop .quo .f32 (floatOfInt .f32 (IntKind.wrap .i64 (pkV [] 80 (pkQ [] 30 (pkQ [] 9 (pkQ [] 2 (drI [] (a ⟨⟩, s ⟨⟩) (0)).1))) - 8))) 1082130432 := by unfold spTen spQc; rw [e2]
            have e6 : drL [] (a ⟨⟩, s ⟨⟩) (0 + 1) = drL [] (a ⟨⟩, s ⟨⟩) (0) ++ [fop .quo .f32 (floatOfInt .f32 (IntKind.wrap .i64 (2 + pkV [] 30 (pkQ [] 9 (pkQ [] 2 (drI [] (a ⟨⟩, s ⟨⟩) (0)).1))))) 1073741824, fop .add .f32 ((drI [] (a ⟨⟩, s ⟨⟩) (0)).2) (fop .quo .f32 (floatOfInt .f32 (IntKind.wrap .i64 (pkV [] 9 (pkQ [] 2 (drI [] (a ⟨⟩, s ⟨⟩) (0)).1) - 3))) 1115684864), fop .quo .f32 (floatOfInt .f32 (IntKind.wrap .i64 (pkV [] 80 (pkQ [] 30 (pkQ [] 9 (pkQ [] 2 (drI [] (a ⟨⟩, s ⟨⟩) (0)).1))) - 8))) 1082130432] := by
              show drL [] (a ⟨⟩, s ⟨⟩) (0) ++ [spLen [] ((drI [] (a ⟨⟩, s ⟨⟩) (0)).1), spV [] ((drI [] (a ⟨⟩, s ⟨⟩) (0)).1) ((drI [] (a ⟨⟩, s ⟨⟩) (0)).2), spTen [] ((drI [] (a ⟨⟩, s ⟨⟩) (0)).1)] = _
              rw [e1, e4, e5]
            have f2 : qIn 2002 (pkQ [] 2 ((drI [] (a ⟨⟩, s ⟨⟩) (0)).1)) := qIn_pk f1
            have f3 : qIn 2004 (pkQ [] 9 (pkQ [] 2 (drI [] (a ⟨⟩, s ⟨⟩) (0)).1)) := qIn_pk f2
            have f4 : qIn 2006 (pkQ [] 30 (pkQ [] 9 (pkQ [] 2 (drI [] (a ⟨⟩, s ⟨⟩) (0)).1))) := qIn_le (qIn_pk f3) (by decide)
            have f5 : qIn 2008 (pkQ [] 80 (pkQ [] 30 (pkQ [] 9 (pkQ [] 2 (drI [] (a ⟨⟩, s ⟨⟩) (0)).1)))) := qIn_le (qIn_pk f4) (by decide)
            cbv
            repeat' first
              | (refine Ob.mk ?_ ?_; rotate_left; cbv)
              | (refine Lex.mk (by decide +kernel) ?_; cbv)
              | (refine Next.ren [1, 2, 3, 6] (.inr fun _ => 1) ?_ ?_ ?_)
            all_goals try (first | exact ⟨f1.1, Int.le_trans f1.2 (by decide)⟩ | exact Int.le_trans f1.2 (by decide) | exact ⟨f2.1, Int.le_trans f2.2 (by decide)⟩ | exact Int.le_trans f2.2 (by decide) | exact ⟨f3.1, Int.le_trans f3.2 (by decide)⟩ | exact Int.le_trans f3.2 (by decide) | exact ⟨f4.1, Int.le_trans f4.2 (by decide)⟩ | exact Int.le_trans f4.2 (by decide) | exact ⟨f5.1, Int.le_trans f5.2 (by decide)⟩ | exact Int.le_trans f5.2 (by decide) | exact (congrArg Prod.fst e3).symm | exact (congrArg Prod.snd e3).symm | exact e1.symm | exact e6.symm | exact hkn | exact hln)
            all_goals (try simp only [Unit.unit, Int.ofNat_lt, Int.ofNat_le, BE.val, IE.val, NE.val, ltB_iff, ltB_no, leB_iff, leB_no, Int.toNat_natCast, Nat.zero_add, Nat.add_zero, Nat.mul_one, forced, beq_iff_eq, beq_eq_false_iff_ne, bne_iff_ne, bne_eq_false_iff_eq] at *)
            all_goals first | with_reducible rfl | trivial | omega | exact ⟨by omega, by omega⟩ | exact hkn | exact hln | exact (congrArg Prod.fst e3).symm | exact (congrArg Prod.snd e3).symm | exact e1.symm | exact e6.symm | rfl
          · have hy : spY [] ((drI [] (a ⟨⟩, s ⟨⟩) (0)).1) = false := hy
            have e1 : spV [] ((drI [] (a ⟨⟩, s ⟨⟩) (0)).1) ((drI [] (a ⟨⟩, s ⟨⟩) (0)).2) = (drI [] (a ⟨⟩, s ⟨⟩) (0)).2 := if_neg (by rw [hy]; decide)
            have e2 : spQb [] ((drI [] (a ⟨⟩, s ⟨⟩) (0)).1) = pkQ [] 2 (drI [] (a ⟨⟩, s ⟨⟩) (0)).1 := if_neg (by rw [hy]; decide)
            have e3 : spQ [] ((drI [] (a ⟨⟩, s ⟨⟩) (0)).1) = pkQ [] 80 (pkQ [] 30 (pkQ [] 2 (drI [] (a ⟨⟩, s ⟨⟩) (0)).1)) := by unfold spQ spQc; rw [e2]
            have e4 : spLen [] ((drI [] (a ⟨⟩, s ⟨⟩) (0)).1) = fop .quo .f32 (floatOfInt .f32 (IntKind.wrap .i64 (2 + pkV [] 30 (pkQ [] 2 (drI [] (a ⟨⟩, s ⟨⟩) (0)).1)))) 1073741824 := by unfold spLen; rw [e2]
            have e5 : spTen [] ((drI [] (a ⟨⟩, s ⟨⟩) (0)).1) = fop .quo .f32 (floatOfInt .f32 (IntKind.wrap .i64 (pkV [] 80 (pkQ [] 30 (pkQ [] 2 (drI [] (a ⟨⟩, s ⟨⟩) (0)).1)) - 8))) 1082130432 := by unfold spTen spQc; rw [e2]
            have e6 : drL [] (a ⟨⟩, s ⟨⟩) (0 + 1) = drL [] (a ⟨⟩, s ⟨⟩) (0) ++ [fop .quo .f32 (floatOfInt .f32 (IntKind.wrap .i64 (2 + pkV [] 30 (pkQ [] 2 (drI [] (a ⟨⟩, s ⟨⟩) (0)).1)))) 1073741824, (drI [] (a ⟨⟩, s ⟨⟩) (0)).2, fop .quo .f32 (floatOfInt .f32 (IntKind.wrap .i64 (pkV [] 80 (pkQ [] 30 (pkQ [] 2 (drI [] (a ⟨⟩, s ⟨⟩) (0)).1)) - 8))) 1082130432] := by
              show drL [] (a ⟨⟩, s ⟨⟩) (0) ++ [spLen [] ((drI [] (a ⟨⟩, s ⟨⟩) (0)).1), spV [] ((drI [] (a ⟨⟩, s ⟨⟩) (0)).1) ((drI [] (a ⟨⟩, s ⟨⟩) (0)).2), spTen [] ((drI [] (a ⟨⟩, s ⟨⟩) (0)).1)] = _
              rw [e1, e4, e5]
            have f2 : qIn 2002 (pkQ [] 2 ((drI [] (a ⟨⟩, s ⟨⟩) (0)).1)) := qIn_pk f1
            have f4 : qIn 2006 (pkQ [] 30 (pkQ [] 2 (drI [] (a ⟨⟩, s ⟨⟩) (0)).1)) := qIn_le (qIn_pk f2) (by decide)
            have f5 : qIn 2008 (pkQ [] 80 (pkQ [] 30 (pkQ [] 2 (drI [] (a ⟨⟩, s ⟨⟩) (0)).1))) := qIn_le (qIn_pk f4) (by decide)
            cbv
            repeat' first
              | (refine Ob.mk ?_ ?_; rotate_left; cbv)
              | (refine Lex.mk (by decide +kernel) ?_; cbv)
              | (refine Next.ren [1, 2, 3, 6] (.inr fun _ => 1) ?_ ?_ ?_)
            all_goals try (first | exact ⟨f1.1, Int.le_trans f1.2 (by decide)⟩ | exact Int.le_trans f1.2 (by decide) | exact ⟨f2.1, Int.le_trans f2.2 (by decide)⟩ | exact Int.le_trans f2.2 (by decide) | exact ⟨f4.1, Int.le_trans f4.2 (by decide)⟩ | exact Int.le_trans f4.2 (by decide) | exact ⟨f5.1, Int.le_trans f5.2 (by decide)⟩ | exact Int.le_trans f5.2 (by decide) | exact (congrArg Prod.fst e3).symm | exact (congrArg Prod.snd e3).symm | exact e1.symm | exact e6.symm | exact hkn | exact hln)
            all_goals (try simp only [Unit.unit, Int.ofNat_lt, Int.ofNat_le, BE.val, IE.val, NE.val, ltB_iff, ltB_no, leB_iff, leB_no, Int.toNat_natCast, Nat.zero_add, Nat.add_zero, Nat.mul_one, forced, beq_iff_eq, beq_eq_false_iff_ne, bne_iff_ne, bne_eq_false_iff_eq] at *)
            all_goals first | with_reducible rfl | trivial | omega | exact ⟨by omega, by omega⟩ | exact hkn | exact hln | exact (congrArg Prod.fst e3).symm | exact (congrArg Prod.snd e3).symm | exact e1.symm | exact e6.symm | rfl
        · exfalso
          have h2 := ltB_no.1 hk
          exact h2 (Int.lt_of_lt_of_le (by decide) hK.1)
      · have hi1 : 1 ≤ i ⟨⟩ := hi.1
        have hi2 : i ⟨⟩ ≤ drN [] (a ⟨⟩, s ⟨⟩) := hi.2
        cbv
        refine Br.mk (fun hk => ?_) (fun hk => ?_)
        · have hin : i ⟨⟩ < drN [] (a ⟨⟩, s ⟨⟩) := in_lt hN.2.2 (ltB_iff.1 hk)
          clear hk
          have f1 : qIn 2000 ((drI [] (a ⟨⟩, s ⟨⟩) (i ⟨⟩)).1) := qIn_le (drI_in hq0 (i ⟨⟩)) (by omega)
          have hkn : IntKind.wrap .i64 (drK [] (a ⟨⟩, s ⟨⟩) - (i ⟨⟩ : Int) - 1) = drK [] (a ⟨⟩, s ⟨⟩) - ((i ⟨⟩ + 1 : Nat) : Int) := by rw [wrap64 (by omega) (by omega)]; omega
          have hln := drL_len [] (a ⟨⟩, s ⟨⟩) (i ⟨⟩)
          cbv
          repeat' (refine Ob.mk ?_ ?_; rotate_left; cbv)
          rotate_left
          all_goals try (first | exact ⟨f1.1, Int.le_trans f1.2 (by decide)⟩ | exact Int.le_trans f1.2 (by decide))
          refine Br.mk (fun hy => ?_) (fun hy => ?_)
          · have hy : spY [] ((drI [] (a ⟨⟩, s ⟨⟩) (i ⟨⟩)).1) = true := hy
            have e1 : spV [] ((drI [] (a ⟨⟩, s ⟨⟩) (i ⟨⟩)).1) ((drI [] (a ⟨⟩, s ⟨⟩) (i ⟨⟩)).2) = fop .add .f32 ((drI [] (a ⟨⟩, s ⟨⟩) (i ⟨⟩)).2) (fop .quo .f32 (floatOfInt .f32 (IntKind.wrap .i64 (pkV [] 9 (pkQ [] 2 (drI [] (a ⟨⟩, s ⟨⟩) (i ⟨⟩)).1) - 3))) 1115684864) := if_pos hy
            have e2 : spQb [] ((drI [] (a ⟨⟩, s ⟨⟩) (i ⟨⟩)).1) = pkQ [] 9 (pkQ [] 2 (drI [] (a ⟨⟩, s ⟨⟩) (i ⟨⟩)).1) := if_pos hy
            have e3 : spQ [] ((drI [] (a ⟨⟩, s ⟨⟩) (i ⟨⟩)).1) = pkQ [] 80 (pkQ [] 30 (pkQ [] 9 (pkQ [] 2 (drI [] (a ⟨⟩, s ⟨⟩) (i ⟨⟩)).1))) := by unfold spQ spQc; rw [e2]
            have e4 : spLen [] ((drI [] (a ⟨⟩, s ⟨⟩) (i ⟨⟩)).1) = fop .quo .f32 (floatOfInt .f32 (IntKind.wrap .i64 (2 + pkV [] 30 (pkQ [] 9 (pkQ [] 2 (drI [] (a ⟨⟩, s ⟨⟩) (i ⟨⟩)).1))))) 1073741824 := by unfold spLen; rw [e2]
            have e5 : spTen [] ((drI [] (a ⟨⟩, s ⟨⟩) (i ⟨⟩)).1) = fop .quo .f32 (floatOfInt .f32 (IntKind.wrap .i64 (pkV [] 80 (pkQ [] 30 (pkQ [] 9 (pkQ [] 2 (drI [] (a ⟨⟩, s ⟨⟩) (i ⟨⟩)).1))) - 8))) 1082130432 := by unfold spTen spQc; rw [e2]
            have e6 : drL [] (a ⟨⟩, s ⟨⟩) (i ⟨⟩ + 1) = drL [] (a ⟨⟩, s ⟨⟩) (i ⟨⟩) ++ [fop .quo .f32 (floatOfInt .f32 (IntKind.wrap .i64 (2 + pkV [] 30 (pkQ [] 9 (pkQ [] 2 (drI [] (a ⟨⟩, s ⟨⟩) (i ⟨⟩)).1))))) 1073741824, fop .add .f32 ((drI [] (a ⟨⟩, s ⟨⟩) (i ⟨⟩)).2) (fop .quo .f32 (floatOfInt .f32 (IntKind.wrap .i64 (pkV [] 9 (pkQ [] 2 (drI [] (a ⟨⟩, s ⟨⟩) (i ⟨⟩)).1) - 3))) 1115684864), fop .quo .f32 (floatOfInt .f32 (IntKind.wrap .i64 (pkV [] 80 (pkQ [] 30 (pkQ [] 9 (pkQ [] 2 (drI [] (a ⟨⟩, s ⟨⟩) (i ⟨⟩)).1))) - 8))) 1082130432] := by
              show drL [] (a ⟨⟩, s ⟨⟩) (i ⟨⟩) ++ [spLen [] ((drI [] (a ⟨⟩, s ⟨⟩) (i ⟨⟩)).1), spV [] ((drI [] (a ⟨⟩, s ⟨⟩) (i ⟨⟩)).1) ((drI [] (a ⟨⟩, s ⟨⟩) (i ⟨⟩)).2), spTen [] ((drI [] (a ⟨⟩, s ⟨⟩) (i ⟨⟩)).1)] = _
              rw [e1, e4, e5]
            have f2 : qIn 2002 (pkQ [] 2 ((drI [] (a ⟨⟩, s ⟨⟩) (i ⟨⟩)).1)) := qIn_pk f1
            have f3 : qIn 2004 (pkQ [] 9 (pkQ [] 2 (drI [] (a ⟨⟩, s ⟨⟩) (i ⟨⟩)).1)) := qIn_pk f2
            have f4 : qIn 2006 (pkQ [] 30 (pkQ [] 9 (pkQ [] 2 (drI [] (a ⟨⟩, s ⟨⟩) (i ⟨⟩)).1))) := qIn_le (qIn_pk f3) (by decide)
            have f5 : qIn 2008 (pkQ [] 80 (pkQ [] 30 (pkQ [] 9 (pkQ [] 2 (drI [] (a ⟨⟩, s ⟨⟩) (i ⟨⟩)).1)))) := qIn_le (qIn_pk f4) (by decide)
            cbv
            repeat' first
              | (refine Ob.mk ?_ ?_; rotate_left; cbv)
              | (refine Lex.mk (by decide +kernel) ?_; cbv)
              | (refine Next.ren [1, 2, 3, 7] (.inr fun _ => i () + 1) ?_ ?_ ?_)
            all_goals try (first | exact ⟨f1.1, Int.le_trans f1.2 (by decide)⟩ | exact Int.le_trans f1.2 (by decide) | exact ⟨f2.1, Int.le_trans f2.2 (by decide)⟩ | exact Int.le_trans f2.2 (by decide) | exact ⟨f3.1, Int.le_trans f3.2 (by decide)⟩ | exact Int.le_trans f3.2 (by decide) | exact ⟨f4.1, Int.le_trans f4.2 (by decide)⟩ | exact Int.le_trans f4.2 (by decide) | exact ⟨f5.1, Int.le_trans f5.2 (by decide)⟩ | exact Int.le_trans f5.2 (by decide) | exact (congrArg Prod.fst e3).symm | exact (congrArg Prod.snd e3).symm | exact e1.symm | exact e6.symm | exact hkn | exact hln)
            all_goals (try simp only [Unit.unit, Int.ofNat_lt, Int.ofNat_le, BE.val, IE.val, NE.val, ltB_iff, ltB_no, leB_iff, leB_no, Int.toNat_natCast, Nat.zero_add, Nat.add_zero, Nat.mul_one, forced, beq_iff_eq, beq_eq_false_iff_ne, bne_iff_ne, bne_eq_false_iff_eq] at *)
            all_goals first | with_reducible rfl | trivial | omega | exact ⟨by omega, by omega⟩ | exact hkn | exact hln | exact (congrArg Prod.fst e3).symm | exact (congrArg Prod.snd e3).symm | exact e1.symm | exact e6.symm | rfl
          · have hy : spY [] ((drI [] (a ⟨⟩, s ⟨⟩) (i ⟨⟩)).1) = false := hy
            have e1 : spV [] ((drI [] (a ⟨⟩, s ⟨⟩) (i ⟨⟩)).1) ((drI [] (a ⟨⟩, s ⟨⟩) (i ⟨⟩)).2) = (drI [] (a ⟨⟩, s ⟨⟩) (i ⟨⟩)).2 := if_neg (by rw [hy]; decide)
            have e2 : spQb [] ((drI [] (a ⟨⟩, s ⟨⟩) (i ⟨⟩)).1) = pkQ [] 2 (drI [] (a ⟨⟩, s ⟨⟩) (i ⟨⟩)).1 := if_neg (by rw [hy]; decide)
            have e3 : spQ [] ((drI [] (a ⟨⟩, s ⟨⟩) (i ⟨⟩)).1) = pkQ [] 80 (pkQ [] 30 (pkQ [] 2 (drI [] (a ⟨⟩, s ⟨⟩) (i ⟨⟩)).1)) := by unfold spQ spQc; rw [e2]
            have e4 : spLen [] ((drI [] (a ⟨⟩, s ⟨⟩) (i ⟨⟩)).1) = fop .quo .f32 (floatOfInt .f32 (IntKind.wrap .i64 (2 + pkV [] 30 (pkQ [] 2 (drI [] (a ⟨⟩, s ⟨⟩) (i ⟨⟩)).1)))) 1073741824 := by unfold spLen; rw [e2]
            have e5 : spTen [] ((drI [] (a ⟨⟩, s ⟨⟩) (i ⟨⟩)).1) = fop .quo .f32 (floatOfInt .f32 (IntKind.wrap .i64 (pkV [] 80 (pkQ [] 30 (pkQ [] 2 (drI [] (a ⟨⟩, s ⟨⟩) (i ⟨⟩)).1)) - 8))) 1082130432 := by unfold spTen spQc; rw [e2]
            have e6 : drL [] (a ⟨⟩, s ⟨⟩) (i ⟨⟩ + 1) = drL [] (a ⟨⟩, s ⟨⟩) (i ⟨⟩) ++ [fop .quo .f32 (floatOfInt .f32 (IntKind.wrap .i64 (2 + pkV [] 30 (pkQ [] 2 (drI [] (a ⟨⟩, s ⟨⟩) (i ⟨⟩)).1)))) 1073741824, (drI [] (a ⟨⟩, s ⟨⟩) (i ⟨⟩)).2, fop .quo .f32 (floatOfInt .f32 (IntKind.wrap .i64 (pkV [] 80 (pkQ [] 30 (pkQ [] 2 (drI [] (a ⟨⟩, s ⟨⟩) (i ⟨⟩)).1)) - 8))) 1082130432] := by
              show drL [] (a ⟨⟩, s ⟨⟩) (i ⟨⟩) ++ [spLen [] ((drI [] (a ⟨⟩, s ⟨⟩) (i ⟨⟩)).1), spV [] ((drI [] (a ⟨⟩, s ⟨⟩) (i ⟨⟩)).1) ((drI [] (a ⟨⟩, s ⟨⟩) (i ⟨⟩)).2), spTen [] ((drI [] (a ⟨⟩, s ⟨⟩) (i ⟨⟩)).1)] = _
              rw [e1, e4, e5]
            have f2 : qIn 2002 (pkQ [] 2 ((drI [] (a ⟨⟩, s ⟨⟩) (i ⟨⟩)).1)) := qIn_pk f1
            have f4 : qIn 2006 (pkQ [] 30 (pkQ [] 2 (drI [] (a ⟨⟩, s ⟨⟩) (i ⟨⟩)).1)) := qIn_le (qIn_pk f2) (by decide)
            have f5 : qIn 2008 (pkQ [] 80 (pkQ [] 30 (pkQ [] 2 (drI [] (a ⟨⟩, s ⟨⟩) (i ⟨⟩)).1))) := qIn_le (qIn_pk f4) (by decide)
            cbv
            repeat' first
              | (refine Ob.mk ?_ ?_; rotate_left; cbv)
              | (refine Lex.mk (by decide +kernel) ?_; cbv)
              | (refine Next.ren [1, 2, 3, 7] (.inr fun _ => i () + 1) ?_ ?_ ?_)
            all_goals try (first | exact ⟨f1.1, Int.le_trans f1.2 (by decide)⟩ | exact Int.le_trans f1.2 (by decide) | exact ⟨f2.1, Int.le_trans f2.2 (by decide)⟩ | exact Int.le_trans f2.2 (by decide) | exact ⟨f4.1, Int.le_trans f4.2 (by decide)⟩ | exact Int.le_trans f4.2 (by decide) | exact ⟨f5.1, Int.le_trans f5.2 (by decide)⟩ | exact Int.le_trans f5.2 (by decide) | exact (congrArg Prod.fst e3).symm | exact (congrArg Prod.snd e3).symm | exact e1.symm | exact e6.symm | exact hkn | exact hln)
            all_goals (try simp only [Unit.unit, Int.ofNat_lt, Int.ofNat_le, BE.val, IE.val, NE.val, ltB_iff, ltB_no, leB_iff, leB_no, Int.toNat_natCast, Nat.zero_add, Nat.add_zero, Nat.mul_one, forced, beq_iff_eq, beq_eq_false_iff_ne, bne_iff_ne, bne_eq_false_iff_eq] at *)
            all_goals first | with_reducible rfl | trivial | omega | exact ⟨by omega, by omega⟩ | exact hkn | exact hln | exact (congrArg Prod.fst e3).symm | exact (congrArg Prod.snd e3).symm | exact e1.symm | exact e6.symm | rfl
        · have hin : i ⟨⟩ = drN [] (a ⟨⟩, s ⟨⟩) := in_eq hN.2.2 (ltB_no.1 hk) hi2
          clear hk
          cbv
          repeat' (refine Ob.mk ?_ ?_; rotate_left; cbv)
          all_goals (try simp only [Unit.unit, Int.ofNat_lt, Int.ofNat_le, BE.val, IE.val, NE.val, ltB_iff, ltB_no, leB_iff, leB_no, Int.toNat_natCast, Nat.zero_add, Nat.add_zero, Nat.mul_one, forced, beq_iff_eq, beq_eq_false_iff_ne, bne_iff_ne, bne_eq_false_iff_eq] at *)
          all_goals first | with_reducible rfl | trivial | exact hin | exact hin.symm | (rw [hin]; done) | (rw [hin]; rfl) | rfl
  · cases hs
end Go.Proofs.YteifneielgnniaaGreatDoor.Sh
end
section
namespace Go.Proofs.YteifneielgnniaaGreatDoor.Sh
open Go Go.Proofs
theorem fn6 : FnOk Tryz.prog 6 Tryz.f6 (bodyOf Tryz.f6) := ⟨Tryz.func6, rfl, by rfl⟩
def s6 : Spec := hspec fun args H => match args, H with
  | [.c (.sl 0 (.x o) (.x n))], [some ⟨false, 0, .it .u8 L⟩] => some (.a [.f .f32 fun _ => drSt (L ()) (0, 0), .f .f32 fun _ => drSp (L ()) (0, 0), .f .f32 fun _ => drFd (L ()) (0, 0), .sl 1 (.l 0) (.x fun _ => drN (L ()) (0, 0))], [none, some ⟨true, 3, .fl fun _ => drW (L ()) (0, 0)⟩], [fun _ => o () = 0 ∧ (L ()).length = n () ∧ n () ≤ 4096 ∧ bytesOk (L ())])
  | [.c .sn], [] => some (.a [.f .f32 fun _ => drSt [] (0, 0), .f .f32 fun _ => drSp [] (0, 0), .f .f32 fun _ => drFd [] (0, 0), .sl 0 (.l 0) (.x fun _ => drN [] (0, 0))], [some ⟨true, 3, .fl fun _ => drW [] (0, 0)⟩], [])
  | _, _ => none
def E6 : Env := fun g => envGetL [(54, ⟨false, s54, none⟩), (53, ⟨false, s53, none⟩)] g
theorem E6ok : EnvOk Tryz.prog E6 := envOk_cons ok54 (envOk_cons ok53 (envOk_nil _))
theorem ok6 : Ok Tryz.prog 6 (s6) := ok_of_wpaH (E := E6) mixed tts E6ok fn6 fun args H v H' o hs ho => by
  split at hs
  · rename_i o n L
    cases hs
    have hcb := ho.one
    refine ⟨_, HLe.refl _, ?_⟩
    cbv
    repeat' first
      | (refine alt_t (by assumption) ?_; cbv)
      | (refine alt_f (by assumption) ?_; cbv)
      | (refine alt_b (fun h => ?_) (fun h => ?_) <;> cbv)
      | (refine Br.mk (fun h => ?_) (fun h => ?_) <;> cbv)
      | (refine Ob.mk ?_ ?_; rotate_left; cbv)
      | (refine Lex.mk (by decide +kernel) ?_; cbv)
    all_goals (try simp only [Unit.unit, Int.ofNat_lt, Int.ofNat_le, BE.val, IE.val, NE.val, ltB_iff, ltB_no, leB_iff, leB_no, Int.toNat_natCast, Nat.zero_add, Nat.add_zero, Nat.mul_one, forced, beq_iff_eq, beq_eq_false_iff_ne, bne_iff_ne, bne_eq_false_iff_eq] at *)
    all_goals first | with_reducible rfl | exact hcb | exact ⟨by decide, by decide⟩ | decide | rfl
  · cases hs
    refine ⟨_, HLe.refl _, ?_⟩
    cbv
    repeat' first
      | (refine alt_t (by assumption) ?_; cbv)
      | (refine alt_f (by assumption) ?_; cbv)
      | (refine alt_b (fun h => ?_) (fun h => ?_) <;> cbv)
      | (refine Br.mk (fun h => ?_) (fun h => ?_) <;> cbv)
      | (refine Ob.mk ?_ ?_; rotate_left; cbv)
      | (refine Lex.mk (by decide +kernel) ?_; cbv)
    all_goals (try simp only [Unit.unit, Int.ofNat_lt, Int.ofNat_le, BE.val, IE.val, NE.val, ltB_iff, ltB_no, leB_iff, leB_no, Int.toNat_natCast, Nat.zero_add, Nat.add_zero, Nat.mul_one, forced, beq_iff_eq, beq_eq_false_iff_ne, bne_iff_ne, bne_eq_false_iff_eq] at *)
    all_goals first | with_reducible rfl | exact hcb | exact ⟨by decide, by decide⟩ | decide | rfl
  · cases hs
end Go.Proofs.YteifneielgnniaaGreatDoor.Sh
end
section
namespace Go.Proofs.YteifneielgnniaaGreatDoor.Sh
open Go Go.Proofs
/-- one contract or another -/
def orSpec (s1 s2 : Spec) : Spec := fun args H => match s1 args H with
  | some r => some r
  | none => s2 args H
theorem ok_or {P : Program} {g : Nat} {s1 s2 : Spec} (h1 : Ok P g s1) (h2 : Ok P g s2) : Ok P g (orSpec s1 s2) := by
  intro args H v H' o hs ho
  unfold orSpec at hs
  split at hs
  · rename_i r hr
    cases hs
    exact h1 args H v H' o hr ho
  · exact h2 args H v H' o hs ho
def s36n : Spec := hspec fun args H => match args, H with
  | [.a [.f .f32 st, .f .f32 sp, .f .f32 fd, .sn], .a [.f .f32 st', .f .f32 sp', .f .f32 fd', .sn]], [] => some (vB (eqW (st ()) (st' ()) && eqW (sp ()) (sp' ()) && eqW (fd ()) (fd' ())), [], [])
  | _, _ => none
def E36n : Env := fun g => envGetL [(58, ⟨true, s58, none⟩)] g
theorem E36nok : EnvOk Tryz.prog E36n := envOk_cons ok58 (envOk_nil _)
set_option maxRecDepth 100000 in
set_option maxHeartbeats 1000000 in
theorem ok36n : Ok Tryz.prog 10 s36n := ok_of_wpaH (E := E36n) mixed tts E36nok fn10 fun args H v H' o hs ho => by
  split at hs
  · rename_i st sp fd st' sp' fd'
    cases hs
    refine ⟨_, HLe.nil, ?_⟩
    cbv
    repeat' first
      | (refine Br.mk (fun h => ?_) (fun h => ?_) <;> cbv)
      | (refine Ob.mk ?_ ?_; rotate_left; cbv)
      | (refine Loop.mk 2 ?_; cbv)
      | (refine Gen.same ?_; cbv)
    all_goals (try simp only [Unit.unit, Int.ofNat_lt, Int.ofNat_le, BE.val, IE.val, NE.val, ltB_iff, ltB_no, leB_iff, leB_no, Int.toNat_natCast, Nat.zero_add, Nat.add_zero, Nat.mul_one, forced, beq_iff_eq, beq_eq_false_iff_ne, bne_iff_ne, bne_eq_false_iff_eq] at *)
    all_goals first | with_reducible rfl | (simp_all; done)
  · cases hs
theorem ok36c : Ok Tryz.prog 10 (orSpec s10 s36n) := ok_or ok10 ok36n
theorem fn21 : FnOk Tryz.prog 21 Tryz.f21 (bodyOf Tryz.f21) := ⟨Tryz.func21, rfl, by rfl⟩
def s21 : Spec := hspec fun args H => match args, H with
  | [.c (.f .f32 a), .c (.f .f32 b)], [] => some (vB (eqW (a ()) (b ())), [], [])
  | _, _ => none
def E21 : Env := fun g => envGetL [(58, ⟨true, s58, none⟩)] g
theorem E21ok : EnvOk Tryz.prog E21 := envOk_cons ok58 (envOk_nil _)
theorem ok21 : Ok Tryz.prog 21 (s21) := ok_of_wpaH (E := E21) mixed tts E21ok fn21 fun args H v H' o hs ho => by
  split at hs
  · rename_i a b
    cases hs
    refine ⟨_, HLe.nil, ?_⟩
    cbv
    repeat' first
      | (refine alt_t (by assumption) ?_; cbv)
      | (refine alt_f (by assumption) ?_; cbv)
      | (refine alt_b (fun h => ?_) (fun h => ?_) <;> cbv)
      | (refine Br.mk (fun h => ?_) (fun h => ?_) <;> cbv)
      | (refine Ob.mk ?_ ?_; rotate_left; cbv)
      | (refine Lex.mk (by kernel_rfl) ?_; cbv)
    all_goals (try simp only [Unit.unit, Int.ofNat_lt, Int.ofNat_le, BE.val, IE.val, NE.val, ltB_iff, ltB_no, leB_iff, leB_no, Int.toNat_natCast, Nat.zero_add, Nat.add_zero, Nat.mul_one, forced, beq_iff_eq, beq_eq_false_iff_ne, bne_iff_ne, bne_eq_false_iff_eq] at *)
    all_goals first | with_reducible rfl | rfl | grind
  · cases hs
end Go.Proofs.YteifneielgnniaaGreatDoor.Sh
end
section
namespace Go.Proofs.YteifneielgnniaaGreatDoor.Sh
open Go Go.Proofs
/-! ## what is drawn -/
theorem pk_nat {L : List Int} (h : bytesOk L) {k : Nat} (hk : 1 ≤ k) (q : Int × Int) : ∃ r : Nat, r < k ∧ pkV L (k : Int) q = (r : Int) := by
  have := pkV_bd h (k := (k : Int)) (by omega) q
  exact ⟨(pkV L (k : Int) q).toNat, by omega, by omega⟩
def fq (x : Int) (d : Nat) : Nat := fop .quo .f32 (floatOfInt .f32 x) d
/-- a speed: so many 64ths -/
def spd (m : Nat) : Nat := fq (m : Int) 1115684864
def allR (n : Nat) (p : Nat → Bool) : Bool := (List.range n).all p
theorem allR_at {n : Nat} {p : Nat → Bool} (h : allR n p = true) {i : Nat} (hi : i < n) : p i = true := List.all_eq_true.1 h i (List.mem_range.2 hi)
theorem d_stiff : allR 4 (fun r => isStiff (floatOfInt .f32 ([64, 256, 1000, 4096].getD r 0))) = true := by decide +kernel
theorem d_speed : allR 20 (fun r => fq (4 + (r : Int)) 1082130432 == spd (64 + 16 * r)) = true := by decide +kernel
theorem d_feed : allR 40 (fun r => isFeed (fq (r : Int) 1082130432)) = true := by decide +kernel
theorem d_spd : allR 400 (fun m => isSpd (spd (m + 50))) = true := by decide +kernel
theorem d_add : allR 400 (fun m => allR 9 fun r => fop .add .f32 (spd (m + 50)) (fq ((r : Int) - 3) 1115684864) == spd (m + 50 + r - 3)) = true := by decide +kernel
theorem d_len : allR 30 (fun r => isSpd (fq (2 + (r : Int)) 1073741824)) = true := by decide +kernel
theorem d_ten : allR 80 (fun r => isPlain (fq ((r : Int) - 8) 1082130432)) = true := by decide +kernel
theorem w4 {r : Nat} (h : r < 1000) (c : Int) (h1 : -1000 ≤ c) (h2 : c ≤ 1000) : IntKind.wrap .i64 (c + (r : Int)) = c + (r : Int) := wrap64 (by omega) (by omega)
theorem w5 {r : Nat} (h : r < 1000) (c : Int) (h1 : -1000 ≤ c) (h2 : c ≤ 1000) : IntKind.wrap .i64 ((r : Int) - c) = (r : Int) - c := wrap64 (by omega) (by omega)
section
variable {L : List Int} (h : bytesOk L) (q : Int × Int)
include h
theorem dr_stiff : isStiff (drSt L q) = true := by
  obtain ⟨r, h1, h2⟩ := pk_nat h (k := 4) (by decide) q
  have e : pkV L 4 q = (r : Int) := h2
  unfold drSt
  rw [e, Int.toNat_natCast]
  exact allR_at d_stiff h1
theorem dr_sp : ∃ m, 50 ≤ m + 0 ∧ drSp L q = spd m ∧ 64 ≤ m ∧ m ≤ 368 := by
  obtain ⟨r, h1, h2⟩ := pk_nat h (k := 20) (by decide) (drQ1 L q)
  have e : pkV L 20 (drQ1 L q) = (r : Int) := h2
  refine ⟨64 + 16 * r, by omega, ?_, by omega, by omega⟩
  unfold drSp
  rw [e, w4 (by omega) 4 (by decide) (by decide)]
  exact beq_iff_eq.1 (allR_at d_speed h1)
theorem spd_ok {m : Nat} (h1 : 50 ≤ m) (h2 : m < 450) : isSpd (spd m) = true := by
  have := allR_at d_spd (i := m - 50) (by omega)
  rw [show m - 50 + 50 = m by omega] at this
  exact this
theorem dr_feed : isFeed (drFd L q) = true := by
  obtain ⟨r, h1, h2⟩ := pk_nat h (k := 40) (by decide) (drQ2 L q)
  have e : pkV L 40 (drQ2 L q) = (r : Int) := h2
  unfold drFd
  rw [e]
  exact allR_at d_feed h1
theorem sp_len : isSpd (spLen L q) = true := by
  obtain ⟨r, h1, h2⟩ := pk_nat h (k := 30) (by decide) (spQb L q)
  have e : pkV L 30 (spQb L q) = (r : Int) := h2
  unfold spLen
  rw [e, w4 (by omega) 2 (by decide) (by decide)]
  exact allR_at d_len h1
/-- a tension that is drawn -/
theorem sp_tenr : ∃ r : Nat, r < 80 ∧ spTen L q = fq ((r : Int) - 8) 1082130432 := by
  obtain ⟨r, h1, h2⟩ := pk_nat h (k := 80) (by decide) (spQc L q)
  have e : pkV L 80 (spQc L q) = (r : Int) := h2
  refine ⟨r, h1, ?_⟩
  unfold spTen
  rw [e, w5 (by omega) 8 (by decide) (by decide)]
  rfl
theorem sp_ten : isPlain (spTen L q) = true := by
  obtain ⟨r, h1, e⟩ := sp_tenr h q
  rw [e]
  exact allR_at d_ten h1
theorem sp_v {m : Nat} (h1 : 50 ≤ m) (h2 : m < 450) : ∃ m', spV L q (spd m) = spd m' ∧ m ≤ m' + 3 ∧ m' ≤ m + 5 := by
  unfold spV
  split
  · obtain ⟨r, h3, h4⟩ := pk_nat h (k := 9) (by decide) (spQa L q)
    have e : pkV L 9 (spQa L q) = (r : Int) := h4
    rw [e, w5 (by omega) 3 (by decide) (by decide)]
    have := allR_at (allR_at d_add (i := m - 50) (by omega)) h3
    rw [show m - 50 + 50 = m by omega] at this
    exact ⟨m + r - 3, beq_iff_eq.1 this, by omega, by omega⟩
  · exact ⟨m, rfl, by omega, by omega⟩
theorem dr_i : ∀ i, i ≤ 4 → ∃ m, (drI L q i).2 = spd m ∧ 64 ≤ m + 3 * i ∧ m ≤ 368 + 5 * i
  | 0, _ => by
    obtain ⟨m, _, h1, h2, h3⟩ := dr_sp h q
    exact ⟨m, h1, by omega, by omega⟩
  | i + 1, hi => by
    obtain ⟨m, h1, h2, h3⟩ := dr_i i (by omega)
    obtain ⟨m', h4, h5, h6⟩ := sp_v h (drI L q i).1 (m := m) (by omega) (by omega)
    refine ⟨m', ?_, by omega, by omega⟩
    show spV L (drI L q i).1 (drI L q i).2 = _
    rw [h1]; exact h4
end
theorem getD_app_l {l r : List Nat} {j : Nat} (h : j < l.length) : (l ++ r).getD j 0 = l.getD j 0 := by
  rw [List.getD_eq_getElem?_getD, List.getD_eq_getElem?_getD, List.getElem?_append_left h]
theorem getD_app_r {l r : List Nat} {j : Nat} (h : l.length ≤ j) : (l ++ r).getD j 0 = r.getD (j - l.length) 0 := by
  rw [List.getD_eq_getElem?_getD, List.getD_eq_getElem?_getD, List.getElem?_append_right h]
/-- the cells of a span that is drawn -/
theorem drL_at (L : List Int) (q : Int × Int) : ∀ {i n : Nat}, i < n → (drL L q n).getD (i * 3) 0 = spLen L (drI L q i).1 ∧ (drL L q n).getD (i * 3 + 1) 0 = (drI L q (i + 1)).2 ∧ (drL L q n).getD (i * 3 + 2) 0 = spTen L (drI L q i).1
  | i, n + 1, h => by
    have hl := drL_len L q n
    by_cases e : i = n
    · subst e
      have key : ∀ c, (drL L q (i + 1)).getD (i * 3 + c) 0 = [spLen L (drI L q i).1, (drI L q (i + 1)).2, spTen L (drI L q i).1].getD c 0 := by
        intro c
        show (drL L q i ++ [spLen L (drI L q i).1, (drI L q (i + 1)).2, spTen L (drI L q i).1]).getD (i * 3 + c) 0 = _
        rw [getD_app_r (by omega), hl, Nat.add_sub_cancel_left]
      exact ⟨key 0, key 1, key 2⟩
    · have := drL_at L q (i := i) (n := n) (by omega)
      have key : ∀ j, j < n * 3 → (drL L q (n + 1)).getD j 0 = (drL L q n).getD j 0 := by
        intro j hj
        show (drL L q n ++ _).getD j 0 = _
        rw [getD_app_l (by omega)]
      rw [key _ (by omega), key _ (by omega), key _ (by omega)]
      exact this
/-- what the speeds, tensions of drawn webs are -/
structure Drawn (sp : Nat) (l : List Nat) (n : Nat) : Prop where
  speed : ∀ i, i < n → ∃ m, 50 ≤ m ∧ m < 450 ∧ l.getD (i * 3 + 1) 0 = spd m
  ten : ∀ i, i < n → ∃ r : Nat, r < 80 ∧ l.getD (i * 3 + 2) 0 = fq ((r : Int) - 8) 1082130432
/-- A WEB THAT IS DRAWN IS VALID -/
theorem dr_ok {L : List Int} (h : bytesOk L) (q : Int × Int) : webOk (drSt L q) (drSp L q) (drFd L q) (drW L q) (drN L q) = true := by
  have hN := drN_bd h q
  unfold webOk
  obtain ⟨m, _, h1, h2, h3⟩ := dr_sp h q
  rw [dr_stiff h q, dr_feed h q, h1, spd_ok h (by omega) (by omega), decide_eq_true ⟨hN.1, Nat.le_trans hN.2.1 (by decide)⟩, allI_all fun i hi => ?_]
  · rfl
  · unfold spanOk drW
    obtain ⟨e1, e2, e3⟩ := drL_at L q hi
    obtain ⟨m, h4, h5, h6⟩ := dr_i h q (i + 1) (by omega)
    rw [e1, e2, e3, h4, sp_len h, spd_ok h (by omega) (by omega), sp_ten h]
    rfl
theorem dr_len {L : List Int} (q : Int × Int) : (drW L q).length = 3 * drN L q := by unfold drW; rw [drL_len]; omega
end Go.Proofs.YteifneielgnniaaGreatDoor.Sh
end
