/- What the paper in the spans of this seat compute, each shown once. No condition. -/
import Derived.Test.YthkjlbggipocdaaVk
set_option linter.unusedVariables false
set_option linter.unusedSimpArgs false
set_option linter.unusedSectionVars false
namespace Go.Proofs.Ythkjlbggipocdaa.Sh
open Go Go.Proofs
def sumG (g : Nat → Nat) : Nat → Nat
  | 0 => 0
  | i + 1 => if i = 0 then g 0 else fop .add .f32 (sumG g i) (g i)
theorem sumG_ext {g h : Nat → Nat} : ∀ {n : Nat}, (∀ i, i < n → g i = h i) → sumG g n = sumG h n
  | 0, _ => rfl
  | n + 1, e => by
    unfold sumG
    split
    · exact e 0 (by omega)
    · rw [sumG_ext (n := n) (fun i hi => e i (by omega)), e n (by omega)]
theorem paperS_sum (st : Nat) (l : List Nat) : ∀ n, paperS st l n = sumG (paperI st l) n
  | 0 => rfl
  | n + 1 => by unfold paperS sumG; rw [paperS_sum st l n]
def paperL (st : Nat) (l : List Nat) (i : Nat) : List Nat := (List.range i).map (paperI st l)
theorem paperL_len (st : Nat) (l : List Nat) (i : Nat) : (paperL st l i).length = i := by simp [paperL]
theorem paperL_step (st : Nat) (l : List Nat) (i : Nat) : paperL st l i ++ [paperI st l i] = paperL st l (i + 1) := by simp [paperL, List.range_succ]
theorem paperL_sum (st : Nat) (l : List Nat) (n : Nat) : sumG (fun i => (paperL st l n).getD i 0) n = paperS st l n := by
  rw [paperS_sum]
  exact sumG_ext fun i hi => by simp [paperL, List.getD_eq_getElem?_getD, hi]
def isFin (a : Nat) : Bool := fcmp .eql .f32 (fop .sub .f32 a a) 0
theorem paper_no {st sp fd : Nat} {l : List Nat} {n : Nat} (h : webOk st sp fd l n = false) : paperW st sp fd l n = (0, 1) := by simp [paperW, h]
theorem paper_4 {st sp fd : Nat} {l : List Nat} {n : Nat} (h : webOk st sp fd l n = true) (h2 : isFin (paperS st l n) = false) : paperW st sp fd l n = (0, 4) := by
  unfold isFin at h2; unfold paperW; rw [if_pos h, h2]; rfl
theorem paper_0 {st sp fd : Nat} {l : List Nat} {n : Nat} (h : webOk st sp fd l n = true) (h2 : isFin (paperS st l n) = true) : paperW st sp fd l n = (paperS st l n, 0) := by
  unfold isFin at h2; unfold paperW; rw [if_pos h, h2]; rfl
theorem sum_1 {g : Nat → Nat} {i : Nat} (h : i = 0) : g i = sumG g (i + 1) := by subst h; rfl
theorem sum_2 {g : Nat → Nat} {i : Nat} (h : i ≠ 0) : fop .add .f32 (sumG g i) (g i) = sumG g (i + 1) := by unfold sumG; rw [if_neg h]; cases i <;> first | rfl | (exact absurd rfl h)
theorem fn95 : FnOk Try.prog 95 Try.f95 (bodyOf Try.f95) := ⟨Try.func95, rfl, by rfl⟩
def s95 : Spec := hspec fun args H => match args, H with
  | [.c (.f .f32 a)], [] => some (vB (isFin (a ())), [], [])
  | _, _ => none
theorem ok95 : Ok Try.prog 95 (s95) := ok_of_wpaH (E := envGetL []) mixed tts (envOk_nil _) fn95 fun args H v H' o hs ho => by
  split at hs
  · rename_i a
    cases hs
    refine ⟨_, HLe.nil, ?_⟩
    cbv
    repeat' first
      | (refine alt_t (by assumption) ?_; cbv)
      | (refine alt_f (by assumption) ?_; cbv)
      | (refine alt_b (fun h => ?_) (fun h => ?_) <;> cbv)
      | (refine Br.mk (fun h => ?_) (fun h => ?_) <;> cbv)
      | (refine Ob.mk ?_ ?_; rotate_left; cbv)
      | (refine Lex.mk (by kernel_rfl) ?_; cbv)
    all_goals (try simp only [Unit.unit, Int.ofNat_lt, Int.ofNat_le, BE.val, IE.val, NE.val, ltB_iff, ltB_no, leB_iff, leB_no, Int.toNat_natCast, Nat.zero_add, Nat.add_zero, Nat.mul_one, forced, beq_iff_eq, beq_eq_false_iff_ne, bne_iff_ne, bne_eq_false_iff_eq] at *)
    all_goals first | with_reducible rfl | (simp_all [isFin]; done) | grind [isFin]
  · cases hs
theorem fn96 : FnOk Try.prog 96 Try.f96 (bodyOf Try.f96) := ⟨Try.func96, rfl, by rfl⟩
def s96 : Spec := hspec fun args H => match args, H with
  | [.c (.f .f32 a)], [] => some (vB (isFin (a ())), [], [])
  | _, _ => none
theorem ok96 : Ok Try.prog 96 (s96) := ok_of_wpaH (E := envGetL []) mixed tts (envOk_nil _) fn96 fun args H v H' o hs ho => by
  split at hs
  · rename_i a
    cases hs
    refine ⟨_, HLe.nil, ?_⟩
    cbv
    repeat' first
      | (refine alt_t (by assumption) ?_; cbv)
      | (refine alt_f (by assumption) ?_; cbv)
      | (refine alt_b (fun h => ?_) (fun h => ?_) <;> cbv)
      | (refine Br.mk (fun h => ?_) (fun h => ?_) <;> cbv)
      | (refine Ob.mk ?_ ?_; rotate_left; cbv)
      | (refine Lex.mk (by kernel_rfl) ?_; cbv)
    all_goals (try simp only [Unit.unit, Int.ofNat_lt, Int.ofNat_le, BE.val, IE.val, NE.val, ltB_iff, ltB_no, leB_iff, leB_no, Int.toNat_natCast, Nat.zero_add, Nat.add_zero, Nat.mul_one, forced, beq_iff_eq, beq_eq_false_iff_ne, bne_iff_ne, bne_eq_false_iff_eq] at *)
    all_goals first | with_reducible rfl | (simp_all [isFin]; done) | grind [isFin]
  · cases hs
theorem fn94 : FnOk Try.prog 94 Try.f94 (bodyOf Try.f94) := ⟨Try.func94, rfl, by rfl⟩
def s94 : Spec := hspec fun args H => match args, H with
  | [.c (.sl 0 (.x o) (.x n))], [some ⟨false, 0, x⟩] => match x.toFl with
    | some l => some (F (sumG (fun i => (l ()).getD (o () + i) 0) (n ())), [none], [fun _ => o () + n () ≤ (l ()).length ∧ n () ≤ 1048576])
    | _ => none
  | _, _ => none
set_option maxRecDepth 100000 in
set_option maxHeartbeats 1000000 in
theorem ok94 : Ok Try.prog 94 (s94) := ok_of_wpaH (E := envGetL []) mixed tts (envOk_nil _) fn94 fun args H v H' o hs ho => by
  split at hs
  · rename_i o n x
    split at hs
    · rename_i l hl
      cases hs
      obtain ⟨hlen, hbig⟩ := ho.one
      try simp only [Unit.unit] at hlen hbig
      refine ⟨_, HLe.cons (BLe.fl hl) HLe.nil, ?_⟩
      cbv
      refine loop_rule (α := Unit → Nat) (c := ⟨tt, (envGetL []), 1⟩)
          (fun i => fr 21 [(3, .c (.f .f32 fun _ => sumG (fun j => (l ()).getD (o () + j) 0) (i ()))), (6, .c (.sl 0 (.x o) (.x n))), (7, .c (.i .i64 (.x fun _ => n ()))), (8, .c (.i .i64 (.x fun _ => i ())))]) (fun i => [some ⟨false, 0, .fl l⟩])
          (fun i => i () ≤ n ()) (fun i => n () - i ()) (fun _ => n () + 1) ?_ ?_
      · refine .mk (fun _ => 0) (Nat.zero_le _) (by dsimp only; omega) ?_
        cbv
        repeat' (refine Ob.mk ?_ ?_; rotate_left)
        all_goals (try simp only [Unit.unit, Int.ofNat_lt, Int.ofNat_le, BE.val, IE.val, NE.val, ltB_iff, ltB_no, leB_iff, leB_no, Int.toNat_natCast, Nat.zero_add, Nat.add_zero, Nat.mul_one, forced, beq_iff_eq, beq_eq_false_iff_ne, bne_iff_ne, bne_eq_false_iff_eq] at *)
        all_goals first | with_reducible rfl | trivial | rfl
      · intro i hi
        cbv
        repeat' first
          | (refine alt_t (by assumption) ?_; cbv)
          | (refine alt_f (by assumption) ?_; cbv)
          | (refine alt_b (fun h => ?_) (fun h => ?_) <;> cbv)
          | (refine Br.mk (fun h => ?_) (fun h => ?_) <;> cbv)
          | (refine Ob.mk ?_ ?_; rotate_left; cbv)
          | (refine Lex.mk (by kernel_rfl) ?_; cbv)
          | (refine Next.mk (fun _ => i () + 1) ?_ ?_ ?_)
        all_goals (try simp only [Unit.unit, Int.ofNat_lt, Int.ofNat_le, BE.val, IE.val, NE.val, ltB_iff, ltB_no, leB_iff, leB_no, Int.toNat_natCast, Nat.zero_add, Nat.add_zero, Nat.mul_one, forced, beq_iff_eq, beq_eq_false_iff_ne, bne_iff_ne, bne_eq_false_iff_eq] at *)
        all_goals (try simp only [Nat.mul_one] at *)
        all_goals first | with_reducible rfl | omega | exact wrap64_nat (by omega) | (refine ⟨Int.natCast_nonneg _, ?_⟩; omega) | exact sum_1 (g := (fun i => (l ⟨⟩).getD (o ⟨⟩ + i) 0)) (by omega) | exact sum_1 (g := (fun i => (l ⟨⟩).getD (o ⟨⟩ + i) 0)) (Int.ofNat_eq_zero.1 (by assumption)) | exact sum_2 (g := (fun i => (l ⟨⟩).getD (o ⟨⟩ + i) 0)) (by omega) | exact sum_2 (g := (fun i => (l ⟨⟩).getD (o ⟨⟩ + i) 0)) (fun e => absurd (Int.ofNat_eq_zero.2 e) (by assumption)) | (rw [show i ⟨⟩ = n ⟨⟩ by omega]; done)
    · cases hs
  · cases hs
theorem fn34 : FnOk Try.prog 34 Try.f34 (bodyOf Try.f34) := ⟨Try.func34, rfl, by rfl⟩
def s34 : Spec := hspec fun args H => match args, H with
  | [.a [.f .f32 st, .f .f32 sp, .f .f32 fd, .sl 0 (.x o) (.x n)]], [some ⟨false, 0, x⟩] => match x.toFl with
    | some l => some (.t [F (paperW (st ()) (sp ()) (fd ()) (l ()) (n ())).1, vI (paperW (st ()) (sp ()) (fd ()) (l ()) (n ())).2], [none], [fun _ => o () = 0 ∧ (l ()).length = 3 * n () ∧ n () ≤ 1048576])
    | _ => none
  | _, _ => none
def E34 : Env := fun g => envGetL [(86, ⟨true, s86, none⟩), (96, ⟨true, s96, none⟩)] g
theorem E34ok : EnvOk Try.prog E34 := envOk_cons ok86 (envOk_cons ok96 (envOk_nil _))
set_option maxRecDepth 100000 in
set_option maxHeartbeats 2000000 in
theorem ok34 : Ok Try.prog 34 (s34) := ok_of_wpaH (E := E34) mixed tts E34ok fn34 fun args H v H' o hs ho => by
  split at hs
  · rename_i st sp fd o n x
    split at hs
    · rename_i l hl
      cases hs
      obtain ⟨ho0, hlen, hbig⟩ := ho.one
      try simp only [Unit.unit] at ho0 hlen hbig
      refine ⟨_, HLe.cons (BLe.fl hl) HLe.nil, ?_⟩
      cbv
      refine Ob.mk ⟨ho0, hlen, hbig⟩ ?_
      cbv
      refine Br.mk (fun hv => ?_) (fun hv => ?_)
      · have hp := paper_no (not_t hv)
        cbv
        repeat' (refine Ob.mk ?_ ?_; rotate_left; cbv)
        all_goals (try simp only [Unit.unit, Int.ofNat_lt, Int.ofNat_le, BE.val, IE.val, NE.val, ltB_iff, ltB_no, leB_iff, leB_no, Int.toNat_natCast, Nat.zero_add, Nat.add_zero, Nat.mul_one, forced, beq_iff_eq, beq_eq_false_iff_ne, bne_iff_ne, bne_eq_false_iff_eq] at *)
        all_goals first | with_reducible rfl | (rw [hp]; done)
      have hv' : webOk (st ⟨⟩) (sp ⟨⟩) (fd ⟨⟩) (l ⟨⟩) (n ⟨⟩) = true := not_f hv
      have hp4 := paper_4 hv'
      have hp0 := paper_0 hv'
      clear hv
      cbv
      refine loop_rule (α := Unit → Nat) (c := ⟨tt, E34, 1⟩)
          (fun i => fr 43 [(1, .c (.p 1 (.l 0))), (4, .c (.f .f32 fun _ => paperS (st ()) (l ()) (i ()))), (5, .c (.i .i64 (.x fun _ => i ())))]) (fun i => [some ⟨false, 0, .fl l⟩, some ⟨true, 0, .lit [.f .f32 st, .f .f32 sp, .f .f32 fd, .sl 0 (.x o) (.x n)]⟩])
          (fun i => i () ≤ n ()) (fun i => n () - i ()) (fun _ => n () + 1) ?_ ?_
      · refine .mk (fun _ => 0) (Nat.zero_le _) (by dsimp only; omega) ?_
        cbv
        repeat' (refine Ob.mk ?_ ?_; rotate_left)
        all_goals (try simp only [Unit.unit, Int.ofNat_lt, Int.ofNat_le, BE.val, IE.val, NE.val, ltB_iff, ltB_no, leB_iff, leB_no, Int.toNat_natCast, Nat.zero_add, Nat.add_zero, Nat.mul_one, forced, beq_iff_eq, beq_eq_false_iff_ne, bne_iff_ne, bne_eq_false_iff_eq] at *)
        all_goals first | with_reducible rfl | trivial | rfl
      · intro i hi
        cbv
        repeat' first
          | (refine alt_t (by assumption) ?_; cbv)
          | (refine alt_f (by assumption) ?_; cbv)
          | (refine alt_b (fun h => ?_) (fun h => ?_) <;> cbv)
          | (refine Br.mk (fun h => ?_) (fun h => ?_) <;> cbv)
          | (refine Ob.mk ?_ ?_; rotate_left; cbv)
          | (refine Lex.mk (by kernel_rfl) ?_; cbv)
          | (refine Next.mk (fun _ => i () + 1) ?_ ?_ ?_)
        all_goals (try simp only [Unit.unit, Int.ofNat_lt, Int.ofNat_le, BE.val, IE.val, NE.val, ltB_iff, ltB_no, leB_iff, leB_no, Int.toNat_natCast, Nat.zero_add, Nat.add_zero, Nat.mul_one, forced, beq_iff_eq, beq_eq_false_iff_ne, bne_iff_ne, bne_eq_false_iff_eq] at *)
        all_goals (try simp only [ho0, Nat.zero_add] at *)
        all_goals first | with_reducible rfl | omega | exact wrap64_nat (by omega) | (refine ⟨Int.natCast_nonneg _, ?_⟩; omega) | (have e := Int.ofNat_eq_zero.1 (by assumption : ((i ⟨⟩ : Nat) : Int) = 0); rw [e]; rfl) | (have e : i ⟨⟩ ≠ 0 := fun e => absurd (Int.ofNat_eq_zero.2 e) (by assumption); show _ = paperS _ _ (i ⟨⟩ + 1); unfold paperS; rw [if_neg e]; cases hh : i ⟨⟩ <;> first | rfl | (exact absurd hh e)) | (rw [hp4 (not_t (by assumption))]; done) | (rw [hp0 (not_f (by assumption))]; done) | (have e : i ⟨⟩ = n ⟨⟩ := (by omega); have hq : (!isFin (paperS (st ⟨⟩) (l ⟨⟩) (i ⟨⟩))) = true := (by assumption); rw [e] at hq; rw [hp4 (not_t hq)]; done) | (have e : i ⟨⟩ = n ⟨⟩ := (by omega); have hq : (!isFin (paperS (st ⟨⟩) (l ⟨⟩) (i ⟨⟩))) = false := (by assumption); rw [e] at hq; (try rw [e]); rw [hp0 (not_f hq)]; done)
    · cases hs
  · cases hs
theorem fn33 : FnOk Try.prog 33 Try.f33 (bodyOf Try.f33) := ⟨Try.func33, rfl, by rfl⟩
def s33 : Spec := hspec fun args H => match args, H with
  | [.a [.f .f32 st, .f .f32 sp, .f .f32 fd, .sl 0 (.x o) (.x n)]], [some ⟨false, 0, x⟩] => match x.toFl with
    | some l => some (.t [F (paperW (st ()) (sp ()) (fd ()) (l ()) (n ())).1, vI (paperW (st ()) (sp ()) (fd ()) (l ()) (n ())).2], [none], [fun _ => o () = 0 ∧ (l ()).length = 3 * n () ∧ n () ≤ 1048576])
    | _ => none
  | _, _ => none
def E33 : Env := fun g => envGetL [(51, ⟨true, s51, none⟩), (94, ⟨true, s94, none⟩), (95, ⟨true, s95, none⟩)] g
theorem E33ok : EnvOk Try.prog E33 := envOk_cons ok51 (envOk_cons ok94 (envOk_cons ok95 (envOk_nil _)))
set_option maxRecDepth 100000 in
set_option maxHeartbeats 2000000 in
theorem ok33 : Ok Try.prog 33 (s33) := ok_of_wpaH (E := E33) mixed tts E33ok fn33 fun args H v H' o hs ho => by
  split at hs
  · rename_i st sp fd o n x
    split at hs
    · rename_i l hl
      cases hs
      obtain ⟨ho0, hlen, hbig⟩ := ho.one
      try simp only [Unit.unit] at ho0 hlen hbig
      refine ⟨_, HLe.cons (BLe.fl hl) HLe.nil, ?_⟩
      cbv
      refine Ob.mk ⟨ho0, hlen, hbig⟩ ?_
      cbv
      refine Br.mk (fun hv => ?_) (fun hv => ?_)
      · have hp := paper_no (not_t hv)
        cbv
        repeat' (refine Ob.mk ?_ ?_; rotate_left; cbv)
        all_goals (try simp only [Unit.unit, Int.ofNat_lt, Int.ofNat_le, BE.val, IE.val, NE.val, ltB_iff, ltB_no, leB_iff, leB_no, Int.toNat_natCast, Nat.zero_add, Nat.add_zero, Nat.mul_one, forced, beq_iff_eq, beq_eq_false_iff_ne, bne_iff_ne, bne_eq_false_iff_eq] at *)
        all_goals first | with_reducible rfl | (rw [hp]; done)
      have hv' : webOk (st ⟨⟩) (sp ⟨⟩) (fd ⟨⟩) (l ⟨⟩) (n ⟨⟩) = true := not_f hv
      have hp4 := paper_4 hv'
      have hp0 := paper_0 hv'
      clear hv
      cbv
      refine loop_rule (α := Unit → Nat) (c := ⟨tt, E33, 1⟩)
          (fun i => fr 38 [(1, .c (.p 1 (.l 0))), (4, .c (.sl 2 (.l 0) (.x i))), (13, .c (.sl 0 (.x o) (.x n))), (14, .c (.i .i64 (.x fun _ => n ()))), (15, .c (.i .i64 (.x fun _ => i ())))]) (fun i => [some ⟨false, 0, .fl l⟩, some ⟨true, 0, .lit [.f .f32 st, .f .f32 sp, .f .f32 fd, .sl 0 (.x o) (.x n)]⟩, some ⟨true, 1, .fl fun _ => paperL (st ()) (l ()) (i ())⟩])
          (fun i => i () ≤ n ()) (fun i => n () - i ()) (fun _ => n () + 1) ?_ ?_
      · refine .mk (fun _ => 0) (Nat.zero_le _) (by dsimp only; omega) ?_
        cbv
        repeat' (refine Ob.mk ?_ ?_; rotate_left)
        all_goals (try simp only [Unit.unit, Int.ofNat_lt, Int.ofNat_le, BE.val, IE.val, NE.val, ltB_iff, ltB_no, leB_iff, leB_no, Int.toNat_natCast, Nat.zero_add, Nat.add_zero, Nat.mul_one, forced, beq_iff_eq, beq_eq_false_iff_ne, bne_iff_ne, bne_eq_false_iff_eq] at *)
        all_goals first | with_reducible rfl | trivial | rfl
      · intro i hi
        have hpl := paperL_len (st ⟨⟩) (l ⟨⟩) (i ⟨⟩)
        have hps := paperL_sum (st ⟨⟩) (l ⟨⟩) (n ⟨⟩)
        cbv
        repeat' first
          | (refine alt_t (by assumption) ?_; cbv)
          | (refine alt_f (by assumption) ?_; cbv)
          | (refine alt_b (fun h => ?_) (fun h => ?_) <;> cbv)
          | (refine Br.mk (fun h => ?_) (fun h => ?_) <;> cbv)
          | (refine Ob.mk ?_ ?_; rotate_left; cbv)
          | (refine Lex.mk (by kernel_rfl) ?_; cbv)
          | (refine Next.ren [1, 5] (fun _ => i () + 1) ?_ ?_ ?_)
        all_goals (try simp only [Unit.unit, Int.ofNat_lt, Int.ofNat_le, BE.val, IE.val, NE.val, ltB_iff, ltB_no, leB_iff, leB_no, Int.toNat_natCast, Nat.zero_add, Nat.add_zero, Nat.mul_one, forced, beq_iff_eq, beq_eq_false_iff_ne, bne_iff_ne, bne_eq_false_iff_eq] at *)
        all_goals (try simp only [ho0, Nat.zero_add, hpl, List.length_cons, List.length_nil, paperL_sum] at *)
        all_goals first | with_reducible rfl | omega | exact wrap64_nat (by omega) | (refine ⟨Int.natCast_nonneg _, ?_⟩; omega) | exact paperL_step _ _ _ | exact ⟨by omega, by omega⟩ | (rw [hp4 (not_t (by assumption))]; done) | (rw [hp0 (not_f (by assumption))]; done) | (have e : i ⟨⟩ = n ⟨⟩ := (by omega); have hq : (!isFin (paperS (st ⟨⟩) (l ⟨⟩) (i ⟨⟩))) = true := (by assumption); rw [e] at hq; rw [hp4 (not_t hq)]; done) | (have e : i ⟨⟩ = n ⟨⟩ := (by omega); have hq : (!isFin (paperS (st ⟨⟩) (l ⟨⟩) (i ⟨⟩))) = false := (by assumption); rw [e] at hq; (try rw [e]); rw [hp0 (not_f hq)]; done)
    · cases hs
  · cases hs
end Go.Proofs.Ythkjlbggipocdaa.Sh
