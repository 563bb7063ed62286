/- What the tightest span of this seat compute, each shown once. No condition. -/
import Derived.Test.YthkjlbggipocdaaVd
import Derived.Test.YthkjlbggipocdaaVe
set_option linter.unusedVariables false
set_option linter.unusedSimpArgs false
set_option linter.unusedSectionVars false
namespace Go.Proofs.Ythkjlbggipocdaa.Sh
open Go Go.Proofs
theorem fn98 : FnOk Try.prog 98 Try.f98 (bodyOf Try.f98) := ⟨Try.func98, rfl, by rfl⟩
def s98 : Spec := hspec fun args H => match args, H with
  | [.c (.p 0 (.l 0))], [some ⟨false, 0, .lit [.f .f32 st, .f .f32 sp, .f .f32 fd, .sl 1 (.x o) (.x n)]⟩, some ⟨false, 0, x⟩] => match x.toFl with
    | some l => some (vI ((bestT (l ()) (n ()) : Nat) : Int), [none, none], [fun _ => o () = 0 ∧ (l ()).length = 3 * n () ∧ n () ≤ 1048576, fun _ => 1 ≤ n ()])
    | _ => none
  | _, _ => none
set_option maxRecDepth 100000 in
set_option maxHeartbeats 1000000 in
theorem ok98 : Ok Try.prog 98 (s98) := ok_of_wpaH (E := envGetL []) mixed tts (envOk_nil _) fn98 fun args H v H' o hs ho => by
  split at hs
  · rename_i st sp fd o n x
    split at hs
    · rename_i l hl
      cases hs
      obtain ⟨⟨ho0, hlen, hbig⟩, hx0⟩ := ho.two
      try simp only [Unit.unit] at ho0 hlen hbig hx0
      refine ⟨_, HLe.cons (BLe.refl _) (HLe.cons (BLe.fl hl) HLe.nil), ?_⟩
      cbv
      refine loop_rule (α := Unit → Nat) (c := ⟨tt, (envGetL []), 2⟩)
          (fun i => fr 33 [(0, .c (.p 0 (.l 0))), (3, .c (.i .i64 (.x fun _ => ((bestT (l ()) (i ()) : Nat) : Int)))), (4, .c (.i .i64 (.x fun _ => i ())))]) (fun i => [some ⟨false, 0, .lit [.f .f32 st, .f .f32 sp, .f .f32 fd, .sl 1 (.x o) (.x n)]⟩, some ⟨false, 0, .fl l⟩])
          (fun i => 1 ≤ i () ∧ i () ≤ n ()) (fun i => n () - i ()) (fun _ => n () + 1) ?_ ?_
      · refine .mk (fun _ => 1) ⟨Nat.le_refl _, hx0⟩ (by dsimp only; omega) ?_
        cbv
        repeat' (refine Ob.mk ?_ ?_; rotate_left)
        all_goals (try simp only [Unit.unit, Int.ofNat_lt, Int.ofNat_le, BE.val, IE.val, NE.val, ltB_iff, ltB_no, leB_iff, leB_no, Int.toNat_natCast, Nat.zero_add, Nat.add_zero, Nat.mul_one, forced, beq_iff_eq, beq_eq_false_iff_ne, bne_iff_ne, bne_eq_false_iff_eq] at *)
        all_goals first | with_reducible rfl | trivial | (rw [bestT_one]; rfl) | rfl
      · intro i hi
        cbv
        repeat' first
          | (refine alt_t (by assumption) ?_; cbv)
          | (refine alt_f (by assumption) ?_; cbv)
          | (refine alt_b (fun h => ?_) (fun h => ?_) <;> cbv)
          | (refine Br.mk (fun h => ?_) (fun h => ?_) <;> cbv)
          | (refine Ob.mk ?_ ?_; rotate_left; cbv)
          | (refine Lex.mk (by kernel_rfl) ?_; cbv)
          | (refine Next.mk (fun _ => i () + 1) ?_ ?_ ?_)
        all_goals (try simp only [Unit.unit, Int.ofNat_lt, Int.ofNat_le, BE.val, IE.val, NE.val, ltB_iff, ltB_no, leB_iff, leB_no, Int.toNat_natCast, Nat.zero_add, Nat.add_zero, Nat.mul_one, forced, beq_iff_eq, beq_eq_false_iff_ne, bne_iff_ne, bne_eq_false_iff_eq] at *)
        all_goals (try simp only [ho0, Nat.zero_add] at *)
        all_goals first | with_reducible rfl | omega | exact wrap64_nat (by omega) | (refine ⟨Int.natCast_nonneg _, ?_⟩; omega) | (rw [show i ⟨⟩ = n ⟨⟩ by omega]; done) | (have hb := bestT_lt (l ⟨⟩) (k := i ⟨⟩) (n := n ⟨⟩) (by omega) (by omega); first | omega | (refine ⟨Int.natCast_nonneg _, ?_⟩; omega)) | (unfold bestT; simp_all; done) | grind [bestT]
    · cases hs
  · cases hs
theorem fn39 : FnOk Try.prog 39 Try.f39 (bodyOf Try.f39) := ⟨Try.func39, rfl, by rfl⟩
def s39 : Spec := hspec fun args H => match args, H with
  | [.a [.f .f32 st, .f .f32 sp, .f .f32 fd, .sl 0 (.x o) (.x n)]], [some ⟨false, 0, x⟩] => match x.toFl with
    | some l => some (.t [vI (tightW (st ()) (sp ()) (fd ()) (l ()) (n ())).1, F (tightW (st ()) (sp ()) (fd ()) (l ()) (n ())).2.1, vI (tightW (st ()) (sp ()) (fd ()) (l ()) (n ())).2.2], [none], [fun _ => o () = 0 ∧ (l ()).length = 3 * n () ∧ n () ≤ 1048576])
    | _ => none
  | _, _ => none
def E39 : Env := fun g => envGetL [(86, ⟨true, s86, none⟩), (98, ⟨true, s98, none⟩)] g
theorem E39ok : EnvOk Try.prog E39 := envOk_cons ok86 (envOk_cons ok98 (envOk_nil _))
set_option maxRecDepth 100000 in
set_option maxHeartbeats 1000000 in
theorem ok39 : Ok Try.prog 39 (s39) := ok_of_wpaH (E := E39) mixed tts E39ok fn39 fun args H v H' o hs ho => by
  split at hs
  · rename_i st sp fd o n x
    split at hs
    · rename_i l hl
      cases hs
      obtain ⟨ho0, hlen, hbig⟩ := ho.one
      try simp only [Unit.unit] at ho0 hlen hbig
      refine ⟨_, HLe.cons (BLe.fl hl) HLe.nil, ?_⟩
      cbv
      repeat' first
        | (refine alt_t (by assumption) ?_; cbv)
        | (refine alt_f (by assumption) ?_; cbv)
        | (refine alt_b (fun h => ?_) (fun h => ?_) <;> cbv)
        | (refine Br.mk (fun h => ?_) (fun h => ?_) <;> cbv)
        | (refine Ob.mk ?_ ?_; rotate_left; cbv)
        | (refine Lex.mk (by kernel_rfl) ?_; cbv)
      all_goals (try simp only [Unit.unit, Int.ofNat_lt, Int.ofNat_le, BE.val, IE.val, NE.val, ltB_iff, ltB_no, leB_iff, leB_no, Int.toNat_natCast, Nat.zero_add, Nat.add_zero, Nat.mul_one, forced, beq_iff_eq, beq_eq_false_iff_ne, bne_iff_ne, bne_eq_false_iff_eq] at *)
      all_goals first | with_reducible rfl | exact ⟨ho0, hlen, hbig⟩ | exact ⟨by trivial, hlen, hbig⟩ | exact (webOk_yes (st := st ⟨⟩) (sp := sp ⟨⟩) (fd := fd ⟨⟩) (l := l ⟨⟩) (by simp_all)).1 | (have hb := bestT_lt (l ⟨⟩) (k := n ⟨⟩) (n := n ⟨⟩) (webOk_yes (st := st ⟨⟩) (sp := sp ⟨⟩) (fd := fd ⟨⟩) (l := l ⟨⟩) (by simp_all)).1 (Nat.le_refl _); first | omega | (refine ⟨Int.natCast_nonneg _, ?_⟩; omega)) | (simp_all [tightW]; done) | grind [tightW]
    · cases hs
  · cases hs
theorem fn38 : FnOk Try.prog 38 Try.f38 (bodyOf Try.f38) := ⟨Try.func38, rfl, by rfl⟩
def s38 : Spec := hspec fun args H => match args, H with
  | [.a [.f .f32 st, .f .f32 sp, .f .f32 fd, .sl 0 (.x o) (.x n)]], [some ⟨false, 0, x⟩] => match x.toFl with
    | some l => some (.t [vI (tightW (st ()) (sp ()) (fd ()) (l ()) (n ())).1, F (tightW (st ()) (sp ()) (fd ()) (l ()) (n ())).2.1, vI (tightW (st ()) (sp ()) (fd ()) (l ()) (n ())).2.2], [none], [fun _ => o () = 0 ∧ (l ()).length = 3 * n () ∧ n () ≤ 1048576])
    | _ => none
  | _, _ => none
def E38 : Env := fun g => envGetL [(51, ⟨true, s51, none⟩)] g
theorem E38ok : EnvOk Try.prog E38 := envOk_cons ok51 (envOk_nil _)
set_option maxRecDepth 100000 in
set_option maxHeartbeats 1000000 in
theorem ok38 : Ok Try.prog 38 (s38) := ok_of_wpaH (E := E38) mixed tts E38ok fn38 fun args H v H' o hs ho => by
  split at hs
  · rename_i st sp fd o n x
    split at hs
    · rename_i l hl
      cases hs
      obtain ⟨ho0, hlen, hbig⟩ := ho.one
      try simp only [Unit.unit] at ho0 hlen hbig
      refine ⟨_, HLe.cons (BLe.fl hl) HLe.nil, ?_⟩
      cbv
      refine Ob.mk ⟨ho0, hlen, hbig⟩ ?_
      cbv
      refine Br.mk (fun hv => ?_) (fun hv => ?_)
      · cbv
        repeat' (refine Ob.mk ?_ ?_; rotate_left; cbv)
        all_goals (try simp only [Unit.unit, Int.ofNat_lt, Int.ofNat_le, BE.val, IE.val, NE.val, ltB_iff, ltB_no, leB_iff, leB_no, Int.toNat_natCast, Nat.zero_add, Nat.add_zero, Nat.mul_one, forced, beq_iff_eq, beq_eq_false_iff_ne, bne_iff_ne, bne_eq_false_iff_eq] at *)
        all_goals first | with_reducible rfl | (simp_all [tightW]; done)
      · have hv' : webOk (st ⟨⟩) (sp ⟨⟩) (fd ⟨⟩) (l ⟨⟩) (n ⟨⟩) = true := not_f hv
        have ht : tightW (st ⟨⟩) (sp ⟨⟩) (fd ⟨⟩) (l ⟨⟩) (n ⟨⟩) = (((bestT (l ⟨⟩) (n ⟨⟩) : Nat) : Int), (l ⟨⟩).getD (bestT (l ⟨⟩) (n ⟨⟩) * 3 + 2) 0, 0) := by simp [tightW, hv']
        have hn1 := (webOk_yes hv').1
        clear hv
        cbv
        refine loop_rule (α := Unit → Nat) (c := ⟨tt, E38, 1⟩)
            (fun i => fr 37 [(1, .c (.p 1 (.l 0))), (5, .c (.i .i64 (.x fun _ => ((bestT (l ()) (i ()) : Nat) : Int)))), (12, .c (.sl 0 (.x o) (.x n))), (13, .c (.i .i64 (.x fun _ => n ()))), (14, .c (.i .i64 (.x fun _ => i ())))]) (fun i => [some ⟨false, 0, .fl l⟩, some ⟨true, 0, .lit [.f .f32 st, .f .f32 sp, .f .f32 fd, .sl 0 (.x o) (.x n)]⟩])
            (fun i => i () ≤ n ()) (fun i => n () - i ()) (fun _ => n () + 1) ?_ ?_
        · refine .mk (fun _ => 0) (Nat.zero_le _) (by dsimp only; omega) ?_
          cbv
          repeat' (refine Ob.mk ?_ ?_; rotate_left)
          all_goals (try simp only [Unit.unit, Int.ofNat_lt, Int.ofNat_le, BE.val, IE.val, NE.val, ltB_iff, ltB_no, leB_iff, leB_no, Int.toNat_natCast, Nat.zero_add, Nat.add_zero, Nat.mul_one, forced, beq_iff_eq, beq_eq_false_iff_ne, bne_iff_ne, bne_eq_false_iff_eq] at *)
          all_goals first | with_reducible rfl | trivial | rfl
        · intro i hi
          cbv
          repeat' first
            | (refine alt_t (by assumption) ?_; cbv)
            | (refine alt_f (by assumption) ?_; cbv)
            | (refine alt_b (fun h => ?_) (fun h => ?_) <;> cbv)
            | (refine Br.mk (fun h => ?_) (fun h => ?_) <;> cbv)
            | (refine Ob.mk ?_ ?_; rotate_left; cbv)
            | (refine Lex.mk (by kernel_rfl) ?_; cbv)
            | (refine Next.mk (fun _ => i () + 1) ?_ ?_ ?_)
          all_goals (try simp only [Unit.unit, Int.ofNat_lt, Int.ofNat_le, BE.val, IE.val, NE.val, ltB_iff, ltB_no, leB_iff, leB_no, Int.toNat_natCast, Nat.zero_add, Nat.add_zero, Nat.mul_one, forced, beq_iff_eq, beq_eq_false_iff_ne, bne_iff_ne, bne_eq_false_iff_eq] at *)
          all_goals (try simp only [ho0, Nat.zero_add] at *)
          all_goals first | with_reducible rfl | omega | exact wrap64_nat (by omega) | (refine ⟨Int.natCast_nonneg _, ?_⟩; omega) | (have hb := bestT_lt (l ⟨⟩) (k := i ⟨⟩) (n := n ⟨⟩) (by omega) (by omega); first | omega | (refine ⟨Int.natCast_nonneg _, ?_⟩; omega)) | ((try rw [show i ⟨⟩ = n ⟨⟩ by omega]); rw [ht]; done) | (unfold bestT; simp_all; done) | grind [bestT]
    · cases hs
  · cases hs
end Go.Proofs.Ythkjlbggipocdaa.Sh
