/- What the slack spans of this seat compute, each shown once. No condition. -/
import Derived.Test.YthkjlbggipocdaaVl
set_option linter.unusedVariables false
set_option linter.unusedSimpArgs false
set_option linter.unusedSectionVars false
namespace Go.Proofs.Ythkjlbggipocdaa.Sh
open Go Go.Proofs
def sameIs (l l' : List Int) (n : Nat) : Bool := allI (fun i => l.getD i 0 == l'.getD i 0) n
theorem sameIs_self (l : List Int) (n : Nat) : sameIs l l n = true := allI_all fun i _ => by simp
theorem sameIs_no {l l' : List Int} {n i : Nat} (h : i < n) (hp : ¬ l.getD i 0 = l'.getD i 0) : sameIs l l' n = false := allI_no (p := fun i => l.getD i 0 == l'.getD i 0) h (by simpa using hp)
theorem sameIs_step {l l' : List Int} {i : Nat} (h : sameIs l l' i = true) (hp : l.getD i 0 = l'.getD i 0) : sameIs l l' (i + 1) = true := by
  unfold sameIs at *
  simp only [allI, h, hp, beq_self_eq_true]; rfl
def marksI (k : Int) (l : List Int) (i : Nat) : List Int := ((List.range i).map fun j : Nat => k + (j : Int)) ++ l.drop i
theorem marksI_len {k : Int} {l : List Int} {i : Nat} (h : i ≤ l.length) : (marksI k l i).length = l.length := by simp [marksI]; omega
theorem marksI_zero (k : Int) (l : List Int) : marksI k l 0 = l := by simp [marksI]
theorem marksI_step {k : Int} {l : List Int} {i : Nat} (h : i < l.length) : (marksI k l i).set i (k + (i : Int)) = marksI k l (i + 1) := by
  unfold marksI
  rw [List.set_append_right _ _ (by simp)]
  simp only [List.length_map, List.length_range, Nat.sub_self]
  have e : (l.drop i).set 0 (k + (i : Int)) = (k + (i : Int)) :: l.drop (i + 1) := by rw [List.drop_eq_getElem_cons h]; rfl
  rw [e]
  simp [List.range_succ]
def heldN (k : Int) (l : List Int) (n : Nat) : Bool := allI (fun i => l.getD i 0 == k + (i : Int)) n
theorem heldN_marks (k : Int) (l : List Int) (n : Nat) : heldN k (marksI k l n) n = true := allI_all fun i hi => by
  simp [marksI, List.getD_eq_getElem?_getD, List.getElem?_append, hi]
theorem heldN_no {k : Int} {l : List Int} {n i : Nat} {x : Int} (h : i < n) (hp : ¬ l.getD i 0 = k + (i : Int)) : -1 = if heldN k l n = true then x else -1 := by
  have : heldN k l n = false := allI_no (p := fun i => l.getD i 0 == k + (i : Int)) h (by simpa using hp)
  rw [this]; rfl
theorem heldN_step {k : Int} {l : List Int} {i : Nat} (h : heldN k l i = true) (hp : l.getD i 0 = k + (i : Int)) : heldN k l (i + 1) = true := by
  unfold heldN at *
  simp only [allI, h, hp, beq_self_eq_true]; rfl
theorem slackL_len (l : List Nat) : ∀ n, (slackL l n).length ≤ n
  | 0 => Nat.le_refl _
  | n + 1 => by
    have := slackL_len l n
    unfold slackL
    split
    · omega
    · simp; omega
theorem slack_skip {l : List Nat} {i : Nat} (h : fcmp .gtr .f32 (l.getD (i * 3 + 2) 0) 0 = true) : slackL l (i + 1) = slackL l i := by
  conv => lhs; unfold slackL
  rw [if_pos h]
theorem slack_put {l : List Nat} {i : Nat} (h : fcmp .gtr .f32 (l.getD (i * 3 + 2) 0) 0 = false) : slackL l (i + 1) = slackL l i ++ [(i : Int)] := by
  conv => lhs; unfold slackL
  rw [if_neg (by rw [h]; decide)]
theorem fn60 : FnOk Try.prog 60 Try.f60 (bodyOf Try.f60) := ⟨Try.func60, rfl, by rfl⟩
def s60 : Spec := hspec fun args H => match args, H with
  | [.c (.sl 0 (.x o) (.x n)), .c (.sl 1 (.x o') (.x n'))], [some ⟨false, 0, x⟩, some ⟨false, 0, x'⟩] => match x.toIt .i64, x'.toIt .i64 with
    | some l, some l' => some (vB (n () == n' () && sameIs (l ()) (l' ()) (n ())), [none, none], [fun _ => o () = 0 ∧ (l ()).length = n () ∧ n () ≤ 1048576, fun _ => o' () = 0 ∧ (l' ()).length = n' () ∧ n' () ≤ 1048576])
    | _, _ => none
  | [.c .sn, .c (.sl 0 (.x _) (.x n'))], [some ⟨false, 0, _⟩] => some (vB (n' () == 0), [none], [])
  | _, _ => none
set_option maxRecDepth 100000 in
set_option maxHeartbeats 2000000 in
theorem ok60 : Ok Try.prog 60 (s60) := ok_of_wpaH (E := envGetL []) mixed tts (envOk_nil _) fn60 fun args H v H' o hs ho => by
  split at hs
  · rename_i o n o' n' x x'
    split at hs
    · rename_i l l' hl hl'
      cases hs
      obtain ⟨⟨ho0, hlen, hbig⟩, ⟨ho0', hlen', hbig'⟩⟩ := ho.two
      refine ⟨_, HLe.cons (BLe.it hl) (HLe.cons (BLe.it hl') HLe.nil), ?_⟩
      cbv
      refine Br.mk (fun hne => ?_) (fun hne => ?_)
      · cbv
        repeat' (refine Ob.mk ?_ ?_; rotate_left; cbv)
        all_goals (try simp only [Unit.unit, Int.ofNat_lt, Int.ofNat_le, BE.val, IE.val, NE.val, ltB_iff, ltB_no, leB_iff, leB_no, Int.toNat_natCast, Nat.zero_add, Nat.add_zero, Nat.mul_one, forced, beq_iff_eq, beq_eq_false_iff_ne, bne_iff_ne, bne_eq_false_iff_eq] at *)
        all_goals first | with_reducible rfl | (simp_all; done) | grind
      · cbv
        have hnn : n () = n' () := by
          (try simp only [Unit.unit, Int.ofNat_lt, Int.ofNat_le, BE.val, IE.val, NE.val, ltB_iff, ltB_no, leB_iff, leB_no, Int.toNat_natCast, Nat.zero_add, Nat.add_zero, Nat.mul_one, forced, beq_iff_eq, beq_eq_false_iff_ne, bne_iff_ne, bne_eq_false_iff_eq] at *)
          grind
        refine loop_rule (α := Unit → Nat) (c := ⟨tt, (envGetL []), 2⟩)
            (fun i => fr 26 [(0, .c (.sl 0 (.x o) (.x n))), (1, .c (.sl 1 (.x o') (.x n'))), (5, .c (.i .i64 (.x fun _ => i ())))]) (fun i => [some ⟨false, 0, .it .i64 l⟩, some ⟨false, 0, .it .i64 l'⟩])
            (fun i => i () ≤ n () ∧ sameIs (l ()) (l' ()) (i ()) = true) (fun i => n () - i ()) (fun _ => n () + 1) ?_ ?_
        · refine .mk (fun _ => 0) ⟨Nat.zero_le _, rfl⟩ (by dsimp only; omega) ?_
          cbv
          repeat' (refine Ob.mk ?_ ?_; rotate_left)
          all_goals (try simp only [Unit.unit, Int.ofNat_lt, Int.ofNat_le, BE.val, IE.val, NE.val, ltB_iff, ltB_no, leB_iff, leB_no, Int.toNat_natCast, Nat.zero_add, Nat.add_zero, Nat.mul_one, forced, beq_iff_eq, beq_eq_false_iff_ne, bne_iff_ne, bne_eq_false_iff_eq] at *)
          all_goals first | with_reducible rfl | trivial
        · intro i hi
          cbv
          repeat' first
            | (refine alt_t (by assumption) ?_; cbv)
            | (refine alt_f (by assumption) ?_; cbv)
            | (refine alt_b (fun h => ?_) (fun h => ?_) <;> cbv)
            | (refine Br.mk (fun h => ?_) (fun h => ?_) <;> cbv)
            | (refine Ob.mk ?_ ?_; rotate_left; cbv)
            | (refine Lex.mk (by kernel_rfl) ?_; cbv)
            | (refine Next.mk (fun _ => i () + 1) ?_ ?_ ?_)
          all_goals (try simp only [Unit.unit, Int.ofNat_lt, Int.ofNat_le, BE.val, IE.val, NE.val, ltB_iff, ltB_no, leB_iff, leB_no, Int.toNat_natCast, Nat.zero_add, Nat.add_zero, Nat.mul_one, forced, beq_iff_eq, beq_eq_false_iff_ne, bne_iff_ne, bne_eq_false_iff_eq] at *)
          all_goals (try simp only [ho0, ho0', Nat.zero_add] at *)
          all_goals first | with_reducible rfl | omega | exact wrap64_nat (by omega) | (refine ⟨Int.natCast_nonneg _, ?_⟩; omega) | exact ⟨by omega, sameIs_step hi.2 (by assumption)⟩ | (rw [sameIs_no (by omega) (by assumption), Bool.and_false]; done) | ((try rw [show i ⟨⟩ = n ⟨⟩ by omega] at hi); simp_all; done) | grind
    · cases hs
  · rename_i o n' x
    cases hs
    refine ⟨_, HLe.cons (BLe.refl _) HLe.nil, ?_⟩
    cbv
    refine Br.mk (fun hne => ?_) (fun hne => ?_)
    · cbv
      repeat' (refine Ob.mk ?_ ?_; rotate_left; cbv)
      all_goals (try simp only [Unit.unit, Int.ofNat_lt, Int.ofNat_le, BE.val, IE.val, NE.val, ltB_iff, ltB_no, leB_iff, leB_no, Int.toNat_natCast, Nat.zero_add, Nat.add_zero, Nat.mul_one, forced, beq_iff_eq, beq_eq_false_iff_ne, bne_iff_ne, bne_eq_false_iff_eq] at *)
      all_goals first | with_reducible rfl | grind
    · cbv
      repeat' first
        | (refine Loop.mk 5 ?_; cbv)
        | (refine Gen.same ?_; cbv)
        | (refine Ob.mk ?_ ?_; rotate_left; cbv)
      all_goals (try simp only [Unit.unit, Int.ofNat_lt, Int.ofNat_le, BE.val, IE.val, NE.val, ltB_iff, ltB_no, leB_iff, leB_no, Int.toNat_natCast, Nat.zero_add, Nat.add_zero, Nat.mul_one, forced, beq_iff_eq, beq_eq_false_iff_ne, bne_iff_ne, bne_eq_false_iff_eq] at *)
      all_goals first | with_reducible rfl | grind
  · cases hs
theorem fn62 : FnOk Try.prog 62 Try.f62 (bodyOf Try.f62) := ⟨Try.func62, rfl, by rfl⟩
def s62 : Spec := hspec fun args H => match args, H with
  | [.c (.sl 0 (.x o) (.x n)), .c (.i .i64 (.x k))], [some ⟨true, 1, x⟩] => match x.toIt .i64 with
    | some l => some (vI (k () + (n () : Int)), [some ⟨true, 1, .it .i64 fun _ => marksI (k ()) (l ()) (n ())⟩], [fun _ => o () = 0 ∧ (l ()).length = n () ∧ n () ≤ 1048576, fun _ => 0 ≤ k () ∧ k () < 4294967296])
    | _ => none
  | [.c .sn, .c (.i .i64 (.x k))], [] => some (vI (k ()), [], [])
  | _, _ => none
set_option maxRecDepth 100000 in
set_option maxHeartbeats 2000000 in
theorem ok62 : Ok Try.prog 62 (s62) := ok_of_wpaH (E := envGetL []) mixed tts (envOk_nil _) fn62 fun args H v H' o hs ho => by
  split at hs
  · rename_i o n k x
    split at hs
    · rename_i l hl
      cases hs
      obtain ⟨⟨ho0, hlen, hbig⟩, hk0, hk1⟩ := ho.two
      refine ⟨_, HLe.cons (BLe.it hl) HLe.nil, ?_⟩
      cbv
      refine loop_rule (α := Unit → Nat) (c := ⟨tt, (envGetL []), 1⟩)
          (fun i => fr 19 [(0, .c (.sl 0 (.x o) (.x n))), (1, .c (.i .i64 (.x fun _ => k () + (i () : Int)))), (5, .c (.i .i64 (.x fun _ => i ())))]) (fun i => [some ⟨true, 1, .it .i64 fun _ => marksI (k ()) (l ()) (i ())⟩])
          (fun i => i () ≤ n ()) (fun i => n () - i ()) (fun _ => n () + 1) ?_ ?_
      · refine .mk (fun _ => 0) (Nat.zero_le _) (by dsimp only; omega) ?_
        cbv
        repeat' (refine Ob.mk ?_ ?_; rotate_left)
        all_goals (try simp only [Unit.unit, Int.ofNat_lt, Int.ofNat_le, BE.val, IE.val, NE.val, ltB_iff, ltB_no, leB_iff, leB_no, Int.toNat_natCast, Nat.zero_add, Nat.add_zero, Nat.mul_one, forced, beq_iff_eq, beq_eq_false_iff_ne, bne_iff_ne, bne_eq_false_iff_eq] at *)
        all_goals first | with_reducible rfl | trivial | (rw [marksI_zero]; done) | (simp; done) | rfl
      · intro i hi
        have h1 : i ⟨⟩ ≤ n ⟨⟩ := hi
        cbv
        repeat' first
          | (refine alt_t (by assumption) ?_; cbv)
          | (refine alt_f (by assumption) ?_; cbv)
          | (refine alt_b (fun h => ?_) (fun h => ?_) <;> cbv)
          | (refine Br.mk (fun h => ?_) (fun h => ?_) <;> cbv)
          | (refine Ob.mk ?_ ?_; rotate_left; cbv)
          | (refine Lex.mk (by kernel_rfl) ?_; cbv)
          | (refine Next.mk (fun _ => i () + 1) ?_ ?_ ?_)
        all_goals (try simp only [Unit.unit, Int.ofNat_lt, Int.ofNat_le, BE.val, IE.val, NE.val, ltB_iff, ltB_no, leB_iff, leB_no, Int.toNat_natCast, Nat.zero_add, Nat.add_zero, Nat.mul_one, forced, beq_iff_eq, beq_eq_false_iff_ne, bne_iff_ne, bne_eq_false_iff_eq] at *)
        all_goals (try simp only [ho0, Nat.zero_add, List.length_set] at *)
        all_goals first | with_reducible rfl | omega | exact wrap64_nat (by omega) | (refine ⟨Int.natCast_nonneg _, ?_⟩; omega) | (rw [marksI_len (by omega)]; omega) | exact marksI_step (by omega) | (with_reducible exact wrapF (k := k ⟨⟩) (i := i ⟨⟩) hk0 hk1 (by omega)) | (rw [show i ⟨⟩ = n ⟨⟩ by omega]; done)
    · cases hs
  · rename_i k
    cases hs
    refine ⟨_, HLe.nil, ?_⟩
    cbv
    repeat' first
      | (refine Loop.mk 5 ?_; cbv)
      | (refine Gen.same ?_; cbv)
      | (refine Ob.mk ?_ ?_; rotate_left; cbv)
    all_goals (try simp only [Unit.unit, Int.ofNat_lt, Int.ofNat_le, BE.val, IE.val, NE.val, ltB_iff, ltB_no, leB_iff, leB_no, Int.toNat_natCast, Nat.zero_add, Nat.add_zero, Nat.mul_one, forced, beq_iff_eq, beq_eq_false_iff_ne, bne_iff_ne, bne_eq_false_iff_eq] at *)
    all_goals first | with_reducible rfl | grind
  · cases hs
theorem fn63 : FnOk Try.prog 63 Try.f63 (bodyOf Try.f63) := ⟨Try.func63, rfl, by rfl⟩
def s63 : Spec := hspec fun args H => match args, H with
  | [.c (.sl 0 (.x o) (.x n)), .c (.i .i64 (.x k))], [some ⟨false, 0, x⟩] => match x.toIt .i64 with
    | some l => some (vI (if heldN (k ()) (l ()) (n ()) then k () + (n () : Int) else -1), [none], [fun _ => o () = 0 ∧ (l ()).length = n () ∧ n () ≤ 1048576, fun _ => 0 ≤ k () ∧ k () < 4294967296])
    | _ => none
  | [.c .sn, .c (.i .i64 (.x k))], [] => some (vI (k ()), [], [])
  | _, _ => none
set_option maxRecDepth 100000 in
set_option maxHeartbeats 2000000 in
theorem ok63 : Ok Try.prog 63 (s63) := ok_of_wpaH (E := envGetL []) mixed tts (envOk_nil _) fn63 fun args H v H' o hs ho => by
  split at hs
  · rename_i o n k x
    split at hs
    · rename_i l hl
      cases hs
      obtain ⟨⟨ho0, hlen, hbig⟩, hk0, hk1⟩ := ho.two
      refine ⟨_, HLe.cons (BLe.it hl) HLe.nil, ?_⟩
      cbv
      refine loop_rule (α := Unit → Nat) (c := ⟨tt, (envGetL []), 1⟩)
          (fun i => fr 21 [(0, .c (.sl 0 (.x o) (.x n))), (1, .c (.i .i64 (.x fun _ => k () + (i () : Int)))), (5, .c (.i .i64 (.x fun _ => i ())))]) (fun i => [some ⟨false, 0, .it .i64 l⟩])
          (fun i => i () ≤ n () ∧ heldN (k ()) (l ()) (i ()) = true) (fun i => n () - i ()) (fun _ => n () + 1) ?_ ?_
      · refine .mk (fun _ => 0) ⟨Nat.zero_le _, rfl⟩ (by dsimp only; omega) ?_
        cbv
        repeat' (refine Ob.mk ?_ ?_; rotate_left)
        all_goals (try simp only [Unit.unit, Int.ofNat_lt, Int.ofNat_le, BE.val, IE.val, NE.val, ltB_iff, ltB_no, leB_iff, leB_no, Int.toNat_natCast, Nat.zero_add, Nat.add_zero, Nat.mul_one, forced, beq_iff_eq, beq_eq_false_iff_ne, bne_iff_ne, bne_eq_false_iff_eq] at *)
        all_goals first | with_reducible rfl | trivial | (simp; done) | rfl
      · intro i hi
        have h1 : i ⟨⟩ ≤ n ⟨⟩ := hi.1
        cbv
        repeat' first
          | (refine alt_t (by assumption) ?_; cbv)
          | (refine alt_f (by assumption) ?_; cbv)
          | (refine alt_b (fun h => ?_) (fun h => ?_) <;> cbv)
          | (refine Br.mk (fun h => ?_) (fun h => ?_) <;> cbv)
          | (refine Ob.mk ?_ ?_; rotate_left; cbv)
          | (refine Lex.mk (by kernel_rfl) ?_; cbv)
          | (refine Next.mk (fun _ => i () + 1) ?_ ?_ ?_)
        all_goals (try simp only [Unit.unit, Int.ofNat_lt, Int.ofNat_le, BE.val, IE.val, NE.val, ltB_iff, ltB_no, leB_iff, leB_no, Int.toNat_natCast, Nat.zero_add, Nat.add_zero, Nat.mul_one, forced, beq_iff_eq, beq_eq_false_iff_ne, bne_iff_ne, bne_eq_false_iff_eq] at *)
        all_goals (try simp only [ho0, Nat.zero_add, List.length_set] at *)
        all_goals first | with_reducible rfl | omega | exact wrap64_nat (by omega) | (refine ⟨Int.natCast_nonneg _, ?_⟩; omega) | (with_reducible exact wrapF (k := k ⟨⟩) (i := i ⟨⟩) hk0 hk1 (by omega)) | exact heldN_no (by omega) (by assumption) | exact ⟨by omega, heldN_step hi.2 (by assumption)⟩ | (rw [show i ⟨⟩ = n ⟨⟩ by omega] at hi; rw [show i ⟨⟩ = n ⟨⟩ by omega, if_pos hi.2]; done) | (rw [show i ⟨⟩ = n ⟨⟩ by omega] at hi; rw [if_pos hi.2]; (try rw [show i ⟨⟩ = n ⟨⟩ by omega]); done)
    · cases hs
  · rename_i k
    cases hs
    refine ⟨_, HLe.nil, ?_⟩
    cbv
    repeat' first
      | (refine Loop.mk 5 ?_; cbv)
      | (refine Gen.same ?_; cbv)
      | (refine Ob.mk ?_ ?_; rotate_left; cbv)
    all_goals (try simp only [Unit.unit, Int.ofNat_lt, Int.ofNat_le, BE.val, IE.val, NE.val, ltB_iff, ltB_no, leB_iff, leB_no, Int.toNat_natCast, Nat.zero_add, Nat.add_zero, Nat.mul_one, forced, beq_iff_eq, beq_eq_false_iff_ne, bne_iff_ne, bne_eq_false_iff_eq] at *)
    all_goals first | with_reducible rfl | grind
  · cases hs
theorem fn40 : FnOk Try.prog 40 Try.f40 (bodyOf Try.f40) := ⟨Try.func40, rfl, by rfl⟩
def s40T : Spec := hspec fun args H => match args, H with
  | [.a [.f .f32 st, .f .f32 sp, .f .f32 fd, .sl 0 (.x o) (.x n)]], [some ⟨false, 0, x⟩] => match x.toFl with
    | some l => some (.t [.c (.sl 1 (.l 0) (.x fun _ => (slackL (l ()) (n ())).length)), vI 0], [none, some ⟨true, 1, .it .i64 fun _ => slackL (l ()) (n ())⟩], [fun _ => (webOk (st ()) (sp ()) (fd ()) (l ()) (n ())) = true, fun _ => o () = 0 ∧ (l ()).length = 3 * n () ∧ n () ≤ 1048576])
    | _ => none
  | _, _ => none
def E40T : Env := fun g => envGetL [(51, ⟨true, s51, none⟩)] g
theorem E40Tok : EnvOk Try.prog E40T := envOk_cons ok51 (envOk_nil _)
set_option maxRecDepth 100000 in
set_option maxHeartbeats 2000000 in
theorem ok40T : Ok Try.prog 40 (s40T) := ok_of_wpaH (E := E40T) mixed tts E40Tok fn40 fun args H v H' o hs ho => by
  split at hs
  · rename_i st sp fd o n x
    split at hs
    · rename_i l hl
      cases hs
      obtain ⟨hc, ⟨ho0, hlen, hbig⟩⟩ := ho.two
      try simp only [Unit.unit] at hc ho0 hlen hbig
      refine ⟨_, HLe.cons (BLe.fl hl) HLe.nil, ?_⟩
      cbv
      refine Ob.mk ⟨ho0, hlen, hbig⟩ ?_
      cbv
      refine Br.mk (fun hv => ?_) (fun hv => ?_)
      · have hv' : webOk (st ⟨⟩) (sp ⟨⟩) (fd ⟨⟩) (l ⟨⟩) (n ⟨⟩) = false := not_t hv
        exact absurd hc (by rw [hv']; decide)
      clear hv
      cbv
      refine loop_rule (α := Unit → Nat) (c := ⟨tt, E40T, 1⟩)
          (fun i => fr 29 [(4, .c (.sl 2 (.l 0) (.x fun _ => (slackL (l ()) (i ())).length))), (12, .c (.sl 0 (.x o) (.x n))), (13, .c (.i .i64 (.x fun _ => n ()))), (14, .c (.i .i64 (.x fun _ => i ())))]) (fun i => [some ⟨false, 0, .fl l⟩, none, some ⟨true, 1, .it .i64 fun _ => slackL (l ()) (i ())⟩])
          (fun i => i () ≤ n ()) (fun i => n () - i ()) (fun _ => n () + 1) ?_ ?_
      · refine .mk (fun _ => 0) (Nat.zero_le _) (by dsimp only; omega) ?_
        cbv
        repeat' (refine Ob.mk ?_ ?_; rotate_left)
        all_goals (try simp only [Unit.unit, Int.ofNat_lt, Int.ofNat_le, BE.val, IE.val, NE.val, ltB_iff, ltB_no, leB_iff, leB_no, Int.toNat_natCast, Nat.zero_add, Nat.add_zero, Nat.mul_one, forced, beq_iff_eq, beq_eq_false_iff_ne, bne_iff_ne, bne_eq_false_iff_eq] at *)
        all_goals first | with_reducible rfl | trivial | rfl
      · intro i hi
        have h1 : i ⟨⟩ ≤ n ⟨⟩ := hi
        have hsl := slackL_len (l ⟨⟩) (i ⟨⟩)
        cbv
        refine Br.mk (fun h0 => ?_) (fun h0 => ?_)
        rotate_left
        · have hin : i ⟨⟩ = n ⟨⟩ := Nat.le_antisymm h1 (Int.not_lt.1 (ltB_no.1 h0) |> Int.ofNat_le.1)
          cbv
          repeat' (refine Ob.mk ?_ ?_; rotate_left; cbv)
          all_goals (try simp only [Unit.unit, Int.ofNat_lt, Int.ofNat_le, BE.val, IE.val, NE.val, ltB_iff, ltB_no, leB_iff, leB_no, Int.toNat_natCast, Nat.zero_add, Nat.add_zero, Nat.mul_one, forced, beq_iff_eq, beq_eq_false_iff_ne, bne_iff_ne, bne_eq_false_iff_eq] at *)
          all_goals first | with_reducible rfl | (rw [hin]; done) | rfl
        have hlt : i ⟨⟩ < n ⟨⟩ := Int.ofNat_lt.1 (ltB_iff.1 h0)
        cbv
        repeat' first | (refine Ob.mk ?_ ?_; rotate_left; cbv) | (refine Lex.mk (by kernel_rfl) ?_; cbv)
        refine Br.mk (fun h => ?_) (fun h => ?_)
        · have hg : fcmp .gtr .f32 ((l ⟨⟩).getD (o ⟨⟩ + i ⟨⟩ * 3 + 2) 0) 0 = false := not_t h
          rw [ho0, Nat.zero_add] at hg
          have hs := slack_put hg
          clear h
          cbv
          repeat' first | (refine Ob.mk ?_ ?_; rotate_left; cbv) | (refine Lex.mk (by kernel_rfl) ?_; cbv) | (refine Next.ren [1, 5] (fun _ => i () + 1) ?_ ?_ ?_)
          all_goals (try simp only [Unit.unit, Int.ofNat_lt, Int.ofNat_le, BE.val, IE.val, NE.val, ltB_iff, ltB_no, leB_iff, leB_no, Int.toNat_natCast, Nat.zero_add, Nat.add_zero, Nat.mul_one, forced, beq_iff_eq, beq_eq_false_iff_ne, bne_iff_ne, bne_eq_false_iff_eq] at *)
          all_goals (try simp only [ho0, Nat.zero_add, hs, List.length_append, List.length_cons, List.length_nil] at *)
          all_goals first | with_reducible rfl | omega | exact wrap64_nat (by omega) | (refine ⟨Int.natCast_nonneg _, ?_⟩; omega) | rfl | (simp_all; done)
        · have hg : fcmp .gtr .f32 ((l ⟨⟩).getD (o ⟨⟩ + i ⟨⟩ * 3 + 2) 0) 0 = true := not_f h
          rw [ho0, Nat.zero_add] at hg
          have hs := slack_skip hg
          clear h
          cbv
          repeat' first | (refine Ob.mk ?_ ?_; rotate_left; cbv) | (refine Lex.mk (by kernel_rfl) ?_; cbv) | (refine Next.mk (fun _ => i () + 1) ?_ ?_ ?_)
          all_goals (try simp only [Unit.unit, Int.ofNat_lt, Int.ofNat_le, BE.val, IE.val, NE.val, ltB_iff, ltB_no, leB_iff, leB_no, Int.toNat_natCast, Nat.zero_add, Nat.add_zero, Nat.mul_one, forced, beq_iff_eq, beq_eq_false_iff_ne, bne_iff_ne, bne_eq_false_iff_eq] at *)
          all_goals (try simp only [ho0, Nat.zero_add, hs, List.length_append, List.length_cons, List.length_nil] at *)
          all_goals first | with_reducible rfl | omega | exact wrap64_nat (by omega) | (refine ⟨Int.natCast_nonneg _, ?_⟩; omega) | rfl | (simp_all; done)
        all_goals (try simp only [Unit.unit, Int.ofNat_lt, Int.ofNat_le, BE.val, IE.val, NE.val, ltB_iff, ltB_no, leB_iff, leB_no, Int.toNat_natCast, Nat.zero_add, Nat.add_zero, Nat.mul_one, forced, beq_iff_eq, beq_eq_false_iff_ne, bne_iff_ne, bne_eq_false_iff_eq] at *)
        all_goals (try simp only [ho0, Nat.zero_add] at *)
        all_goals first | with_reducible rfl | omega | (refine ⟨Int.natCast_nonneg _, ?_⟩; omega) | exact ⟨Int.natCast_nonneg _, by simpa using hlt⟩
    · cases hs
  · cases hs
def s40F : Spec := hspec fun args H => match args, H with
  | [.a [.f .f32 st, .f .f32 sp, .f .f32 fd, .sl 0 (.x o) (.x n)]], [some ⟨false, 0, x⟩] => match x.toFl with
    | some l => some (.t [.c .sn, vI 1], [none], [fun _ => (webOk (st ()) (sp ()) (fd ()) (l ()) (n ())) = false, fun _ => o () = 0 ∧ (l ()).length = 3 * n () ∧ n () ≤ 1048576])
    | _ => none
  | _, _ => none
def E40F : Env := fun g => envGetL [(51, ⟨true, s51, none⟩)] g
theorem E40Fok : EnvOk Try.prog E40F := envOk_cons ok51 (envOk_nil _)
set_option maxRecDepth 100000 in
set_option maxHeartbeats 2000000 in
theorem ok40F : Ok Try.prog 40 (s40F) := ok_of_wpaH (E := E40F) mixed tts E40Fok fn40 fun args H v H' o hs ho => by
  split at hs
  · rename_i st sp fd o n x
    split at hs
    · rename_i l hl
      cases hs
      obtain ⟨hc, ⟨ho0, hlen, hbig⟩⟩ := ho.two
      try simp only [Unit.unit] at hc ho0 hlen hbig
      refine ⟨_, HLe.cons (BLe.fl hl) HLe.nil, ?_⟩
      cbv
      refine Ob.mk ⟨ho0, hlen, hbig⟩ ?_
      cbv
      refine Br.mk (fun hv => ?_) (fun hv => ?_)
      · cbv
        repeat' (refine Ob.mk ?_ ?_; rotate_left; cbv)
        all_goals (try simp only [Unit.unit, Int.ofNat_lt, Int.ofNat_le, BE.val, IE.val, NE.val, ltB_iff, ltB_no, leB_iff, leB_no, Int.toNat_natCast, Nat.zero_add, Nat.add_zero, Nat.mul_one, forced, beq_iff_eq, beq_eq_false_iff_ne, bne_iff_ne, bne_eq_false_iff_eq] at *)
        all_goals first | with_reducible rfl | rfl
      · have hv' : webOk (st ⟨⟩) (sp ⟨⟩) (fd ⟨⟩) (l ⟨⟩) (n ⟨⟩) = true := not_f hv
        exact absurd hv' (by rw [hc]; decide)
    · cases hs
  · cases hs
theorem fn41 : FnOk Try.prog 41 Try.f41 (bodyOf Try.f41) := ⟨Try.func41, rfl, by rfl⟩
def s41T : Spec := hspec fun args H => match args, H with
  | [.a [.f .f32 st, .f .f32 sp, .f .f32 fd, .sl 0 (.x o) (.x n)]], [some ⟨false, 0, x⟩] => match x.toFl with
    | some l => some (.t [.c (.sl 1 (.l 0) (.x fun _ => (slackL (l ()) (n ())).length)), vI 0], [none, some ⟨true, 1, .it .i64 fun _ => slackL (l ()) (n ())⟩], [fun _ => (webOk (st ()) (sp ()) (fd ()) (l ()) (n ())) = true, fun _ => o () = 0 ∧ (l ()).length = 3 * n () ∧ n () ≤ 1048576])
    | _ => none
  | _, _ => none
def E41T : Env := fun g => envGetL [(86, ⟨true, s86, none⟩)] g
theorem E41Tok : EnvOk Try.prog E41T := envOk_cons ok86 (envOk_nil _)
set_option maxRecDepth 100000 in
set_option maxHeartbeats 2000000 in
theorem ok41T : Ok Try.prog 41 (s41T) := ok_of_wpaH (E := E41T) mixed tts E41Tok fn41 fun args H v H' o hs ho => by
  split at hs
  · rename_i st sp fd o n x
    split at hs
    · rename_i l hl
      cases hs
      obtain ⟨hc, ⟨ho0, hlen, hbig⟩⟩ := ho.two
      try simp only [Unit.unit] at hc ho0 hlen hbig
      refine ⟨_, HLe.cons (BLe.fl hl) HLe.nil, ?_⟩
      cbv
      refine Ob.mk ⟨ho0, hlen, hbig⟩ ?_
      cbv
      refine Br.mk (fun hv => ?_) (fun hv => ?_)
      · have hv' : webOk (st ⟨⟩) (sp ⟨⟩) (fd ⟨⟩) (l ⟨⟩) (n ⟨⟩) = false := not_t hv
        exact absurd hc (by rw [hv']; decide)
      clear hv
      cbv
      refine loop_rule (α := Unit → Nat) (c := ⟨tt, E41T, 1⟩)
          (fun i => fr 30 [(1, .c (.p 1 (.l 0))), (4, .c (.sl 2 (.l 0) (.x fun _ => (slackL (l ()) (i ())).length))), (5, .c (.i .i64 (.x fun _ => i ())))]) (fun i => [some ⟨false, 0, .fl l⟩, some ⟨true, 0, .lit [.f .f32 st, .f .f32 sp, .f .f32 fd, .sl 0 (.x o) (.x n)]⟩, some ⟨true, 1, .it .i64 fun _ => slackL (l ()) (i ())⟩])
          (fun i => i () ≤ n ()) (fun i => n () - i ()) (fun _ => n () + 1) ?_ ?_
      · refine .mk (fun _ => 0) (Nat.zero_le _) (by dsimp only; omega) ?_
        cbv
        repeat' (refine Ob.mk ?_ ?_; rotate_left)
        all_goals (try simp only [Unit.unit, Int.ofNat_lt, Int.ofNat_le, BE.val, IE.val, NE.val, ltB_iff, ltB_no, leB_iff, leB_no, Int.toNat_natCast, Nat.zero_add, Nat.add_zero, Nat.mul_one, forced, beq_iff_eq, beq_eq_false_iff_ne, bne_iff_ne, bne_eq_false_iff_eq] at *)
        all_goals first | with_reducible rfl | trivial | rfl
      · intro i hi
        have h1 : i ⟨⟩ ≤ n ⟨⟩ := hi
        have hsl := slackL_len (l ⟨⟩) (i ⟨⟩)
        cbv
        refine Br.mk (fun h0 => ?_) (fun h0 => ?_)
        rotate_left
        · have hin : i ⟨⟩ = n ⟨⟩ := Nat.le_antisymm h1 (Int.not_lt.1 (ltB_no.1 h0) |> Int.ofNat_le.1)
          cbv
          repeat' (refine Ob.mk ?_ ?_; rotate_left; cbv)
          all_goals (try simp only [Unit.unit, Int.ofNat_lt, Int.ofNat_le, BE.val, IE.val, NE.val, ltB_iff, ltB_no, leB_iff, leB_no, Int.toNat_natCast, Nat.zero_add, Nat.add_zero, Nat.mul_one, forced, beq_iff_eq, beq_eq_false_iff_ne, bne_iff_ne, bne_eq_false_iff_eq] at *)
          all_goals first | with_reducible rfl | (rw [hin]; done) | rfl
        have hlt : i ⟨⟩ < n ⟨⟩ := Int.ofNat_lt.1 (ltB_iff.1 h0)
        cbv
        repeat' first | (refine Ob.mk ?_ ?_; rotate_left; cbv) | (refine Lex.mk (by kernel_rfl) ?_; cbv)
        refine Br.mk (fun h => ?_) (fun h => ?_)
        · have hg : fcmp .gtr .f32 ((l ⟨⟩).getD (o ⟨⟩ + i ⟨⟩ * 3 + 2) 0) 0 = false := not_t h
          rw [ho0, Nat.zero_add] at hg
          have hs := slack_put hg
          clear h
          cbv
          repeat' first | (refine Ob.mk ?_ ?_; rotate_left; cbv) | (refine Lex.mk (by kernel_rfl) ?_; cbv) | (refine Next.ren [1, 4] (fun _ => i () + 1) ?_ ?_ ?_)
          all_goals (try simp only [Unit.unit, Int.ofNat_lt, Int.ofNat_le, BE.val, IE.val, NE.val, ltB_iff, ltB_no, leB_iff, leB_no, Int.toNat_natCast, Nat.zero_add, Nat.add_zero, Nat.mul_one, forced, beq_iff_eq, beq_eq_false_iff_ne, bne_iff_ne, bne_eq_false_iff_eq] at *)
          all_goals (try simp only [ho0, Nat.zero_add, hs, List.length_append, List.length_cons, List.length_nil] at *)
          all_goals first | with_reducible rfl | omega | exact wrap64_nat (by omega) | (refine ⟨Int.natCast_nonneg _, ?_⟩; omega) | rfl | (simp_all; done)
        · have hg : fcmp .gtr .f32 ((l ⟨⟩).getD (o ⟨⟩ + i ⟨⟩ * 3 + 2) 0) 0 = true := not_f h
          rw [ho0, Nat.zero_add] at hg
          have hs := slack_skip hg
          clear h
          cbv
          repeat' first | (refine Ob.mk ?_ ?_; rotate_left; cbv) | (refine Lex.mk (by kernel_rfl) ?_; cbv) | (refine Next.mk (fun _ => i () + 1) ?_ ?_ ?_)
          all_goals (try simp only [Unit.unit, Int.ofNat_lt, Int.ofNat_le, BE.val, IE.val, NE.val, ltB_iff, ltB_no, leB_iff, leB_no, Int.toNat_natCast, Nat.zero_add, Nat.add_zero, Nat.mul_one, forced, beq_iff_eq, beq_eq_false_iff_ne, bne_iff_ne, bne_eq_false_iff_eq] at *)
          all_goals (try simp only [ho0, Nat.zero_add, hs, List.length_append, List.length_cons, List.length_nil] at *)
          all_goals first | with_reducible rfl | omega | exact wrap64_nat (by omega) | (refine ⟨Int.natCast_nonneg _, ?_⟩; omega) | rfl | (simp_all; done)
        all_goals (try simp only [Unit.unit, Int.ofNat_lt, Int.ofNat_le, BE.val, IE.val, NE.val, ltB_iff, ltB_no, leB_iff, leB_no, Int.toNat_natCast, Nat.zero_add, Nat.add_zero, Nat.mul_one, forced, beq_iff_eq, beq_eq_false_iff_ne, bne_iff_ne, bne_eq_false_iff_eq] at *)
        all_goals (try simp only [ho0, Nat.zero_add] at *)
        all_goals first | with_reducible rfl | omega | (refine ⟨Int.natCast_nonneg _, ?_⟩; omega) | exact ⟨Int.natCast_nonneg _, by simpa using hlt⟩
    · cases hs
  · cases hs
def s41F : Spec := hspec fun args H => match args, H with
  | [.a [.f .f32 st, .f .f32 sp, .f .f32 fd, .sl 0 (.x o) (.x n)]], [some ⟨false, 0, x⟩] => match x.toFl with
    | some l => some (.t [.c (.sl 1 (.l 0) (.l 0)), vI 1], [none, some ⟨true, 1, .lit []⟩], [fun _ => (webOk (st ()) (sp ()) (fd ()) (l ()) (n ())) = false, fun _ => o () = 0 ∧ (l ()).length = 3 * n () ∧ n () ≤ 1048576])
    | _ => none
  | _, _ => none
def E41F : Env := fun g => envGetL [(86, ⟨true, s86, none⟩)] g
theorem E41Fok : EnvOk Try.prog E41F := envOk_cons ok86 (envOk_nil _)
set_option maxRecDepth 100000 in
set_option maxHeartbeats 2000000 in
theorem ok41F : Ok Try.prog 41 (s41F) := ok_of_wpaH (E := E41F) mixed tts E41Fok fn41 fun args H v H' o hs ho => by
  split at hs
  · rename_i st sp fd o n x
    split at hs
    · rename_i l hl
      cases hs
      obtain ⟨hc, ⟨ho0, hlen, hbig⟩⟩ := ho.two
      try simp only [Unit.unit] at hc ho0 hlen hbig
      refine ⟨_, HLe.cons (BLe.fl hl) HLe.nil, ?_⟩
      cbv
      refine Ob.mk ⟨ho0, hlen, hbig⟩ ?_
      cbv
      refine Br.mk (fun hv => ?_) (fun hv => ?_)
      · cbv
        repeat' (refine Ob.mk ?_ ?_; rotate_left; cbv)
        all_goals (try simp only [Unit.unit, Int.ofNat_lt, Int.ofNat_le, BE.val, IE.val, NE.val, ltB_iff, ltB_no, leB_iff, leB_no, Int.toNat_natCast, Nat.zero_add, Nat.add_zero, Nat.mul_one, forced, beq_iff_eq, beq_eq_false_iff_ne, bne_iff_ne, bne_eq_false_iff_eq] at *)
        all_goals first | with_reducible rfl | rfl
      · have hv' : webOk (st ⟨⟩) (sp ⟨⟩) (fd ⟨⟩) (l ⟨⟩) (n ⟨⟩) = true := not_f hv
        exact absurd hv' (by rw [hc]; decide)
    · cases hs
  · cases hs
end Go.Proofs.Ythkjlbggipocdaa.Sh
