/- What the comparisons and the drawn webs of this seat compute, each shown once. No condition. -/
import Derived.Test.YthkjlbggipocdaaVr
set_option linter.unusedVariables false
set_option linter.unusedSimpArgs false
set_option linter.unusedSectionVars false
namespace Go.Proofs.Ythkjlbggipocdaa.Sh
open Go Go.Proofs
/-- one contract or another -/
def orSpec (s1 s2 : Spec) : Spec := fun args H => match s1 args H with
  | some r => some r
  | none => s2 args H
theorem ok_or {P : Program} {g : Nat} {s1 s2 : Spec} (h1 : Ok P g s1) (h2 : Ok P g s2) : Ok P g (orSpec s1 s2) := by
  intro args H v H' o hs ho
  unfold orSpec at hs
  split at hs
  · rename_i r hr
    cases hs
    exact h1 args H v H' o hr ho
  · exact h2 args H v H' o hs ho
def s36n : Spec := hspec fun args H => match args, H with
  | [.a [.f .f32 st, .f .f32 sp, .f .f32 fd, .sn], .a [.f .f32 st', .f .f32 sp', .f .f32 fd', .sn]], [] => some (vB (eqW (st ()) (st' ()) && eqW (sp ()) (sp' ()) && eqW (fd ()) (fd' ())), [], [])
  | _, _ => none
def E36n : Env := fun g => envGetL [(97, ⟨true, s97, none⟩)] g
theorem E36nok : EnvOk Try.prog E36n := envOk_cons ok97 (envOk_nil _)
set_option maxRecDepth 100000 in
set_option maxHeartbeats 1000000 in
theorem ok36n : Ok Try.prog 36 s36n := ok_of_wpaH (E := E36n) mixed tts E36nok fn36 fun args H v H' o hs ho => by
  split at hs
  · rename_i st sp fd st' sp' fd'
    cases hs
    refine ⟨_, HLe.nil, ?_⟩
    cbv
    repeat' first
      | (refine Br.mk (fun h => ?_) (fun h => ?_) <;> cbv)
      | (refine Ob.mk ?_ ?_; rotate_left; cbv)
      | (refine Loop.mk 2 ?_; cbv)
      | (refine Gen.same ?_; cbv)
    all_goals (try simp only [Unit.unit, Int.ofNat_lt, Int.ofNat_le, BE.val, IE.val, NE.val, ltB_iff, ltB_no, leB_iff, leB_no, Int.toNat_natCast, Nat.zero_add, Nat.add_zero, Nat.mul_one, forced, beq_iff_eq, beq_eq_false_iff_ne, bne_iff_ne, bne_eq_false_iff_eq] at *)
    all_goals first | with_reducible rfl | (simp_all; done)
  · cases hs
theorem ok36c : Ok Try.prog 36 (orSpec s36 s36n) := ok_or ok36 ok36n
theorem fn37 : FnOk Try.prog 37 Try.f37 (bodyOf Try.f37) := ⟨Try.func37, rfl, by rfl⟩
def s37 : Spec := hspec fun args H => match args, H with
  | [.c (.f .f32 a), .c (.f .f32 b)], [] => some (vB (eqW (a ()) (b ())), [], [])
  | _, _ => none
def E37 : Env := fun g => envGetL [(97, ⟨true, s97, none⟩)] g
theorem E37ok : EnvOk Try.prog E37 := envOk_cons ok97 (envOk_nil _)
theorem ok37 : Ok Try.prog 37 (s37) := ok_of_wpaH (E := E37) mixed tts E37ok fn37 fun args H v H' o hs ho => by
  split at hs
  · rename_i a b
    cases hs
    refine ⟨_, HLe.nil, ?_⟩
    cbv
    repeat' first
      | (refine alt_t (by assumption) ?_; cbv)
      | (refine alt_f (by assumption) ?_; cbv)
      | (refine alt_b (fun h => ?_) (fun h => ?_) <;> cbv)
      | (refine Br.mk (fun h => ?_) (fun h => ?_) <;> cbv)
      | (refine Ob.mk ?_ ?_; rotate_left; cbv)
      | (refine Lex.mk (by kernel_rfl) ?_; cbv)
    all_goals (try simp only [Unit.unit, Int.ofNat_lt, Int.ofNat_le, BE.val, IE.val, NE.val, ltB_iff, ltB_no, leB_iff, leB_no, Int.toNat_natCast, Nat.zero_add, Nat.add_zero, Nat.mul_one, forced, beq_iff_eq, beq_eq_false_iff_ne, bne_iff_ne, bne_eq_false_iff_eq] at *)
    all_goals first | with_reducible rfl | rfl | grind
  · cases hs
theorem fn47 : FnOk Try.prog 47 Try.f47 (bodyOf Try.f47) := ⟨Try.func47, rfl, by rfl⟩
def s47 : Spec := hspec fun args H => match args, H with
  | [.c (.f .f32 a)], [] => some (F (sizeF (a ())), [], [])
  | _, _ => none
def E47 : Env := fun g => envGetL [(112, ⟨true, s112, none⟩)] g
theorem E47ok : EnvOk Try.prog E47 := envOk_cons ok112 (envOk_nil _)
theorem ok47 : Ok Try.prog 47 (s47) := ok_of_wpaH (E := E47) mixed tts E47ok fn47 fun args H v H' o hs ho => by
  split at hs
  · rename_i a
    cases hs
    refine ⟨_, HLe.nil, ?_⟩
    cbv
    repeat' first
      | (refine alt_t (by assumption) ?_; cbv)
      | (refine alt_f (by assumption) ?_; cbv)
      | (refine alt_b (fun h => ?_) (fun h => ?_) <;> cbv)
      | (refine Br.mk (fun h => ?_) (fun h => ?_) <;> cbv)
      | (refine Ob.mk ?_ ?_; rotate_left; cbv)
      | (refine Lex.mk (by kernel_rfl) ?_; cbv)
    all_goals (try simp only [Unit.unit, Int.ofNat_lt, Int.ofNat_le, BE.val, IE.val, NE.val, ltB_iff, ltB_no, leB_iff, leB_no, Int.toNat_natCast, Nat.zero_add, Nat.add_zero, Nat.mul_one, forced, beq_iff_eq, beq_eq_false_iff_ne, bne_iff_ne, bne_eq_false_iff_eq] at *)
    all_goals first | with_reducible rfl | rfl | grind
  · cases hs
theorem fn35 : FnOk Try.prog 35 Try.f35 (bodyOf Try.f35) := ⟨Try.func35, rfl, by rfl⟩
def s35 : Spec := hspec fun args H => match args, H with
  | [.c (.sl 0 (.x o) (.x n)), .c (.sl 1 (.x o') (.x n'))], [some ⟨false, 0, x⟩, some ⟨false, 0, x'⟩] => match x.toFl, x'.toFl with
    | some l, some l' => some (vB (decide (n () = n' ()) && allI (rowSame eqW (o ()) (o' ()) (l ()) (l' ())) (n ())), [none, none], [fun _ => o () + n () ≤ (l ()).length ∧ n () ≤ 1048576, fun _ => o' () + n' () ≤ (l' ()).length ∧ n' () ≤ 1048576])
    | _, _ => none
  | _, _ => none
def E35 : Env := fun g => envGetL [(97, ⟨true, s97, none⟩)] g
theorem E35ok : EnvOk Try.prog E35 := envOk_cons ok97 (envOk_nil _)
set_option maxRecDepth 100000 in
set_option maxHeartbeats 1000000 in
theorem ok35 : Ok Try.prog 35 (s35) := ok_of_wpaH (E := E35) mixed tts E35ok fn35 fun args H v H' o hs ho => by
  split at hs
  · rename_i o n o' n' x x'
    split at hs
    · rename_i l l' hl hl'
      cases hs
      obtain ⟨⟨hlen, hbig⟩, ⟨hlen', hbig'⟩⟩ := ho.two
      try simp only [Unit.unit] at hlen hbig hlen' hbig'
      refine ⟨_, HLe.cons (BLe.fl hl) (HLe.cons (BLe.fl hl') HLe.nil), ?_⟩
      cbv
      refine Br.mk (fun h => ?_) (fun h => ?_)
      · have hn := intne h
        cbv
        repeat' (refine Ob.mk ?_ ?_; rotate_left; cbv)
        all_goals (try simp only [Unit.unit, BE.val, IE.val, NE.val] at *)
        all_goals first | with_reducible rfl | (rw [decide_eq_false hn]; done) | (rw [decide_eq_false hn]; rfl)
      have hn := inteq h
      clear h
      cbv
      refine loop_rule (α := Unit → Nat) (c := ⟨tt, E35, 2⟩)
          (fun i => fr 27 [(0, .c (.sl 0 (.x o) (.x n))), (1, .c (.sl 1 (.x o') (.x n'))), (5, .c (.i .i64 (.x fun _ => i ())))]) (fun i => [some ⟨false, 0, .fl l⟩, some ⟨false, 0, .fl l'⟩])
          (fun i => i () ≤ n () ∧ allI (rowSame eqW (o ()) (o' ()) (l ()) (l' ())) (i ()) = true) (fun i => n () - i ()) (fun _ => n () + 1) ?_ ?_
      · refine .mk (fun _ => 0) ⟨Nat.zero_le _, rfl⟩ (by dsimp only; omega) ?_
        cbv
        repeat' (refine Ob.mk ?_ ?_; rotate_left)
        all_goals (try simp only [Unit.unit, Int.ofNat_lt, Int.ofNat_le, BE.val, IE.val, NE.val, ltB_iff, ltB_no, leB_iff, leB_no, Int.toNat_natCast, Nat.zero_add, Nat.add_zero, Nat.mul_one, forced, beq_iff_eq, beq_eq_false_iff_ne, bne_iff_ne, bne_eq_false_iff_eq] at *)
        all_goals first | with_reducible rfl | trivial | rfl
      · intro i hi
        cbv
        repeat' first
          | (refine alt_t (by assumption) ?_; cbv)
          | (refine alt_f (by assumption) ?_; cbv)
          | (refine alt_b (fun h => ?_) (fun h => ?_) <;> cbv)
          | (refine Br.mk (fun h => ?_) (fun h => ?_) <;> cbv)
          | (refine Ob.mk ?_ ?_; rotate_left; cbv)
          | (refine Lex.mk (by decide +kernel) ?_; cbv)
          | (refine Next.mk (fun _ => i () + 1) ?_ ?_ ?_)
        all_goals (try simp only [Unit.unit, Int.ofNat_lt, Int.ofNat_le, BE.val, IE.val, NE.val, ltB_iff, ltB_no, leB_iff, leB_no, Int.toNat_natCast, Nat.zero_add, Nat.add_zero, Nat.mul_one, forced, beq_iff_eq, beq_eq_false_iff_ne, bne_iff_ne, bne_eq_false_iff_eq] at *)
        all_goals (try simp only [Nat.zero_add] at *)
        all_goals first | with_reducible rfl | omega | exact wrap64_nat (by omega) | (refine ⟨Int.natCast_nonneg _, ?_⟩; omega) | omega | exact ⟨Int.natCast_nonneg _, by omega⟩ | (rw [allI_no (i := i ⟨⟩) (by omega) (by simpa [rowSame] using not_t (by assumption)), Bool.and_false]; done) | (refine ⟨by omega, ?_⟩; simp only [allI, hi.2, Bool.true_and]; simpa [rowSame] using not_f (by assumption)) | (rw [show i ⟨⟩ = n ⟨⟩ by omega] at hi; rw [hi.2, decide_eq_true hn]; rfl) | grind
    · cases hs
  · cases hs
def s35n : Spec := hspec fun args H => match args, H with
  | [.c .sn, .c (.sl 0 (.x _) (.x n))], [some ⟨false, 0, x⟩] => match x.toFl with
    | some _ => some (vB (decide (0 = n ())), [none], [])
    | none => none
  | _, _ => none
set_option maxRecDepth 100000 in
set_option maxHeartbeats 1000000 in
theorem ok35n : Ok Try.prog 35 s35n := ok_of_wpaH (E := E35) mixed tts E35ok fn35 fun args H v H' o hs ho => by
  split at hs
  · rename_i o n x
    split at hs
    · rename_i l hl
      cases hs
      refine ⟨_, HLe.cons (BLe.fl hl) HLe.nil, ?_⟩
      cbv
      refine Br.mk (fun h => ?_) (fun h => ?_)
      · have hn : ¬ (0 = n ⟨⟩) := intne (n := 0) h
        cbv
        repeat' (refine Ob.mk ?_ ?_; rotate_left; cbv)
        all_goals (try simp only [Unit.unit, BE.val, IE.val, NE.val] at *)
        all_goals first | with_reducible rfl | (rw [decide_eq_false hn]; done) | (rw [decide_eq_false hn]; rfl)
      · have hn : 0 = n ⟨⟩ := inteq (n := 0) h
        cbv
        repeat' first
          | (refine Ob.mk ?_ ?_; rotate_left; cbv)
          | (refine Loop.mk 2 ?_; cbv)
          | (refine Gen.same ?_; cbv)
        all_goals (try simp only [Unit.unit, BE.val, IE.val, NE.val] at *)
        all_goals first | with_reducible rfl | (rw [decide_eq_true hn]; done) | (rw [decide_eq_true hn]; rfl)
    · cases hs
  · cases hs
theorem ok35c : Ok Try.prog 35 (orSpec s35 s35n) := ok_or ok35 ok35n
theorem fn99 : FnOk Try.prog 99 Try.f99 (bodyOf Try.f99) := ⟨Try.func99, rfl, by rfl⟩
def rowEq (o o' : Nat) (l l' : List Int) (i : Nat) : Bool := l.getD (o + i) 0 == l'.getD (o' + i) 0
def s99 : Spec := hspec fun args H => match args, H with
  | [.c (.sl 0 (.x o) (.x n)), .c (.sl 1 (.x o') (.x n'))], [some ⟨false, 0, x⟩, some ⟨false, 0, x'⟩] => match x.toIt .i64, x'.toIt .i64 with
    | some l, some l' => some (vB (decide (n () = n' ()) && allI (rowEq (o ()) (o' ()) (l ()) (l' ())) (n ())), [none, none], [fun _ => o () + n () ≤ (l ()).length ∧ n () ≤ 1048576, fun _ => o' () + n' () ≤ (l' ()).length ∧ n' () ≤ 1048576])
    | _, _ => none
  | _, _ => none
set_option maxRecDepth 100000 in
set_option maxHeartbeats 1000000 in
theorem ok99 : Ok Try.prog 99 (s99) := ok_of_wpaH (E := envGetL []) mixed tts (envOk_nil _) fn99 fun args H v H' o hs ho => by
  split at hs
  · rename_i o n o' n' x x'
    split at hs
    · rename_i l l' hl hl'
      cases hs
      obtain ⟨⟨hlen, hbig⟩, ⟨hlen', hbig'⟩⟩ := ho.two
      simp only [Unit.unit] at hlen hbig hlen' hbig'
      refine ⟨_, HLe.cons (BLe.it hl) (HLe.cons (BLe.it hl') HLe.nil), ?_⟩
      cbv
      refine Br.mk (fun h => ?_) (fun h => ?_)
      · have hn := intne h
        cbv
        repeat' (refine Ob.mk ?_ ?_; rotate_left; cbv)
        all_goals (try simp only [Unit.unit, BE.val, IE.val, NE.val] at *)
        all_goals first | with_reducible rfl | (rw [decide_eq_false hn]; done) | (rw [decide_eq_false hn]; rfl)
      have hn := inteq h
      clear h
      cbv
      refine loop_rule (α := Unit → Nat) (c := ⟨tt, (envGetL []), 2⟩)
          (fun i => fr 26 [(0, .c (.sl 0 (.x o) (.x n))), (1, .c (.sl 1 (.x o') (.x n'))), (5, .c (.i .i64 (.x fun _ => i ())))]) (fun i => [some ⟨false, 0, .it .i64 l⟩, some ⟨false, 0, .it .i64 l'⟩])
          (fun i => i () ≤ n () ∧ allI (rowEq (o ()) (o' ()) (l ()) (l' ())) (i ()) = true) (fun i => n () - i ()) (fun _ => n () + 1) ?_ ?_
      · refine .mk (fun _ => 0) ⟨Nat.zero_le _, rfl⟩ (by dsimp only; omega) ?_
        cbv
        repeat' (refine Ob.mk ?_ ?_; rotate_left)
        all_goals (try simp only [Unit.unit, Int.ofNat_lt, Int.ofNat_le, BE.val, IE.val, NE.val, ltB_iff, ltB_no, leB_iff, leB_no, Int.toNat_natCast, Nat.zero_add, Nat.add_zero, Nat.mul_one, forced, beq_iff_eq, beq_eq_false_iff_ne, bne_iff_ne, bne_eq_false_iff_eq] at *)
        all_goals first | with_reducible rfl | trivial | rfl
      · intro i hi
        cbv
        repeat' first
          | (refine alt_t (by assumption) ?_; cbv)
          | (refine alt_f (by assumption) ?_; cbv)
          | (refine alt_b (fun h => ?_) (fun h => ?_) <;> cbv)
          | (refine Br.mk (fun h => ?_) (fun h => ?_) <;> cbv)
          | (refine Ob.mk ?_ ?_; rotate_left; cbv)
          | (refine Lex.mk (by decide +kernel) ?_; cbv)
          | (refine Next.mk (fun _ => i () + 1) ?_ ?_ ?_)
        all_goals (try simp only [Unit.unit, Int.ofNat_lt, Int.ofNat_le, BE.val, IE.val, NE.val, ltB_iff, ltB_no, leB_iff, leB_no, Int.toNat_natCast, Nat.zero_add, Nat.add_zero, Nat.mul_one, forced, beq_iff_eq, beq_eq_false_iff_ne, bne_iff_ne, bne_eq_false_iff_eq] at *)
        all_goals (try simp only [Nat.zero_add, Nat.mul_one] at *)
        all_goals first | with_reducible rfl | omega | exact wrap64_nat (by omega) | (refine ⟨Int.natCast_nonneg _, ?_⟩; omega) | omega | exact ⟨Int.natCast_nonneg _, by omega⟩ | (rw [allI_no (i := i ⟨⟩) (by omega) (by simp_all [rowEq]), Bool.and_false]; done) | (refine ⟨by omega, ?_⟩; simp only [allI, hi.2, Bool.true_and]; simp_all [rowEq]; done) | (rw [show i ⟨⟩ = n ⟨⟩ by omega] at hi; rw [hi.2, decide_eq_true hn]; rfl) | grind
    · cases hs
  · cases hs
theorem fn100 : FnOk Try.prog 100 Try.f100 (bodyOf Try.f100) := ⟨Try.func100, rfl, by rfl⟩
def hasI (o : Nat) (l : List Int) (k : Int) (i : Nat) : Bool := !(l.getD (o + i) 0 == k)
def s100 : Spec := hspec fun args H => match args, H with
  | [.c (.sl 0 (.x o) (.x n)), .c (.i .i64 (.x k))], [some ⟨false, 0, x⟩] => match x.toIt .i64 with
    | some l => some (vB (!allI (hasI (o ()) (l ()) (k ())) (n ())), [none], [fun _ => o () + n () ≤ (l ()).length ∧ n () ≤ 1048576])
    | _ => none
  | _, _ => none
set_option maxRecDepth 100000 in
set_option maxHeartbeats 1000000 in
theorem ok100 : Ok Try.prog 100 (s100) := ok_of_wpaH (E := envGetL []) mixed tts (envOk_nil _) fn100 fun args H v H' o hs ho => by
  split at hs
  · rename_i o n k x
    split at hs
    · rename_i l hl
      cases hs
      obtain ⟨hlen, hbig⟩ := ho.one
      simp only [Unit.unit] at hlen hbig
      refine ⟨_, HLe.cons (BLe.it hl) HLe.nil, ?_⟩
      cbv
      refine loop_rule (α := Unit → Nat) (c := ⟨tt, (envGetL []), 1⟩)
          (fun i => fr 18 [(0, .c (.sl 0 (.x o) (.x n))), (1, .c (.i .i64 (.x k))), (5, .c (.i .i64 (.x fun _ => i ())))]) (fun i => [some ⟨false, 0, .it .i64 l⟩])
          (fun i => i () ≤ n () ∧ allI (hasI (o ()) (l ()) (k ())) (i ()) = true) (fun i => n () - i ()) (fun _ => n () + 1) ?_ ?_
      · refine .mk (fun _ => 0) ⟨Nat.zero_le _, rfl⟩ (by dsimp only; omega) ?_
        cbv
        repeat' (refine Ob.mk ?_ ?_; rotate_left)
        all_goals (try simp only [Unit.unit, Int.ofNat_lt, Int.ofNat_le, BE.val, IE.val, NE.val, ltB_iff, ltB_no, leB_iff, leB_no, Int.toNat_natCast, Nat.zero_add, Nat.add_zero, Nat.mul_one, forced, beq_iff_eq, beq_eq_false_iff_ne, bne_iff_ne, bne_eq_false_iff_eq] at *)
        all_goals first | with_reducible rfl | trivial | rfl
      · intro i hi
        cbv
        repeat' first
          | (refine alt_t (by assumption) ?_; cbv)
          | (refine alt_f (by assumption) ?_; cbv)
          | (refine alt_b (fun h => ?_) (fun h => ?_) <;> cbv)
          | (refine Br.mk (fun h => ?_) (fun h => ?_) <;> cbv)
          | (refine Ob.mk ?_ ?_; rotate_left; cbv)
          | (refine Lex.mk (by decide +kernel) ?_; cbv)
          | (refine Next.mk (fun _ => i () + 1) ?_ ?_ ?_)
        all_goals (try simp only [Unit.unit, Int.ofNat_lt, Int.ofNat_le, BE.val, IE.val, NE.val, ltB_iff, ltB_no, leB_iff, leB_no, Int.toNat_natCast, Nat.zero_add, Nat.add_zero, Nat.mul_one, forced, beq_iff_eq, beq_eq_false_iff_ne, bne_iff_ne, bne_eq_false_iff_eq] at *)
        all_goals (try simp only [Nat.zero_add, Nat.mul_one] at *)
        all_goals first | with_reducible rfl | omega | exact wrap64_nat (by omega) | (refine ⟨Int.natCast_nonneg _, ?_⟩; omega) | omega | exact ⟨Int.natCast_nonneg _, by omega⟩ | (rw [allI_no (i := i ⟨⟩) (by omega) (by simp_all [hasI])]; rfl) | (refine ⟨by omega, ?_⟩; simp only [allI, hi.2, Bool.true_and]; simp_all [hasI]; done) | (rw [show i ⟨⟩ = n ⟨⟩ by omega] at hi; rw [hi.2]; rfl) | grind
    · cases hs
  · cases hs
theorem fn42 : FnOk Try.prog 42 Try.f42 (bodyOf Try.f42) := ⟨Try.func42, rfl, by rfl⟩
theorem fn43 : FnOk Try.prog 43 Try.f43 (bodyOf Try.f43) := ⟨Try.func43, rfl, by rfl⟩
def E42 : Env := fun g => envGetL [(99, ⟨true, s99, none⟩)] g
theorem E42ok : EnvOk Try.prog E42 := envOk_cons ok99 (envOk_nil _)
theorem ok42 : Ok Try.prog 42 (s99) := ok_of_wpaH (E := E42) mixed tts E42ok fn42 fun args H v H' o hs ho => by
  split at hs
  · rename_i o n o' n' x x'
    split at hs
    · rename_i l l' hl hl'
      cases hs
      obtain ⟨h1, h2⟩ := ho.two
      refine ⟨_, HLe.cons (BLe.it hl) (HLe.cons (BLe.it hl') HLe.nil), ?_⟩
      cbv
      repeat' (refine Ob.mk ?_ ?_; rotate_left; cbv)
      all_goals (try simp only [Unit.unit, Int.ofNat_lt, Int.ofNat_le, BE.val, IE.val, NE.val, ltB_iff, ltB_no, leB_iff, leB_no, Int.toNat_natCast, Nat.zero_add, Nat.add_zero, Nat.mul_one, forced, beq_iff_eq, beq_eq_false_iff_ne, bne_iff_ne, bne_eq_false_iff_eq] at *)
      all_goals first | with_reducible rfl | exact h1 | exact h2 | rfl
    · cases hs
  · cases hs
def E43 : Env := fun g => envGetL [(100, ⟨true, s100, none⟩)] g
theorem E43ok : EnvOk Try.prog E43 := envOk_cons ok100 (envOk_nil _)
theorem ok43 : Ok Try.prog 43 (s100) := ok_of_wpaH (E := E43) mixed tts E43ok fn43 fun args H v H' o hs ho => by
  split at hs
  · rename_i o n k x
    split at hs
    · rename_i l hl
      cases hs
      have h1 := ho.one
      refine ⟨_, HLe.cons (BLe.it hl) HLe.nil, ?_⟩
      cbv
      repeat' (refine Ob.mk ?_ ?_; rotate_left; cbv)
      all_goals (try simp only [Unit.unit, Int.ofNat_lt, Int.ofNat_le, BE.val, IE.val, NE.val, ltB_iff, ltB_no, leB_iff, leB_no, Int.toNat_natCast, Nat.zero_add, Nat.add_zero, Nat.mul_one, forced, beq_iff_eq, beq_eq_false_iff_ne, bne_iff_ne, bne_eq_false_iff_eq] at *)
      all_goals first | with_reducible rfl | exact h1 | rfl
    · cases hs
  · cases hs
/-! ## what is drawn -/
theorem pk_nat {L : List Int} (h : bytesOk L) {k : Nat} (hk : 1 ≤ k) (q : Int × Int) : ∃ r : Nat, r < k ∧ pkV L (k : Int) q = (r : Int) := by
  have := pkV_bd h (k := (k : Int)) (by omega) q
  exact ⟨(pkV L (k : Int) q).toNat, by omega, by omega⟩
def fq (x : Int) (d : Nat) : Nat := fop .quo .f32 (floatOfInt .f32 x) d
/-- a speed: so many 64ths -/
def spd (m : Nat) : Nat := fq (m : Int) 1115684864
def allR (n : Nat) (p : Nat → Bool) : Bool := (List.range n).all p
theorem allR_at {n : Nat} {p : Nat → Bool} (h : allR n p = true) {i : Nat} (hi : i < n) : p i = true := List.all_eq_true.1 h i (List.mem_range.2 hi)
theorem d_stiff : allR 4 (fun r => isStiff (floatOfInt .f32 ([64, 256, 1000, 4096].getD r 0))) = true := by decide +kernel
theorem d_speed : allR 20 (fun r => fq (4 + (r : Int)) 1082130432 == spd (64 + 16 * r)) = true := by decide +kernel
theorem d_feed : allR 40 (fun r => isFeed (fq (r : Int) 1082130432)) = true := by decide +kernel
theorem d_spd : allR 400 (fun m => isSpd (spd (m + 50))) = true := by decide +kernel
theorem d_add : allR 400 (fun m => allR 9 fun r => fop .add .f32 (spd (m + 50)) (fq ((r : Int) - 3) 1115684864) == spd (m + 50 + r - 3)) = true := by decide +kernel
theorem d_len : allR 30 (fun r => isSpd (fq (2 + (r : Int)) 1073741824)) = true := by decide +kernel
theorem d_ten : allR 80 (fun r => isPlain (fq ((r : Int) - 8) 1082130432)) = true := by decide +kernel
theorem w4 {r : Nat} (h : r < 1000) (c : Int) (h1 : -1000 ≤ c) (h2 : c ≤ 1000) : IntKind.wrap .i64 (c + (r : Int)) = c + (r : Int) := wrap64 (by omega) (by omega)
theorem w5 {r : Nat} (h : r < 1000) (c : Int) (h1 : -1000 ≤ c) (h2 : c ≤ 1000) : IntKind.wrap .i64 ((r : Int) - c) = (r : Int) - c := wrap64 (by omega) (by omega)
section
variable {L : List Int} (h : bytesOk L) (q : Int × Int)
include h
theorem dr_stiff : isStiff (drSt L q) = true := by
  obtain ⟨r, h1, h2⟩ := pk_nat h (k := 4) (by decide) q
  have e : pkV L 4 q = (r : Int) := h2
  unfold drSt
  rw [e, Int.toNat_natCast]
  exact allR_at d_stiff h1
theorem dr_sp : ∃ m, 50 ≤ m + 0 ∧ drSp L q = spd m ∧ 64 ≤ m ∧ m ≤ 368 := by
  obtain ⟨r, h1, h2⟩ := pk_nat h (k := 20) (by decide) (drQ1 L q)
  have e : pkV L 20 (drQ1 L q) = (r : Int) := h2
  refine ⟨64 + 16 * r, by omega, ?_, by omega, by omega⟩
  unfold drSp
  rw [e, w4 (by omega) 4 (by decide) (by decide)]
  exact beq_iff_eq.1 (allR_at d_speed h1)
theorem spd_ok {m : Nat} (h1 : 50 ≤ m) (h2 : m < 450) : isSpd (spd m) = true := by
  have := allR_at d_spd (i := m - 50) (by omega)
  rw [show m - 50 + 50 = m by omega] at this
  exact this
theorem dr_feed : isFeed (drFd L q) = true := by
  obtain ⟨r, h1, h2⟩ := pk_nat h (k := 40) (by decide) (drQ2 L q)
  have e : pkV L 40 (drQ2 L q) = (r : Int) := h2
  unfold drFd
  rw [e]
  exact allR_at d_feed h1
theorem sp_len : isSpd (spLen L q) = true := by
  obtain ⟨r, h1, h2⟩ := pk_nat h (k := 30) (by decide) (spQb L q)
  have e : pkV L 30 (spQb L q) = (r : Int) := h2
  unfold spLen
  rw [e, w4 (by omega) 2 (by decide) (by decide)]
  exact allR_at d_len h1
/-- a tension that is drawn -/
theorem sp_tenr : ∃ r : Nat, r < 80 ∧ spTen L q = fq ((r : Int) - 8) 1082130432 := by
  obtain ⟨r, h1, h2⟩ := pk_nat h (k := 80) (by decide) (spQc L q)
  have e : pkV L 80 (spQc L q) = (r : Int) := h2
  refine ⟨r, h1, ?_⟩
  unfold spTen
  rw [e, w5 (by omega) 8 (by decide) (by decide)]
  rfl
theorem sp_ten : isPlain (spTen L q) = true := by
  obtain ⟨r, h1, e⟩ := sp_tenr h q
  rw [e]
  exact allR_at d_ten h1
theorem sp_v {m : Nat} (h1 : 50 ≤ m) (h2 : m < 450) : ∃ m', spV L q (spd m) = spd m' ∧ m ≤ m' + 3 ∧ m' ≤ m + 5 := by
  unfold spV
  split
  · obtain ⟨r, h3, h4⟩ := pk_nat h (k := 9) (by decide) (spQa L q)
    have e : pkV L 9 (spQa L q) = (r : Int) := h4
    rw [e, w5 (by omega) 3 (by decide) (by decide)]
    have := allR_at (allR_at d_add (i := m - 50) (by omega)) h3
    rw [show m - 50 + 50 = m by omega] at this
    exact ⟨m + r - 3, beq_iff_eq.1 this, by omega, by omega⟩
  · exact ⟨m, rfl, by omega, by omega⟩
theorem dr_i : ∀ i, i ≤ 4 → ∃ m, (drI L q i).2 = spd m ∧ 64 ≤ m + 3 * i ∧ m ≤ 368 + 5 * i
  | 0, _ => by
    obtain ⟨m, _, h1, h2, h3⟩ := dr_sp h q
    exact ⟨m, h1, by omega, by omega⟩
  | i + 1, hi => by
    obtain ⟨m, h1, h2, h3⟩ := dr_i i (by omega)
    obtain ⟨m', h4, h5, h6⟩ := sp_v h (drI L q i).1 (m := m) (by omega) (by omega)
    refine ⟨m', ?_, by omega, by omega⟩
    show spV L (drI L q i).1 (drI L q i).2 = _
    rw [h1]; exact h4
end
theorem getD_app_l {l r : List Nat} {j : Nat} (h : j < l.length) : (l ++ r).getD j 0 = l.getD j 0 := by
  rw [List.getD_eq_getElem?_getD, List.getD_eq_getElem?_getD, List.getElem?_append_left h]
theorem getD_app_r {l r : List Nat} {j : Nat} (h : l.length ≤ j) : (l ++ r).getD j 0 = r.getD (j - l.length) 0 := by
  rw [List.getD_eq_getElem?_getD, List.getD_eq_getElem?_getD, List.getElem?_append_right h]
/-- the cells of a span that is drawn -/
theorem drL_at (L : List Int) (q : Int × Int) : ∀ {i n : Nat}, i < n → (drL L q n).getD (i * 3) 0 = spLen L (drI L q i).1 ∧ (drL L q n).getD (i * 3 + 1) 0 = (drI L q (i + 1)).2 ∧ (drL L q n).getD (i * 3 + 2) 0 = spTen L (drI L q i).1
  | i, n + 1, h => by
    have hl := drL_len L q n
    by_cases e : i = n
    · subst e
      have key : ∀ c, (drL L q (i + 1)).getD (i * 3 + c) 0 = [spLen L (drI L q i).1, (drI L q (i + 1)).2, spTen L (drI L q i).1].getD c 0 := by
        intro c
        show (drL L q i ++ [spLen L (drI L q i).1, (drI L q (i + 1)).2, spTen L (drI L q i).1]).getD (i * 3 + c) 0 = _
        rw [getD_app_r (by omega), hl, Nat.add_sub_cancel_left]
      exact ⟨key 0, key 1, key 2⟩
    · have := drL_at L q (i := i) (n := n) (by omega)
      have key : ∀ j, j < n * 3 → (drL L q (n + 1)).getD j 0 = (drL L q n).getD j 0 := by
        intro j hj
        show (drL L q n ++ _).getD j 0 = _
        rw [getD_app_l (by omega)]
      rw [key _ (by omega), key _ (by omega), key _ (by omega)]
      exact this
/-- what the speeds, tensions of drawn webs are -/
structure Drawn (sp : Nat) (l : List Nat) (n : Nat) : Prop where
  speed : ∀ i, i < n → ∃ m, 50 ≤ m ∧ m < 450 ∧ l.getD (i * 3 + 1) 0 = spd m
  ten : ∀ i, i < n → ∃ r : Nat, r < 80 ∧ l.getD (i * 3 + 2) 0 = fq ((r : Int) - 8) 1082130432
theorem dr_drawn {L : List Int} (h : bytesOk L) (q : Int × Int) : Drawn (drSp L q) (drW L q) (drN L q) := by
  have hN := drN_bd h q
  refine ⟨fun i hi => ?_, fun i hi => ?_⟩
  · obtain ⟨_, e, _⟩ := drL_at L q hi
    obtain ⟨m, h1, h2, h3⟩ := dr_i h q (i + 1) (by omega)
    refine ⟨m, by omega, by omega, ?_⟩
    unfold drW
    rw [e, h1]
  · obtain ⟨_, _, e⟩ := drL_at L q hi
    unfold drW
    rw [e]
    exact sp_tenr h _
/-- A WEB THAT IS DRAWN IS VALID -/
theorem dr_ok {L : List Int} (h : bytesOk L) (q : Int × Int) : webOk (drSt L q) (drSp L q) (drFd L q) (drW L q) (drN L q) = true := by
  have hN := drN_bd h q
  unfold webOk
  obtain ⟨m, _, h1, h2, h3⟩ := dr_sp h q
  rw [dr_stiff h q, dr_feed h q, h1, spd_ok h (by omega) (by omega), decide_eq_true ⟨hN.1, Nat.le_trans hN.2.1 (by decide)⟩, allI_all fun i hi => ?_]
  · rfl
  · unfold spanOk drW
    obtain ⟨e1, e2, e3⟩ := drL_at L q hi
    obtain ⟨m, h4, h5, h6⟩ := dr_i h q (i + 1) (by omega)
    rw [e1, e2, e3, h4, sp_len h, spd_ok h (by omega) (by omega), sp_ten h]
    rfl
theorem dr_len {L : List Int} (q : Int × Int) : (drW L q).length = 3 * drN L q := by unfold drW; rw [drL_len]; omega
/-! ## breaks -/
theorem runW_next (st sp fd tm n : Nat) (l : List Nat) : ∀ i, runW st sp fd tm n (stepW st sp fd tm l n) i = runW st sp fd tm n l (i + 1)
  | 0 => rfl
  | i + 1 => by
    show stepW st sp fd tm (runW st sp fd tm n (stepW st sp fd tm l n) i) n = stepW st sp fd tm (runW st sp fd tm n l (i + 1)) n
    rw [runW_next st sp fd tm n l i]
theorem fb_char {st sp fd tm n s : Nat} : ∀ {m : Nat} {k : Nat} {l : List Nat} {d w : Int}, fbreak st sp fd tm n s m (k : Int) l = (d, w, 0) →
    ∃ j, j ≤ m ∧ d = ((k + j : Nat) : Int) ∧ (∀ i, i < j → lead (lowT (runW st sp fd tm n l i) s) n = n ∧ webOk st sp fd (runW st sp fd tm n l (i + 1)) n = true) ∧
      lead (lowT (runW st sp fd tm n l j) s) n < n ∧ w = (lead (lowT (runW st sp fd tm n l j) s) n : Nat)
  | 0, k, l, d, w, h => by
    unfold fbreak at h
    split at h
    · rename_i h1
      simp only [Prod.mk.injEq] at h
      exact ⟨0, Nat.le_refl _, by omega, fun i hi => by omega, h1, h.2.1.symm⟩
    · simp at h
  | m + 1, k, l, d, w, h => by
    unfold fbreak at h
    split at h
    · rename_i h1
      simp only [Prod.mk.injEq] at h
      exact ⟨0, Nat.zero_le _, by omega, fun i hi => by omega, h1, h.2.1.symm⟩
    · rename_i h1
      split at h
      · rename_i h2
        have h' : fbreak st sp fd tm n s m ((k + 1 : Nat) : Int) (stepW st sp fd tm l n) = (d, w, 0) := h
        obtain ⟨j, g1, g2, g3, g4, g5⟩ := fb_char h'
        rw [runW_next] at g4 g5
        refine ⟨j + 1, by omega, by omega, fun i hi => ?_, g4, g5⟩
        cases i with
        | zero => exact ⟨Nat.le_antisymm (lead_le _ _) (Nat.le_of_not_lt h1), h2⟩
        | succ i =>
          have := g3 i (by omega)
          rw [runW_next, runW_next] at this
          exact this
      · simp at h
theorem break_char {st sp fd n s tm : Nat} {l : List Nat} {most : Int} (h : (breakW st sp fd l n s tm most).2.2 = 0) :
    ∃ j : Nat, (breakW st sp fd l n s tm most).1 = (j : Int) ∧ (∀ i, i < j → lead (lowT (runW st sp fd tm n l i) s) n = n ∧ webOk st sp fd (runW st sp fd tm n l (i + 1)) n = true) ∧
      lead (lowT (runW st sp fd tm n l j) s) n < n ∧ (breakW st sp fd l n s tm most).2.1 = (lead (lowT (runW st sp fd tm n l j) s) n : Nat) ∧ j ≤ most.toNat := by
  have hw : webOk st sp fd l n = true := by
    cases e : webOk st sp fd l n
    · rw [break_1 e] at h; cases h
    · rfl
  have hf : (isPlain s && isTime tm && isCount most) = true := by
    cases e : (isPlain s && isTime tm && isCount most)
    · rw [break_2 hw e] at h; cases h
    · rfl
  rw [break_go hw hf] at h ⊢
  generalize hr : fbreak st sp fd tm n s most.toNat 0 l = r at *
  obtain ⟨d, w, c⟩ := r
  have h : c = 0 := h
  subst h
  obtain ⟨j, g1, g2, g3, g4, g5⟩ := fb_char (k := 0) hr
  exact ⟨j, by rw [g2, Nat.zero_add], g3, g4, g5, g1⟩
/-- what it answers -/
theorem fb_code {st sp fd tm n s : Nat} : ∀ {m : Nat} {k : Int} {l : List Nat}, (fbreak st sp fd tm n s m k l).2.2 = 0 ∨ (fbreak st sp fd tm n s m k l).2.2 = 6 ∨ (fbreak st sp fd tm n s m k l).2.2 = 4
  | 0, k, l => by unfold fbreak; split <;> simp
  | m + 1, k, l => by
    unfold fbreak
    split
    · simp
    · split
      · exact fb_code
      · simp
/-! ## a dancer that does nothing -/
theorem d_mul0 : allR 40 (fun a => allR 80 fun r => let x := fop .mul .f32 0 (fop .sub .f32 (fq (a : Int) 1082130432) (fq ((r : Int) - 8) 1082130432)); x == 0 || x == 2147483648) = true := by decide +kernel
theorem d_add0 : allR 400 (fun m => fop .add .f32 (spd (m + 50)) 0 == spd (m + 50) && fop .add .f32 (spd (m + 50)) 2147483648 == spd (m + 50)) = true := by decide +kernel
theorem idle_speed {m a r : Nat} (h1 : 50 ≤ m) (h2 : m < 450) (ha : a < 40) (hr : r < 80) :
    fop .add .f32 (spd m) (fop .mul .f32 0 (fop .sub .f32 (fq (a : Int) 1082130432) (fq ((r : Int) - 8) 1082130432))) = spd m := by
  have e1 := allR_at d_add0 (i := m - 50) (by omega)
  rw [show m - 50 + 50 = m by omega] at e1
  simp only [Bool.and_eq_true, beq_iff_eq] at e1
  have e2 := allR_at (allR_at d_mul0 ha) hr
  simp only [Bool.or_eq_true, beq_iff_eq] at e2
  rcases e2 with e | e <;> rw [e]
  · exact e1.1
  · exact e1.2
theorem set_same {l : List Nat} {j : Nat} : l.set j (l.getD j 0) = l := by
  refine List.ext_getElem? fun i => ?_
  rw [List.getElem?_set]
  split
  · rename_i h
    subst h
    split
    · rename_i h2
      rw [List.getD_eq_getElem?_getD, List.getElem?_eq_getElem h2]; rfl
    · rename_i h2
      rw [List.getElem?_eq_none (by omega)]
  · rfl
theorem idle_dance {sp : Nat} {l : List Nat} {n a : Nat} (hd : Drawn sp l n) (ha : a < 40) {i : Nat} (hi : i < n) : danceL (fq (a : Int) 1082130432) 0 i l = l := by
  unfold danceL
  obtain ⟨m, h1, h2, e1⟩ := hd.speed i hi
  obtain ⟨r, h3, e2⟩ := hd.ten i hi
  have e : fop .add .f32 (l.getD (i * 3 + 1) 0) (fop .mul .f32 0 (fop .sub .f32 (fq (a : Int) 1082130432) (l.getD (i * 3 + 2) 0))) = l.getD (i * 3 + 1) 0 := by
    rw [e1, e2]; exact idle_speed h1 h2 ha h3
  rw [e]
  exact set_same
theorem d_plain : allR 40 (fun a => isPlain (fq (a : Int) 1082130432)) = true := by decide +kernel
theorem d_time : allR 20 (fun a => isTime (fq (a : Int) 1115684864)) = true := by decide +kernel
theorem d_strong : allR 120 (fun a => isPlain (fq (a : Int) 1082130432)) = true := by decide +kernel
theorem d_fast : allR 60 (fun a => isSpd (fq (1 + (a : Int)) 1082130432)) = true := by decide +kernel
theorem plain0 : isPlain 0 = true := by decide +kernel
theorem asked_0 {n : Nat} {i : Int} (h : 0 ≤ i ∧ i < (n : Int)) : askedC true i n = 0 := by
  unfold askedC
  rw [if_pos rfl, if_pos (by rw [inI_iff]; omega)]
theorem idle_code {st sp fd : Nat} {l : List Nat} {n a b : Nat} {i : Int} (hw : webOk st sp fd l n = true) (hd : Drawn sp l n) (ha : a < 40) (hb : b < 20) (hi : 0 ≤ i ∧ i < (n : Int)) :
    danceC st sp fd l n i (fq (a : Int) 1082130432) 0 (fq (b : Int) 1115684864) 1 = stepsC st sp fd l n (fq (b : Int) 1115684864) 1 := by
  have hit : i.toNat < n := by omega
  have hp := allR_at d_plain ha
  have ht := allR_at d_time hb
  have hc : isCount 1 = true := rfl
  unfold danceC stepsC
  rw [hw, asked_0 hi, if_pos rfl, hp, plain0, ht, hc]
  have e : allI (danceG st sp fd (fq (a : Int) 1082130432) 0 (fq (b : Int) 1115684864) i.toNat n l) (1 : Int).toNat = allI (goodW st sp fd (fq (b : Int) 1115684864) n l) (1 : Int).toNat := by
    show (true && danceG st sp fd (fq (a : Int) 1082130432) 0 (fq (b : Int) 1115684864) i.toNat n l 0) = (true && goodW st sp fd (fq (b : Int) 1115684864) n l 0)
    unfold danceG danceOk danceW goodW
    show (true && (webOk st sp fd (danceL _ 0 i.toNat l) n && webOk st sp fd (stepW st sp fd _ (danceL _ 0 i.toNat l) n) n)) = _
    rw [idle_dance hd ha hit, hw]
    rfl
  rw [e]
  rfl
theorem idle_web {st sp fd : Nat} {l : List Nat} {n a tm : Nat} {i : Int} (hd : Drawn sp l n) (ha : a < 40) (hi : 0 ≤ i ∧ i < (n : Int)) :
    danceN st sp fd (fq (a : Int) 1082130432) 0 tm i.toNat n l 1 = runW st sp fd tm n l 1 := by
  have hit : i.toNat < n := by omega
  show stepW st sp fd tm (danceL _ 0 i.toNat l) n = stepW st sp fd tm l n
  rw [idle_dance hd ha hit]
/-! ## other speeds and tensions -/
theorem getD_set_ne {l : List Nat} {i j v : Nat} (h : i ≠ j) : (l.set i v).getD j 0 = l.getD j 0 := by
  rw [List.getD_eq_getElem?_getD, List.getD_eq_getElem?_getD, List.getElem?_set_ne h]
theorem getD_set_eq {l : List Nat} {i v : Nat} (h : i < l.length) : (l.set i v).getD i 0 = v := by
  rw [List.getD_eq_getElem?_getD, List.getElem?_set_self h]; rfl
theorem webOk_at {st sp fd : Nat} {l : List Nat} {n : Nat} (hw : webOk st sp fd l n = true) {i : Nat} (hi : i < n) : isSpd (l.getD (i * 3) 0) = true ∧ isSpd (l.getD (i * 3 + 1) 0) = true ∧ isPlain (l.getD (i * 3 + 2) 0) = true := by
  unfold webOk at hw
  simp only [Bool.and_eq_true] at hw
  have := allI_at hw.2 hi
  unfold spanOk at this
  simp only [Bool.and_eq_true] at this
  exact ⟨this.1.1, this.1.2, this.2⟩
theorem webOk_set {st sp fd : Nat} {l : List Nat} {n : Nat} (hw : webOk st sp fd l n = true) (hl : l.length = 3 * n) {i v : Nat} (hi : i < n) {c : Nat} (hc : c = 1 ∧ isSpd v = true ∨ c = 2 ∧ isPlain v = true) : webOk st sp fd (l.set (i * 3 + c) v) n = true := by
  have hw' := hw
  unfold webOk at hw' ⊢
  simp only [Bool.and_eq_true] at hw'
  rw [hw'.1.1.1.1, hw'.1.1.1.2, hw'.1.1.2, hw'.1.2, allI_all fun j hj => ?_]
  · rfl
  · obtain ⟨h1, h2, h3⟩ := webOk_at hw hj
    unfold spanOk
    rcases hc with ⟨rfl, hv⟩ | ⟨rfl, hv⟩
    · rw [getD_set_ne (by omega), getD_set_ne (by omega : i * 3 + 1 ≠ j * 3 + 2), h1, h3]
      by_cases e : i = j
      · subst e; rw [getD_set_eq (by omega), hv]; rfl
      · rw [getD_set_ne (by omega), h2]; rfl
    · rw [getD_set_ne (by omega), getD_set_ne (by omega : i * 3 + 2 ≠ j * 3 + 1), h1, h2]
      by_cases e : i = j
      · subst e; rw [getD_set_eq (by omega), hv]; rfl
      · rw [getD_set_ne (by omega), h3]; rfl
theorem set_code {st sp fd : Nat} {l : List Nat} {n : Nat} (hw : webOk st sp fd l n = true) (hl : l.length = 3 * n) {i : Int} {v c : Nat} (hi : 0 ≤ i ∧ i < (n : Int)) (hc : c = 1 ∧ isSpd v = true ∨ c = 2 ∧ isPlain v = true) : setC st sp fd l n i c v = 0 :=
  set_0 (by rw [hw]; exact asked_0 hi) (webOk_set hw hl (by omega) hc)
theorem eqW_self (a : Nat) : eqW a a = true := by
  unfold eqW
  cases h : isNan a <;> simp
theorem webSame_self {st sp fd n : Nat} {l : List Nat} : webSame eqW st sp fd n l st sp fd n l = true := by
  refine same_y rfl ?_ (allI_all fun i _ => ?_)
  · simp [eqW_self]
  · simp [spanSame, eqW_self]
end Go.Proofs.Ythkjlbggipocdaa.Sh
