/- What the piled sheets functions of this seat compute, each shown once. No condition. -/
import Derived.Test.YtljemkijpbfcaaaFu
set_option linter.unusedVariables false
set_option linter.unusedSimpArgs false
namespace Go.Proofs.Ytljemkijpbfcaaa.Sh
open Go Go.Proofs
def same1 (g g' : Nat → Nat) (i : Nat) : Bool := sameF (cv (g i)) (cv (g' i))
theorem same1_all (g : Nat → Nat) : ∀ n, allI (same1 g g) n = true
  | 0 => rfl
  | n + 1 => by simp [allI, same1_all g n, same1, sameF_refl]
theorem at1_0 (l : List Nat) (o i : Nat) : l.getD (o + i) 0 = at2 l o i := rfl
def s42 : Spec := nspec fun args H => match args, H with
  | [.c (.sl 0 (.x o) (.x n)), .c (.sl 1 (.x o') (.x n'))], [some ⟨false, 0, x⟩, some ⟨false, 0, x'⟩] => match x.toFl, x'.toFl with
    | some l, some l' => some (vB (n () == n' () && allI (same1 (at2 (l ()) (o ())) (at2 (l' ()) (o' ()))) (n ())), [none, none], [fun _ => o () + n () ≤ (l ()).length ∧ o' () + n' () ≤ (l' ()).length ∧ n () < 4294967296])
    | _, _ => none
  | [.c .sn, .c (.sl 0 (.x _) (.x n'))], [some ⟨false, 0, _⟩] => some (vB (n' () == 0), [none], [])
  | _, _ => none
/-- the first i cells are numbered from k on -/
def marks (k : Int) (l : List Nat) (i : Nat) : List Nat := ((List.range i).map fun j : Nat => floatOfInt .f32 (k + (j : Int))) ++ l.drop i
theorem marks_len (k : Int) (l : List Nat) {i : Nat} (h : i ≤ l.length) : (marks k l i).length = l.length := by simp [marks]; omega
theorem marks_zero (k : Int) (l : List Nat) : marks k l 0 = l := by simp [marks]
theorem marks_step (k : Int) (l : List Nat) {i : Nat} (h : i < l.length) : (marks k l i).set i (floatOfInt .f32 (k + i)) = marks k l (i + 1) := by
  unfold marks
  rw [List.set_append_right _ _ (by simp)]
  simp only [List.length_map, List.length_range, Nat.sub_self]
  have e : (l.drop i).set 0 (floatOfInt .f32 (k + i)) = floatOfInt .f32 (k + i) :: l.drop (i + 1) := by
    rw [List.drop_eq_getElem_cons h]; rfl
  rw [e]
  simp [List.range_succ]
theorem marks_get (k : Int) (l : List Nat) {i n : Nat} (h : i < n) : (marks k l n).getD i 0 = floatOfInt .f32 (k + i) := by
  simp [marks, List.getD_eq_getElem?_getD, List.getElem?_append, h]
def s43 : Spec := nspec fun args H => match args, H with
  | [.c (.sl 0 (.x o) (.x n)), .c (.i .i64 (.x k))], [some ⟨true, 1, x⟩] => match x.toFl with
    | some l => some (vI (k () + n ()), [some ⟨true, 1, .fl fun _ => marks (k ()) (l ()) (n ())⟩], [fun _ => o () = 0 ∧ n () = (l ()).length ∧ n () < 4294967296 ∧ 0 ≤ k () ∧ k () < 4294967296])
    | none => none
  | [.c .sn, .c (.i .i64 (.x k))], [] => some (vI (k ()), [], [])
  | _, _ => none
def heldG (g : Nat → Nat) (k : Int) (i : Nat) : Bool := !fcmp .neq .f32 (g i) (floatOfInt .f32 (k + i))
def s44 : Spec := nspec fun args H => match args, H with
  | [.c (.sl 0 (.x o) (.x n)), .c (.i .i64 (.x k))], [some ⟨false, 0, x⟩] => match x.toFl with
    | some l => some (vI (if allI (heldG (at2 (l ()) (o ())) (k ())) (n ()) then k () + n () else -1), [none], [fun _ => o () + n () ≤ (l ()).length ∧ n () < 4294967296 ∧ 0 ≤ k () ∧ k () < 4294967296])
    | none => none
  | [.c .sn, .c (.i .i64 (.x k))], [] => some (vI (k ()), [], [])
  | _, _ => none
theorem fn42 : FnOk Try.prog 42 Try.f42 (bodyOf Try.f42) := ⟨Try.func42, rfl, by rfl⟩
def E42 : Env := fun g => envGetL [(24, ⟨true, (s2D fun a b => vB (sameF a b)), none⟩)] g
theorem E42ok : EnvOk Try.prog E42 := envOk_cons ok24 (envOk_nil _)
theorem ok42 : Ok Try.prog 42 (s42) := ok_of_wpa (E := E42) mixed tts E42ok fn42 fun args H v H' o hs ho => by
  split at hs
  · rename_i o n o' n' x x'
    split at hs
    · rename_i l l' hl hl'
      cases hs
      obtain ⟨hlen, hlen', hbig⟩ := ho.one
      refine ⟨_, HLe.cons (BLe.fl hl) (HLe.cons (BLe.fl hl') HLe.nil), ?_⟩
      cbv
      refine Br.mk (fun hne => ?_) (fun hne => ?_)
      · cbv
        repeat' (refine Ob.mk ?_ ?_; rotate_left; cbv)
        all_goals (try simp only [Unit.unit, Int.ofNat_lt, Int.ofNat_le, BE.val, IE.val, NE.val, ltB_iff, ltB_no, leB_iff, leB_no, Int.toNat_natCast, Nat.zero_add, Nat.mul_one, forced, beq_iff_eq, beq_eq_false_iff_ne] at *)
        all_goals grind
      · cbv
        have hnn : n () = n' () := by
          (try simp only [Unit.unit, Int.ofNat_lt, Int.ofNat_le, BE.val, IE.val, NE.val, ltB_iff, ltB_no, leB_iff, leB_no, Int.toNat_natCast, Nat.zero_add, Nat.mul_one, forced, beq_iff_eq, beq_eq_false_iff_ne] at *)
          grind
        refine loop_rule (α := Unit → Nat) (c := ⟨tt, E42, 2⟩)
          (fun i => fr 29 [(0, .c (.sl 0 (.x o) (.x n))), (1, .c (.sl 1 (.x o') (.x n'))), (5, .c (.i .i64 (.x fun _ => i ())))]) (fun i => [some ⟨false, 0, .fl l⟩, some ⟨false, 0, .fl l'⟩])
          (fun i => i () ≤ n () ∧ allI (same1 (at2 (l ()) (o ())) (at2 (l' ()) (o' ()))) (i ()) = true) (fun i => n () - i ()) (fun _ => n () + 1) ?_ ?_
        · refine .mk (fun _ => 0) ⟨Nat.zero_le _, rfl⟩ (by dsimp only; omega) ?_
          cbv
          repeat' (refine Ob.mk ?_ ?_; rotate_left)
          all_goals (try simp only [Unit.unit, Int.ofNat_lt, Int.ofNat_le, BE.val, IE.val, NE.val, ltB_iff, ltB_no, leB_iff, leB_no, Int.toNat_natCast, Nat.zero_add, Nat.mul_one, forced, beq_iff_eq, beq_eq_false_iff_ne] at *)
          all_goals first | rfl | trivial
        · intro i k1
          cbv
          repeat' first
            | (refine Br.mk (fun h => ?_) (fun h => ?_) <;> cbv)
            | (refine Ob.mk ?_ ?_; rotate_left; cbv)
            | (refine Lex.mk (by kernel_rfl) ?_; cbv)
            | (refine Next.mk (fun _ => i () + 1) ?_ ?_ ?_)
          all_goals (try simp only [Unit.unit, Int.ofNat_lt, Int.ofNat_le, BE.val, IE.val, NE.val, ltB_iff, ltB_no, leB_iff, leB_no, Int.toNat_natCast, Nat.zero_add, Nat.mul_one, forced, beq_iff_eq, beq_eq_false_iff_ne] at *)
          all_goals (try simp only [at1_0] at *)
          all_goals first | with_reducible rfl | omega | exact wrap64_nat (by omega) | (refine ⟨Int.natCast_nonneg _, ?_⟩; omega) | grind [same1, allI_no, allI, cv]
    · cases hs
  · cases hs
    refine ⟨_, HLe.cons (BLe.refl _) HLe.nil, ?_⟩
    cbv
    refine Br.mk (fun hne => ?_) (fun hne => ?_)
    · cbv
      repeat' (refine Ob.mk ?_ ?_; rotate_left; cbv)
      all_goals (try simp only [Unit.unit, Int.ofNat_lt, Int.ofNat_le, BE.val, IE.val, NE.val, ltB_iff, ltB_no, leB_iff, leB_no, Int.toNat_natCast, Nat.zero_add, Nat.mul_one, forced, beq_iff_eq, beq_eq_false_iff_ne] at *)
      all_goals grind
    · cbv
      repeat' first
        | (refine Loop.mk 5 ?_; cbv)
        | (refine Gen.same ?_; cbv)
        | (refine Ob.mk ?_ ?_; rotate_left; cbv)
      all_goals (try simp only [Unit.unit, Int.ofNat_lt, Int.ofNat_le, BE.val, IE.val, NE.val, ltB_iff, ltB_no, leB_iff, leB_no, Int.toNat_natCast, Nat.zero_add, Nat.mul_one, forced, beq_iff_eq, beq_eq_false_iff_ne] at *)
      all_goals grind
  · cases hs
theorem fn44 : FnOk Try.prog 44 Try.f44 (bodyOf Try.f44) := ⟨Try.func44, rfl, by rfl⟩
theorem ok44 : Ok Try.prog 44 (s44) := ok_of_wpa (E := envGetL []) mixed tts (envOk_nil _) fn44 fun args H v H' o hs ho => by
  split at hs
  · rename_i o n k x
    split at hs
    · rename_i l hl
      cases hs
      obtain ⟨hlen, hbig, hk0, hk1⟩ := ho.one
      refine ⟨_, HLe.cons (BLe.fl hl) HLe.nil, ?_⟩
      cbv
      refine loop_rule (α := Unit → Nat) (c := ⟨tt, envGetL [], 1⟩)
          (fun i => fr 22 [(0, .c (.sl 0 (.x o) (.x n))), (1, .c (.i .i64 (.x fun _ => k () + i ()))), (5, .c (.i .i64 (.x fun _ => i ())))]) (fun i => [some ⟨false, 0, .fl l⟩])
          (fun i => i () ≤ n () ∧ allI (heldG (at2 (l ()) (o ())) (k ())) (i ()) = true) (fun i => n () - i ()) (fun _ => n () + 1) ?_ ?_
      · refine .mk (fun _ => 0) ⟨Nat.zero_le _, rfl⟩ (by dsimp only; omega) ?_
        cbv
        repeat' (refine Ob.mk ?_ ?_; rotate_left)
        all_goals (try simp only [Unit.unit, Int.ofNat_lt, Int.ofNat_le, BE.val, IE.val, NE.val, ltB_iff, ltB_no, leB_iff, leB_no, Int.toNat_natCast, Nat.zero_add, Nat.mul_one, forced, beq_iff_eq, beq_eq_false_iff_ne] at *)
        all_goals first | with_reducible rfl | trivial | exact (marks_zero _ _).symm | grind
      · intro i k1
        cbv
        repeat' first
            | (refine Br.mk (fun h => ?_) (fun h => ?_) <;> cbv)
            | (refine Ob.mk ?_ ?_; rotate_left; cbv)
            | (refine Lex.mk (by kernel_rfl) ?_; cbv)
            | (refine Next.mk (fun _ => i () + 1) ?_ ?_ ?_)
        all_goals (try simp only [Unit.unit, Int.ofNat_lt, Int.ofNat_le, BE.val, IE.val, NE.val, ltB_iff, ltB_no, leB_iff, leB_no, Int.toNat_natCast, Nat.zero_add, Nat.mul_one, forced, beq_iff_eq, beq_eq_false_iff_ne] at *)
        all_goals (try simp only [at1_0] at *)
        all_goals first | with_reducible rfl | omega | exact wrap64_nat (by omega) | (refine ⟨Int.natCast_nonneg _, ?_⟩; omega) | grind [heldG, allI_no, allI, wrap64]
    · cases hs
  · cases hs
    refine ⟨_, HLe.nil, ?_⟩
    cbv
    repeat' first
      | (refine Loop.mk 5 ?_; cbv)
      | (refine Gen.same ?_; cbv)
      | (refine Ob.mk ?_ ?_; rotate_left; cbv)
    all_goals (try simp only [Unit.unit, Int.ofNat_lt, Int.ofNat_le, BE.val, IE.val, NE.val, ltB_iff, ltB_no, leB_iff, leB_no, Int.toNat_natCast, Nat.zero_add, Nat.mul_one, forced, beq_iff_eq, beq_eq_false_iff_ne] at *)
    all_goals first | with_reducible rfl | grind
  · cases hs
theorem fn43 : FnOk Try.prog 43 Try.f43 (bodyOf Try.f43) := ⟨Try.func43, rfl, by rfl⟩
theorem ok43 : Ok Try.prog 43 (s43) := ok_of_wpa (E := envGetL []) mixed tts (envOk_nil _) fn43 fun args H v H' o hs ho => by
  split at hs
  · rename_i o n k x
    split at hs
    · rename_i l hl
      cases hs
      obtain ⟨ho0, hln, hbig, hk0, hk1⟩ := ho.one
      refine ⟨_, HLe.cons (BLe.fl hl) HLe.nil, ?_⟩
      cbv
      refine loop_rule (α := Unit → Nat) (c := ⟨tt, envGetL [], 1⟩)
          (fun i => fr 20 [(0, .c (.sl 0 (.x o) (.x n))), (1, .c (.i .i64 (.x fun _ => k () + i ()))), (5, .c (.i .i64 (.x fun _ => i ())))]) (fun i => [some ⟨true, 1, .fl fun _ => marks (k ()) (l ()) (i ())⟩])
          (fun i => i () ≤ n ()) (fun i => n () - i ()) (fun _ => n () + 1) ?_ ?_
      · refine .mk (fun _ => 0) (Nat.zero_le _) (by dsimp only; omega) ?_
        cbv
        repeat' (refine Ob.mk ?_ ?_; rotate_left)
        all_goals (try simp only [Unit.unit, Int.ofNat_lt, Int.ofNat_le, BE.val, IE.val, NE.val, ltB_iff, ltB_no, leB_iff, leB_no, Int.toNat_natCast, Nat.zero_add, Nat.mul_one, forced, beq_iff_eq, beq_eq_false_iff_ne] at *)
        all_goals first | with_reducible rfl | trivial | exact (marks_zero _ _).symm | grind
      · intro i k1
        cbv
        repeat' first
            | (refine Br.mk (fun h => ?_) (fun h => ?_) <;> cbv)
            | (refine Ob.mk ?_ ?_; rotate_left; cbv)
            | (refine Lex.mk (by kernel_rfl) ?_; cbv)
            | (refine Next.mk (fun _ => i () + 1) ?_ ?_ ?_)
        all_goals (try simp only [Unit.unit, Int.ofNat_lt, Int.ofNat_le, BE.val, IE.val, NE.val, ltB_iff, ltB_no, leB_iff, leB_no, Int.toNat_natCast, Nat.zero_add, Nat.mul_one, forced, beq_iff_eq, beq_eq_false_iff_ne] at *)
        all_goals (try simp only [at1_0] at *)
        all_goals first | with_reducible rfl | omega | exact wrap64_nat (by omega) | (refine ⟨Int.natCast_nonneg _, ?_⟩; omega) | (rw [marks_len _ _ (by omega)]; omega) | (rw [ho0, Nat.zero_add]; exact marks_step _ _ (by omega)) | (rw [show i ⟨⟩ = n ⟨⟩ by omega]) | grind [wrap64]
    · cases hs
  · cases hs
    refine ⟨_, HLe.nil, ?_⟩
    cbv
    repeat' first
      | (refine Loop.mk 5 ?_; cbv)
      | (refine Gen.same ?_; cbv)
      | (refine Ob.mk ?_ ?_; rotate_left; cbv)
    all_goals (try simp only [Unit.unit, Int.ofNat_lt, Int.ofNat_le, BE.val, IE.val, NE.val, ltB_iff, ltB_no, leB_iff, leB_no, Int.toNat_natCast, Nat.zero_add, Nat.mul_one, forced, beq_iff_eq, beq_eq_false_iff_ne] at *)
    all_goals first | with_reducible rfl | grind
  · cases hs
theorem fn40 : FnOk Try.prog 40 Try.f40 (bodyOf Try.f40) := ⟨Try.func40, rfl, by rfl⟩
theorem fn41 : FnOk Try.prog 41 Try.f41 (bodyOf Try.f41) := ⟨Try.func41, rfl, by rfl⟩
theorem fn13 : FnOk Try.prog 13 Try.f13 (bodyOf Try.f13) := ⟨Try.func13, rfl, by rfl⟩
def s40F : Spec := nspec fun args H => match args, H with
  | [.c (.i .i64 (.x n)), .c (.f .f32 w), .c (.f .f32 p), .c (.f .f32 r), .c (.f .f32 t)], [] =>
    some (.t [.c (.sl 0 (.l 0) (.l 0)), .c (.sl 1 (.l 0) (.l 0)), .c (.i .i64 (.l 2))], [some ⟨true, 1, .lit []⟩, some ⟨true, 1, .lit []⟩], [fun _ => laid (n ()) (w ()) (p ()) (r ()) (t ()) = false])
  | _, _ => none
theorem laid_le {n : Int} {w p r t : Nat} (h : laid n w p r t = true) : 0 ≤ n ∧ n ≤ 60 := by
  simp only [laid, Bool.and_eq_true, inI_iff] at h
  omega
theorem fint_eq (k : FloatKind) (n : Int) : fcmp .neq k (floatOfInt k n) (floatOfInt k n) = false := by
  have h : (k.format.read (floatOfInt k n)).isNaN = false := nan_write k (.number (n < 0) n.natAbs 0) rfl
  unfold fcmp
  simp only [Ieee.Format.order]
  cases hx : k.format.read (floatOfInt k n) with
  | nan s t => rw [hx] at h; simp [Ieee.Datum.isNaN] at h
  | infinity s => simp [Ieee.Datum.order]
  | number s m e => simp [Ieee.Datum.order]
theorem allI_all {p : Nat → Bool} : ∀ {n : Nat}, (∀ i, i < n → p i = true) → allI p n = true
  | 0, _ => rfl
  | n + 1, h => by simp [allI, allI_all (n := n) (fun i hi => h i (by omega)), h n (by omega)]
theorem held_marks (k : Int) (l : List Nat) (n : Nat) : allI (heldG (at2 (marks k l n) 0) k) n = true := allI_all fun i hi => by
  unfold heldG at2
  rw [Nat.zero_add, marks_get k l hi, fint_eq]; rfl
def Eok40T : Env := fun g => envGetL [(68, ⟨true, (s5 fun n w p r t => vB (laid n w p r t)), none⟩), (69, ⟨true, s69, none⟩)] g
theorem Eok40Tok : EnvOk Try.prog Eok40T := envOk_cons ok68 (envOk_cons ok69 (envOk_nil _))
set_option maxRecDepth 100000 in
set_option maxHeartbeats 1000000 in
theorem ok40T : Ok Try.prog 40 (s70) := ok_of_wpa (E := Eok40T) mixed tts Eok40Tok fn40 fun args H v H' o hs ho => by
  split at hs
  · rename_i n w p r t
    cases hs
    have hlaid : laid (n ()) (w ()) (p ()) (r ()) (t ()) = true := ho.one
    refine ⟨_, HLe.nil, ?_⟩
    cbv
    repeat' first
      | (refine Br.mk (fun h => ?_) (fun h => ?_) <;> cbv)
      | (refine Ob.mk ?_ ?_; rotate_left; cbv)
    all_goals first | with_reducible rfl | ((try simp only [Unit.unit, Int.ofNat_lt, Int.ofNat_le, BE.val, IE.val, NE.val, ltB_iff, ltB_no, leB_iff, leB_no, Int.toNat_natCast, Nat.zero_add, Nat.mul_one, forced, beq_iff_eq, beq_eq_false_iff_ne] at *) <;> grind [→ laid_le])
  · cases hs
def Eok40F : Env := fun g => envGetL [(68, ⟨true, (s5 fun n w p r t => vB (laid n w p r t)), none⟩), (69, ⟨true, s69, none⟩)] g
theorem Eok40Fok : EnvOk Try.prog Eok40F := envOk_cons ok68 (envOk_cons ok69 (envOk_nil _))
set_option maxRecDepth 100000 in
set_option maxHeartbeats 1000000 in
theorem ok40F : Ok Try.prog 40 (s40F) := ok_of_wpa (E := Eok40F) mixed tts Eok40Fok fn40 fun args H v H' o hs ho => by
  split at hs
  · rename_i n w p r t
    cases hs
    have hlaid : laid (n ()) (w ()) (p ()) (r ()) (t ()) = false := ho.one
    refine ⟨_, HLe.nil, ?_⟩
    cbv
    repeat' first
      | (refine Br.mk (fun h => ?_) (fun h => ?_) <;> cbv)
      | (refine Ob.mk ?_ ?_; rotate_left; cbv)
    all_goals first | with_reducible rfl | ((try simp only [Unit.unit, Int.ofNat_lt, Int.ofNat_le, BE.val, IE.val, NE.val, ltB_iff, ltB_no, leB_iff, leB_no, Int.toNat_natCast, Nat.zero_add, Nat.mul_one, forced, beq_iff_eq, beq_eq_false_iff_ne] at *) <;> grind [→ laid_le])
  · cases hs
def Eok41T : Env := fun g => envGetL [(70, ⟨true, s70, none⟩)] g
theorem Eok41Tok : EnvOk Try.prog Eok41T := envOk_cons ok70 (envOk_nil _)
set_option maxRecDepth 100000 in
set_option maxHeartbeats 1000000 in
theorem ok41T : Ok Try.prog 41 (s70) := ok_of_wpa (E := Eok41T) mixed tts Eok41Tok fn41 fun args H v H' o hs ho => by
  split at hs
  · rename_i n w p r t
    cases hs
    have hlaid : laid (n ()) (w ()) (p ()) (r ()) (t ()) = true := ho.one
    refine ⟨_, HLe.nil, ?_⟩
    cbv
    repeat' first
      | (refine Br.mk (fun h => ?_) (fun h => ?_) <;> cbv)
      | (refine Ob.mk ?_ ?_; rotate_left; cbv)
    all_goals first | with_reducible rfl | ((try simp only [Unit.unit, Int.ofNat_lt, Int.ofNat_le, BE.val, IE.val, NE.val, ltB_iff, ltB_no, leB_iff, leB_no, Int.toNat_natCast, Nat.zero_add, Nat.mul_one, forced, beq_iff_eq, beq_eq_false_iff_ne] at *) <;> grind [→ laid_le])
  · cases hs
def Eok41F : Env := fun g => envGetL [(70, ⟨true, s70F, none⟩)] g
theorem Eok41Fok : EnvOk Try.prog Eok41F := envOk_cons ok70F (envOk_nil _)
set_option maxRecDepth 100000 in
set_option maxHeartbeats 1000000 in
theorem ok41F : Ok Try.prog 41 (s70F) := ok_of_wpa (E := Eok41F) mixed tts Eok41Fok fn41 fun args H v H' o hs ho => by
  split at hs
  · rename_i n w p r t
    cases hs
    have hlaid : laid (n ()) (w ()) (p ()) (r ()) (t ()) = false := ho.one
    refine ⟨_, HLe.nil, ?_⟩
    cbv
    repeat' first
      | (refine Br.mk (fun h => ?_) (fun h => ?_) <;> cbv)
      | (refine Ob.mk ?_ ?_; rotate_left; cbv)
    all_goals first | with_reducible rfl | ((try simp only [Unit.unit, Int.ofNat_lt, Int.ofNat_le, BE.val, IE.val, NE.val, ltB_iff, ltB_no, leB_iff, leB_no, Int.toNat_natCast, Nat.zero_add, Nat.mul_one, forced, beq_iff_eq, beq_eq_false_iff_ne] at *) <;> grind [→ laid_le])
  · cases hs
def Eok13 : Env := fun g => envGetL [(40, ⟨true, sNo, some (s70, s40F)⟩), (41, ⟨true, sNo, some (s70, s70F)⟩), (42, ⟨true, s42, none⟩), (43, ⟨false, s43, none⟩), (44, ⟨true, s44, none⟩)] g
theorem Eok13ok : EnvOk Try.prog Eok13 := envOk_alt ok40T ok40F (envOk_alt ok41T ok41F (envOk_cons ok42 (envOk_cons ok43 (envOk_cons ok44 (envOk_nil _)))))
set_option maxRecDepth 100000 in
set_option maxHeartbeats 2000000 in
theorem ok13 : Ok Try.prog 13 (s5 fun _ _ _ _ _ => .c (.b (.l true))) := ok_of_wpa (E := Eok13) mixed tts Eok13ok fn13 fun args H v H' o hs ho => by
  split at hs
  · rename_i n w p r t
    cases hs
    refine ⟨_, HLe.nil, ?_⟩
    have pl1 : (pileN (w ()) (p ()) (r ()) (t ()) (n ()).toNat).1.length = (n ()).toNat := (pileN_len _ _ _ _ _).1
    have pl2 : (pileN (w ()) (p ()) (r ()) (t ()) (n ()).toNat).2.length = (n ()).toNat := (pileN_len _ _ _ _ _).2
    have ml1 : (marks 1 (pileN (w ()) (p ()) (r ()) (t ()) (n ()).toNat).1 (n ()).toNat).length = (n ()).toNat := by rw [marks_len _ _ (by omega)]; exact pl1
    have ml2 : (marks (1 + ((n ()).toNat : Int)) (pileN (w ()) (p ()) (r ()) (t ()) (n ()).toNat).2 (n ()).toNat).length = (n ()).toNat := by rw [marks_len _ _ (by omega)]; exact pl2
    cbv
    repeat' first
      | (refine alt_t (by assumption) ?_; cbv)
      | (refine alt_f (by assumption) ?_; cbv)
      | (refine alt_b (fun h => ?_) (fun h => ?_) <;> cbv)
      | (refine Br.mk (fun h => ?_) (fun h => ?_) <;> cbv)
      | (refine Ob.mk ?_ ?_; rotate_left; cbv)
    all_goals (try simp only [Unit.unit, Int.ofNat_lt, Int.ofNat_le, BE.val, IE.val, NE.val, ltB_iff, ltB_no, leB_iff, leB_no, Int.toNat_natCast, Nat.zero_add, Nat.mul_one, forced, beq_iff_eq, beq_eq_false_iff_ne] at *)
    all_goals (try simp only [same1_all, held_marks, beq_self_eq_true, Bool.and_self, if_true, pl1, pl2, ml1, ml2] at *)
    all_goals first | with_reducible rfl | grind [→ laid_le]
  · cases hs
end Go.Proofs.Ytljemkijpbfcaaa.Sh
