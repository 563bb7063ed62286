/- What the ovens functions of this seat compute, each shown once. No condition. -/
import Derived.Test.YtljemkijpbfcaaaFo
set_option linter.unusedVariables false
set_option linter.unusedSimpArgs false
namespace Go.Proofs.Ytljemkijpbfcaaa.Sh
open Go Go.Proofs
/-- elements of two cells each, the first i of them copied -/
def mk2 (g : Nat → Nat) (i n : Nat) : List Nat := (List.range (2 * n)).map fun j => if j < 2 * i then g j else 0
theorem mk2_len (g : Nat → Nat) (i n : Nat) : (mk2 g i n).length = 2 * n := by simp [mk2]
theorem mk2_zero (g : Nat → Nat) (n : Nat) : repL [0, 0] n = mk2 g 0 n := by
  have h : ∀ n, repL [0, 0] n = List.replicate (2 * n) 0 := by
    intro n
    induction n with
    | zero => rfl
    | succ n ih => simp [repL, ih, Nat.mul_add, List.replicate_succ]
  rw [h]
  symm
  rw [List.eq_replicate_iff]
  exact ⟨mk2_len _ _ _, fun b hb => by simp [mk2] at hb; omega⟩
theorem mk2_step (g : Nat → Nat) {i n : Nat} (h : i < n) : ((mk2 g i n).set (2 * i) (g (2 * i))).set (2 * i + 1) (g (2 * i + 1)) = mk2 g (i + 1) n := by
  refine List.ext_getElem? fun j => ?_
  simp only [mk2, List.getElem?_set, List.getElem?_map, List.length_set, List.length_map, List.length_range]
  by_cases hj : j < 2 * n
  · rw [List.getElem?_range hj]
    simp only [Option.map_some]
    split
    · rename_i e; subst e; simp [show 2 * i + 1 < 2 * n by omega, show 2 * i + 1 < 2 * (i + 1) by omega]
    · split
      · rename_i e; subst e; simp [show 2 * i < 2 * n by omega, show 2 * i < 2 * (i + 1) by omega]
      · have : (j < 2 * i) = (j < 2 * (i + 1)) := by apply propext; omega
        simp [this]
  · rw [List.getElem?_eq_none (by simpa using hj)]
    simp only [Option.map_none]
    split
    · omega
    · split
      · omega
      · rfl
def at2 (l : List Nat) (o : Nat) : Nat → Nat := fun j => l.getD (o + j) 0
def allI (p : Nat → Bool) : Nat → Bool
  | 0 => true
  | k + 1 => allI p k && p k
theorem allI_at {p : Nat → Bool} : ∀ {n i : Nat}, allI p n = true → i < n → p i = true
  | n + 1, i, h, hi => by
    simp only [allI, Bool.and_eq_true] at h
    by_cases e : i = n
    · subst e; simpa using h.2
    · exact allI_at h.1 (by omega)
theorem allI_no {p : Nat → Bool} {n i : Nat} (h : i < n) (hp : p i = false) : allI p n = false := by
  cases e : allI p n
  · rfl
  · rw [allI_at e h] at hp; cases hp
def okG (g : Nat → Nat) (i : Nat) : Bool := isRate (g (2 * i)) && isWet (g (2 * i + 1))
def allOk (g : Nat → Nat) (n : Nat) : Bool := allI (okG g) n
def sameO (g g' : Nat → Nat) (i : Nat) : Bool := sameF (cv (g (2 * i))) (cv (g' (2 * i))) && sameF (cv (g (2 * i + 1))) (cv (g' (2 * i + 1)))
theorem same_all (g : Nat → Nat) : ∀ n, allI (sameO g g) n = true
  | 0 => rfl
  | n + 1 => by simp [allI, same_all g n, sameO, sameF_refl]
def afterI (g : Nat → Nat) (w s : Nat) : Nat → Nat
  | 0 => w
  | k + 1 => dry (afterI g w s k) (g (2 * k)) (fop .quo .f32 (g (2 * k + 1)) s)
def behindL (g : Nat → Nat) (w s : Nat) (n : Nat) : List Nat := (List.range n).map fun i => afterI g w s (i + 1)
theorem behindL_len (g : Nat → Nat) (w s n : Nat) : (behindL g w s n).length = n := by simp [behindL]
theorem behindL_step (g : Nat → Nat) (w s n : Nat) : behindL g w s (n + 1) = behindL g w s n ++ [afterI g w s (n + 1)] := by simp [behindL, List.range_succ]
theorem behindL_get (g : Nat → Nat) (w s : Nat) {n i : Nat} (h : i < n) : (behindL g w s n).getD i 0 = afterI g w s (i + 1) := by simp [behindL, List.getD_eq_getElem?_getD, h]
theorem at2_0 (l : List Nat) (o i : Nat) : l.getD (o + i * 2) 0 = at2 l o (2 * i) := by simp [at2, Nat.mul_comm]
theorem at2_1 (l : List Nat) (o i : Nat) : l.getD (o + i * 2 + 1) 0 = at2 l o (2 * i + 1) := by simp [at2, Nat.mul_comm, Nat.add_assoc]
def codeO (g : Nat → Nat) (n : Nat) (fine : Bool) : Int := if allOk g n then if 6 < n || !fine then 2 else 0 else 1
def sS2 (f : (Unit → Nat → Nat) → (Unit → Nat) → V) : Spec := nspec fun args H => match args, H with
  | [.c (.sl 0 (.x o) (.x n))], [some ⟨false, 0, x⟩] => match x.toFl with
    | some l => some (f (fun _ => at2 (l ()) (o ())) n, [none], [fun _ => o () + 2 * n () ≤ (l ()).length ∧ n () < 4294967296])
    | none => none
  | _, _ => none
def s47 : Spec := nspec fun args H => match args, H with
  | [.c (.sl 0 (.x o) (.x n))], [some ⟨false, 0, x⟩] => match x.toFl with
    | some l => some (.c (.sl 1 (.l 0) (.x n)), [none, some ⟨true, 2, .fl fun _ => mk2 (at2 (l ()) (o ())) (n ()) (n ())⟩], [fun _ => o () + 2 * n () ≤ (l ()).length ∧ n () < 4294967296])
    | none => none
  | [.c .sn], [] => some (.c (.sl 0 (.l 0) (.l 0)), [some ⟨true, 2, .lit []⟩], [])
  | _, _ => none
def s45 : Spec := nspec fun args H => match args, H with
  | [.c (.sl 0 (.x _) (.x n)), .c (.i .i64 (.x k))], [some ⟨false, 0, _⟩] => some (vI (if k () - n () < 0 then -1 else k () - n ()), [none], [fun _ => 0 ≤ k () ∧ k () < 4294967296 ∧ n () ≤ 9223372036854775807])
  | [.c .sn, .c (.i .i64 (.x k))], [] => some (vI (k ()), [], [fun _ => 0 ≤ k () ∧ k () < 4294967296])
  | _, _ => none
theorem fn45 : FnOk Try.prog 45 Try.f45 (bodyOf Try.f45) := ⟨Try.func45, rfl, by rfl⟩
theorem ok45 : Ok Try.prog 45 (s45) := ok_of_wpa (E := envGetL []) mixed tts (envOk_nil _) fn45 fun args H v H' o hs ho => by
  split at hs
  · cases hs
    have hb := ho.one
    refine ⟨_, HLe.cons (BLe.refl _) HLe.nil, ?_⟩
    cbv
    repeat' first
      | (refine Br.mk (fun h => ?_) (fun h => ?_) <;> cbv)
      | (refine Ob.mk ?_ ?_; rotate_left; cbv)
    all_goals simp only [Unit.unit, BE.val, IE.val, NE.val, ltB_iff, ltB_no] at *
    all_goals grind [wrap64]
  · cases hs
    have hb := ho.one
    refine ⟨_, HLe.nil, ?_⟩
    cbv
    repeat' first
      | (refine Br.mk (fun h => ?_) (fun h => ?_) <;> cbv)
      | (refine Ob.mk ?_ ?_; rotate_left; cbv)
    all_goals simp only [Unit.unit, BE.val, IE.val, NE.val, ltB_iff, ltB_no] at *
    all_goals grind [wrap64]
  · cases hs
theorem fn47 : FnOk Try.prog 47 Try.f47 (bodyOf Try.f47) := ⟨Try.func47, rfl, by rfl⟩
def E47 : Env := fun g => envGetL [(17, ⟨true, (sA2 fun r l => .a [.f .f32 fun _ => r, .f .f32 fun _ => l]), none⟩)] g
theorem E47ok : EnvOk Try.prog E47 := envOk_cons ok17 (envOk_nil _)
theorem ok47 : Ok Try.prog 47 (s47) := ok_of_wpa (E := E47) mixed tts E47ok fn47 fun args H v H' o hs ho => by
  split at hs
  · rename_i o n x
    split at hs
    · rename_i l hl
      cases hs
      obtain ⟨hlen, hbig⟩ := ho.one
      refine ⟨_, HLe.cons (BLe.fl hl) HLe.nil, ?_⟩
      cbv
      repeat' first
        | (refine Ob.mk ?_ ?_; rotate_left; cbv)
      rotate_left
      · simp only [Unit.unit, IE.val]; grind
      · refine loop_rule (α := Unit → Nat) (c := ⟨tt, E47, 1⟩)
          (fun s => fr 23 [(0, .c (.sl 0 (.x o) (.x n))), (3, .c (.sl 1 (.l 0) (.x n))), (4, .c (.i .i64 (.x fun _ => s ())))]) (fun s => [some ⟨false, 0, .fl l⟩, some ⟨true, 2, .fl fun _ => mk2 (at2 (l ()) (o ())) (s ()) (n ())⟩])
          (fun s => s () ≤ n ()) (fun s => n () - s ()) (fun _ => n () + 1) ?_ ?_
        · refine .mk (fun _ => 0) (Nat.zero_le _) (by dsimp only; omega) ?_
          cbv
          repeat' (refine Ob.mk ?_ ?_; rotate_left)
          all_goals (try simp only [Unit.unit, Int.ofNat_lt, Int.ofNat_le, BE.val, IE.val, NE.val, ltB_iff, ltB_no, leB_iff, leB_no, Int.toNat_natCast, Nat.zero_add, Nat.mul_one, forced, beq_iff_eq, beq_eq_false_iff_ne] at *)
          all_goals first | rfl | trivial | exact mk2_zero _ _
        · intro i k1
          cbv
          repeat' first
            | (refine Br.mk (fun h => ?_) (fun h => ?_) <;> cbv)
            | (refine Ob.mk ?_ ?_; rotate_left; cbv)
            | (refine Next.mk (fun _ => i () + 1) ?_ ?_ ?_)
          all_goals (try simp only [Unit.unit, Int.ofNat_lt, Int.ofNat_le, BE.val, IE.val, NE.val, ltB_iff, ltB_no, leB_iff, leB_no, Int.toNat_natCast, Nat.zero_add, Nat.mul_one, forced, beq_iff_eq, beq_eq_false_iff_ne] at *)
          all_goals (try simp only [mk2_len, List.length_set] at *)
          all_goals first | rfl | omega | exact wrap64_nat (by omega) | (refine ⟨Int.natCast_nonneg _, ?_⟩; omega) | (rw [← mk2_step _ (by omega)]; simp only [at2, Nat.mul_comm, Nat.add_assoc]; done) | (rw [show i ⟨⟩ = n ⟨⟩ by omega])
    · cases hs
  · cases hs
    refine ⟨_, HLe.nil, ?_⟩
    cbv
    repeat' first
      | (refine Loop.mk 5 ?_; cbv)
      | (refine Gen.same ?_; cbv)
      | (refine Ob.mk ?_ ?_; rotate_left; cbv)
    all_goals (first | (simp only [Unit.unit, IE.val, NE.val]; done) | (simp only [Unit.unit, IE.val, NE.val]; grind))
  · cases hs
theorem fn79 : FnOk Try.prog 79 Try.f79 (bodyOf Try.f79) := ⟨Try.func79, rfl, by rfl⟩
def E79 : Env := fun g => envGetL [(24, ⟨true, (s2D fun a b => vB (sameF a b)), none⟩)] g
theorem E79ok : EnvOk Try.prog E79 := envOk_cons ok24 (envOk_nil _)
theorem ok79 : Ok Try.prog 79 (sA2A2 fun a b a' b' => vB (sameF (cv a) (cv a') && sameF (cv b) (cv b'))) := ok_of_wpa (E := E79) mixed tts E79ok fn79 fun args H v H' o hs ho => by
  try dsimp only at hs
  split at hs
  · cases hs
    refine ⟨_, HLe.refl _, ?_⟩
    cbv
    repeat' first
      | (refine Br.mk (fun h => ?_) (fun h => ?_) <;> cbv)
      | (refine Ob.mk ?_ ?_; rotate_left; cbv)
    all_goals (simp_all [BE.val, IE.val, NE.val, cv, forced])
  · cases hs
def s49 : Spec := nspec fun args H => match args, H with
  | [.c (.sl 0 (.x o) (.x n)), .c (.sl 1 (.x o') (.x n'))], [some ⟨false, 0, x⟩, some ⟨false, 0, x'⟩] => match x.toFl, x'.toFl with
    | some l, some l' => some (vB (n () == n' () && allI (sameO (at2 (l ()) (o ())) (at2 (l' ()) (o' ()))) (n ())), [none, none], [fun _ => o () + 2 * n () ≤ (l ()).length ∧ o' () + 2 * n' () ≤ (l' ()).length ∧ n () < 4294967296])
    | _, _ => none
  | _, _ => none
def sSB (f : (Unit → Nat → Nat) → (Unit → Nat) → (Unit → Bool) → V) : Spec := nspec fun args H => match args, H with
  | [.c (.sl 0 (.x o) (.x n)), .c (.b (.x b))], [some ⟨false, 0, x⟩] => match x.toFl with
    | some l => some (f (fun _ => at2 (l ()) (o ())) n b, [none], [fun _ => o () + 2 * n () ≤ (l ()).length ∧ n () < 4294967296])
    | none => none
  | _, _ => none
def sFSF (f : (Unit → Nat) → (Unit → Nat → Nat) → (Unit → Nat) → (Unit → Nat) → V) : Spec := nspec fun args H => match args, H with
  | [.c (.f .f32 w), .c (.sl 0 (.x o) (.x n)), .c (.f .f32 s)], [some ⟨false, 0, x⟩] => match x.toFl with
    | some l => some (f w (fun _ => at2 (l ()) (o ())) n s, [none], [fun _ => o () + 2 * n () ≤ (l ()).length ∧ n () < 4294967296])
    | none => none
  | _, _ => none
def s81 : Spec := nspec fun args H => match args, H with
  | [.c (.f .f32 w), .c (.sl 0 (.x o) (.x n)), .c (.f .f32 s)], [some ⟨false, 0, x⟩] => match x.toFl with
    | some l => some (.c (.sl 1 (.l 0) (.x n)), [none, some ⟨true, 1, .fl fun _ => behindL (at2 (l ()) (o ())) (w ()) (s ()) (n ())⟩], [fun _ => o () + 2 * n () ≤ (l ()).length ∧ n () < 4294967296])
    | none => none
  | _, _ => none
theorem fn75 : FnOk Try.prog 75 Try.f75 (bodyOf Try.f75) := ⟨Try.func75, rfl, by rfl⟩
def E75 : Env := fun g => envGetL [(61, ⟨true, (s3F fun w r t => F (dry w r t)), none⟩)] g
theorem E75ok : EnvOk Try.prog E75 := envOk_cons ok61 (envOk_nil _)
theorem ok75 : Ok Try.prog 75 (sFSF fun w g n s => F (afterI (g ()) (w ()) (s ()) (n ()))) := ok_of_wpa (E := E75) mixed tts E75ok fn75 fun args H v H' o hs ho => by
  split at hs
  · rename_i w o n s x
    split at hs
    · rename_i l hl
      cases hs
      obtain ⟨hlen, hbig⟩ := ho.one
      refine ⟨_, HLe.cons (BLe.fl hl) HLe.nil, ?_⟩
      cbv
      refine loop_rule (α := Unit → Nat) (c := ⟨tt, E75, 1⟩)
          (fun i => fr 29 [(0, .c (.f .f32 fun _ => afterI (at2 (l ()) (o ())) (w ()) (s ()) (i ()))), (1, .c (.sl 0 (.x o) (.x n))), (2, .c (.f .f32 s)), (7, .c (.i .i64 (.x fun _ => i ())))]) (fun i => [some ⟨false, 0, .fl l⟩])
          (fun i => i () ≤ n ()) (fun i => n () - i ()) (fun _ => n () + 1) ?_ ?_
      · refine .mk (fun _ => 0) (Nat.zero_le _) (by dsimp only; omega) ?_
        cbv
        repeat' (refine Ob.mk ?_ ?_; rotate_left)
        all_goals (try simp only [Unit.unit, Int.ofNat_lt, Int.ofNat_le, BE.val, IE.val, NE.val, ltB_iff, ltB_no, leB_iff, leB_no, Int.toNat_natCast, Nat.zero_add, Nat.mul_one, forced, beq_iff_eq, beq_eq_false_iff_ne] at *)
        all_goals first | rfl | trivial
      · intro i k1
        cbv
        repeat' first
            | (refine Br.mk (fun h => ?_) (fun h => ?_) <;> cbv)
            | (refine Ob.mk ?_ ?_; rotate_left; cbv)
            | (refine Lex.mk (by kernel_rfl) ?_; cbv)
            | (refine Next.mk (fun _ => i () + 1) ?_ ?_ ?_)
        all_goals (try simp only [Unit.unit, Int.ofNat_lt, Int.ofNat_le, BE.val, IE.val, NE.val, ltB_iff, ltB_no, leB_iff, leB_no, Int.toNat_natCast, Nat.zero_add, Nat.mul_one, forced, beq_iff_eq, beq_eq_false_iff_ne] at *)
        all_goals (try simp only [mk2_len, List.length_set, behindL_len, Nat.add_zero, at2_0, at2_1] at *)
        all_goals first | rfl | omega | exact wrap64_nat (by omega) | (refine ⟨Int.natCast_nonneg _, ?_⟩; omega) | (rw [show i ⟨⟩ = n ⟨⟩ by omega])
    · cases hs
  · cases hs
theorem fn73 : FnOk Try.prog 73 Try.f73 (bodyOf Try.f73) := ⟨Try.func73, rfl, by rfl⟩
def E73 : Env := fun g => envGetL [(52, ⟨true, (sA2 fun r l => vB (isRate r && isWet l)), none⟩)] g
theorem E73ok : EnvOk Try.prog E73 := envOk_cons ok52 (envOk_nil _)
theorem ok73 : Ok Try.prog 73 (sSB fun g n b => vI (codeO (g ()) (n ()) (b ()))) := ok_of_wpa (E := E73) mixed tts E73ok fn73 fun args H v H' o hs ho => by
  split at hs
  · rename_i o n b x
    split at hs
    · rename_i l hl
      cases hs
      obtain ⟨hlen, hbig⟩ := ho.one
      refine ⟨_, HLe.cons (BLe.fl hl) HLe.nil, ?_⟩
      cbv
      refine loop_rule (α := Unit → Nat) (c := ⟨tt, E73, 1⟩)
          (fun i => fr 25 [(0, .c (.sl 0 (.x o) (.x n))), (1, .c (.b (.x b))), (5, .c (.i .i64 (.x fun _ => i ())))]) (fun i => [some ⟨false, 0, .fl l⟩])
          (fun i => i () ≤ n () ∧ allOk (at2 (l ()) (o ())) (i ()) = true) (fun i => n () - i ()) (fun _ => n () + 1) ?_ ?_
      · refine .mk (fun _ => 0) ⟨Nat.zero_le _, rfl⟩ (by dsimp only; omega) ?_
        cbv
        repeat' (refine Ob.mk ?_ ?_; rotate_left)
        all_goals (try simp only [Unit.unit, Int.ofNat_lt, Int.ofNat_le, BE.val, IE.val, NE.val, ltB_iff, ltB_no, leB_iff, leB_no, Int.toNat_natCast, Nat.zero_add, Nat.mul_one, forced, beq_iff_eq, beq_eq_false_iff_ne] at *)
        all_goals first | rfl | trivial
      · intro i k1
        cbv
        repeat' first
            | (refine Br.mk (fun h => ?_) (fun h => ?_) <;> cbv)
            | (refine Ob.mk ?_ ?_; rotate_left; cbv)
            | (refine Lex.mk (by kernel_rfl) ?_; cbv)
            | (refine Next.mk (fun _ => i () + 1) ?_ ?_ ?_)
        all_goals (try simp only [Unit.unit, Int.ofNat_lt, Int.ofNat_le, BE.val, IE.val, NE.val, ltB_iff, ltB_no, leB_iff, leB_no, Int.toNat_natCast, Nat.zero_add, Nat.mul_one, forced, beq_iff_eq, beq_eq_false_iff_ne] at *)
        all_goals (try simp only [mk2_len, List.length_set, behindL_len, Nat.add_zero, at2_0, at2_1] at *)
        all_goals first | rfl | omega | exact wrap64_nat (by omega) | (refine ⟨Int.natCast_nonneg _, ?_⟩; omega) | grind [codeO, allOk, okG, allI_no, allI]
    · cases hs
  · cases hs
theorem fn76 : FnOk Try.prog 76 Try.f76 (bodyOf Try.f76) := ⟨Try.func76, rfl, by rfl⟩
def E76 : Env := fun g => envGetL [(18, ⟨true, (sA2 fun r l => vB (isRate r && isWet l)), none⟩)] g
theorem E76ok : EnvOk Try.prog E76 := envOk_cons ok18 (envOk_nil _)
theorem ok76 : Ok Try.prog 76 (sSB fun g n b => vI (codeO (g ()) (n ()) (b ()))) := ok_of_wpa (E := E76) mixed tts E76ok fn76 fun args H v H' o hs ho => by
  split at hs
  · rename_i o n b x
    split at hs
    · rename_i l hl
      cases hs
      obtain ⟨hlen, hbig⟩ := ho.one
      refine ⟨_, HLe.cons (BLe.fl hl) HLe.nil, ?_⟩
      cbv
      refine loop_rule (α := Unit → Nat) (c := ⟨tt, E76, 1⟩)
          (fun i => fr 24 [(0, .c (.sl 0 (.x o) (.x n))), (1, .c (.b (.x b))), (7, .c (.sl 0 (.x o) (.x n))), (8, .c (.i .i64 (.x fun _ => n ()))), (9, .c (.i .i64 (.x fun _ => i ())))]) (fun i => [some ⟨false, 0, .fl l⟩])
          (fun i => i () ≤ n () ∧ allOk (at2 (l ()) (o ())) (i ()) = true) (fun i => n () - i ()) (fun _ => n () + 1) ?_ ?_
      · refine .mk (fun _ => 0) ⟨Nat.zero_le _, rfl⟩ (by dsimp only; omega) ?_
        cbv
        repeat' (refine Ob.mk ?_ ?_; rotate_left)
        all_goals (try simp only [Unit.unit, Int.ofNat_lt, Int.ofNat_le, BE.val, IE.val, NE.val, ltB_iff, ltB_no, leB_iff, leB_no, Int.toNat_natCast, Nat.zero_add, Nat.mul_one, forced, beq_iff_eq, beq_eq_false_iff_ne] at *)
        all_goals first | rfl | trivial
      · intro i k1
        cbv
        repeat' first
            | (refine Br.mk (fun h => ?_) (fun h => ?_) <;> cbv)
            | (refine Ob.mk ?_ ?_; rotate_left; cbv)
            | (refine Lex.mk (by kernel_rfl) ?_; cbv)
            | (refine Next.mk (fun _ => i () + 1) ?_ ?_ ?_)
        all_goals (try simp only [Unit.unit, Int.ofNat_lt, Int.ofNat_le, BE.val, IE.val, NE.val, ltB_iff, ltB_no, leB_iff, leB_no, Int.toNat_natCast, Nat.zero_add, Nat.mul_one, forced, beq_iff_eq, beq_eq_false_iff_ne] at *)
        all_goals (try simp only [mk2_len, List.length_set, behindL_len, Nat.add_zero, at2_0, at2_1] at *)
        all_goals first | rfl | omega | exact wrap64_nat (by omega) | (refine ⟨Int.natCast_nonneg _, ?_⟩; omega) | grind [codeO, allOk, okG, allI_no, allI]
    · cases hs
  · cases hs
theorem fn81 : FnOk Try.prog 81 Try.f81 (bodyOf Try.f81) := ⟨Try.func81, rfl, by rfl⟩
def E81 : Env := fun g => envGetL [(63, ⟨true, (s3F fun w r t => F (dry w r t)), none⟩)] g
theorem E81ok : EnvOk Try.prog E81 := envOk_cons ok63 (envOk_nil _)
theorem ok81 : Ok Try.prog 81 (s81) := ok_of_wpa (E := E81) mixed tts E81ok fn81 fun args H v H' o hs ho => by
  split at hs
  · rename_i w o n s x
    split at hs
    · rename_i l hl
      cases hs
      obtain ⟨hlen, hbig⟩ := ho.one
      refine ⟨_, HLe.cons (BLe.fl hl) HLe.nil, ?_⟩
      cbv
      refine loop_rule (α := Unit → Nat) (c := ⟨tt, E81, 1⟩)
          (fun i => fr 31 [(0, .c (.f .f32 fun _ => afterI (at2 (l ()) (o ())) (w ()) (s ()) (i ()))), (2, .c (.f .f32 s)), (7, .c (.sl 1 (.l 0) (.x i))), (11, .c (.sl 0 (.x o) (.x n))), (12, .c (.i .i64 (.x fun _ => n ()))), (13, .c (.i .i64 (.x fun _ => i ())))]) (fun i => [some ⟨false, 0, .fl l⟩, some ⟨true, 1, .fl fun _ => behindL (at2 (l ()) (o ())) (w ()) (s ()) (i ())⟩])
          (fun i => i () ≤ n ()) (fun i => n () - i ()) (fun _ => n () + 1) ?_ ?_
      · refine .mk (fun _ => 0) (Nat.zero_le _) (by dsimp only; omega) ?_
        cbv
        repeat' (refine Ob.mk ?_ ?_; rotate_left)
        all_goals (try simp only [Unit.unit, Int.ofNat_lt, Int.ofNat_le, BE.val, IE.val, NE.val, ltB_iff, ltB_no, leB_iff, leB_no, Int.toNat_natCast, Nat.zero_add, Nat.mul_one, forced, beq_iff_eq, beq_eq_false_iff_ne] at *)
        all_goals first | rfl | trivial
      · intro i k1
        cbv
        repeat' first
            | (refine Br.mk (fun h => ?_) (fun h => ?_) <;> cbv)
            | (refine Ob.mk ?_ ?_; rotate_left; cbv)
            | (refine Lex.mk (by kernel_rfl) ?_; cbv)
            | (refine Next.ren [4] (fun _ => i () + 1) ?_ ?_ ?_)
        all_goals (try simp only [Unit.unit, Int.ofNat_lt, Int.ofNat_le, BE.val, IE.val, NE.val, ltB_iff, ltB_no, leB_iff, leB_no, Int.toNat_natCast, Nat.zero_add, Nat.mul_one, forced, beq_iff_eq, beq_eq_false_iff_ne] at *)
        all_goals (try simp only [mk2_len, List.length_set, behindL_len, Nat.add_zero, at2_0, at2_1] at *)
        all_goals first | rfl | omega | exact wrap64_nat (by omega) | (refine ⟨Int.natCast_nonneg _, ?_⟩; omega) | (rw [show i ⟨⟩ = n ⟨⟩ by omega]) | exact (behindL_step _ _ _ _).symm
    · cases hs
  · cases hs
theorem fn78 : FnOk Try.prog 78 Try.f78 (bodyOf Try.f78) := ⟨Try.func78, rfl, by rfl⟩
def E78 : Env := fun g => envGetL [(81, ⟨true, s81, none⟩)] g
theorem E78ok : EnvOk Try.prog E78 := envOk_cons ok81 (envOk_nil _)
theorem ok78 : Ok Try.prog 78 (sFSF fun w g n s => F (afterI (g ()) (w ()) (s ()) (n ()))) := ok_of_wpa (E := E78) mixed tts E78ok fn78 fun args H v H' o hs ho => by
  split at hs
  · rename_i w o n s x
    split at hs
    · rename_i l hl
      cases hs
      obtain ⟨hlen, hbig⟩ := ho.one
      refine ⟨_, HLe.cons (BLe.fl hl) HLe.nil, ?_⟩
      cbv
      refine Ob.mk ⟨hlen, hbig⟩ ?_
      cbv
      refine loop_rule (α := Unit → Nat) (c := ⟨tt, E78, 1⟩)
          (fun i => fr 21 [(0, .c (.f .f32 fun _ => afterI (at2 (l ()) (o ())) (w ()) (s ()) (i ()))), (12, .c (.sl 1 (.l 0) (.x n))), (13, .c (.i .i64 (.x fun _ => n ()))), (14, .c (.i .i64 (.x fun _ => i ())))]) (fun i => [some ⟨false, 0, .fl l⟩, some ⟨true, 1, .fl fun _ => behindL (at2 (l ()) (o ())) (w ()) (s ()) (n ())⟩])
          (fun i => i () ≤ n ()) (fun i => n () - i ()) (fun _ => n () + 1) ?_ ?_
      · refine .mk (fun _ => 0) (Nat.zero_le _) (by dsimp only; omega) ?_
        cbv
        repeat' (refine Ob.mk ?_ ?_; rotate_left)
        all_goals (try simp only [Unit.unit, Int.ofNat_lt, Int.ofNat_le, BE.val, IE.val, NE.val, ltB_iff, ltB_no, leB_iff, leB_no, Int.toNat_natCast, Nat.zero_add, Nat.mul_one, forced, beq_iff_eq, beq_eq_false_iff_ne] at *)
        all_goals first | rfl | trivial
      · intro i k1
        cbv
        repeat' first
            | (refine Br.mk (fun h => ?_) (fun h => ?_) <;> cbv)
            | (refine Ob.mk ?_ ?_; rotate_left; cbv)
            | (refine Lex.mk (by kernel_rfl) ?_; cbv)
            | (refine Next.mk (fun _ => i () + 1) ?_ ?_ ?_)
        all_goals (try simp only [Unit.unit, Int.ofNat_lt, Int.ofNat_le, BE.val, IE.val, NE.val, ltB_iff, ltB_no, leB_iff, leB_no, Int.toNat_natCast, Nat.zero_add, Nat.mul_one, forced, beq_iff_eq, beq_eq_false_iff_ne] at *)
        all_goals (try simp only [mk2_len, List.length_set, behindL_len, Nat.add_zero, at2_0, at2_1] at *)
        all_goals first | rfl | omega | exact wrap64_nat (by omega) | (refine ⟨Int.natCast_nonneg _, ?_⟩; omega) | (rw [show i ⟨⟩ = n ⟨⟩ by omega]) | exact behindL_get _ _ _ (by omega)
    · cases hs
  · cases hs
theorem fn49 : FnOk Try.prog 49 Try.f49 (bodyOf Try.f49) := ⟨Try.func49, rfl, by rfl⟩
def E49 : Env := fun g => envGetL [(79, ⟨true, (sA2A2 fun a b a' b' => vB (sameF (cv a) (cv a') && sameF (cv b) (cv b'))), none⟩)] g
theorem E49ok : EnvOk Try.prog E49 := envOk_cons ok79 (envOk_nil _)
theorem ok49 : Ok Try.prog 49 (s49) := ok_of_wpa (E := E49) mixed tts E49ok fn49 fun args H v H' o hs ho => by
  split at hs
  · rename_i o n o' n' x x'
    split at hs
    · rename_i l l' hl hl'
      cases hs
      obtain ⟨hlen, hlen', hbig⟩ := ho.one
      refine ⟨_, HLe.cons (BLe.fl hl) (HLe.cons (BLe.fl hl') HLe.nil), ?_⟩
      cbv
      refine Br.mk (fun hne => ?_) (fun hne => ?_)
      · cbv
        repeat' (refine Ob.mk ?_ ?_; rotate_left; cbv)
        all_goals (try simp only [Unit.unit, Int.ofNat_lt, Int.ofNat_le, BE.val, IE.val, NE.val, ltB_iff, ltB_no, leB_iff, leB_no, Int.toNat_natCast, Nat.zero_add, Nat.mul_one, forced, beq_iff_eq, beq_eq_false_iff_ne] at *)
        all_goals grind
      · cbv
        have hnn : n () = n' () := by
          (try simp only [Unit.unit, Int.ofNat_lt, Int.ofNat_le, BE.val, IE.val, NE.val, ltB_iff, ltB_no, leB_iff, leB_no, Int.toNat_natCast, Nat.zero_add, Nat.mul_one, forced, beq_iff_eq, beq_eq_false_iff_ne] at *)
          grind
        refine loop_rule (α := Unit → Nat) (c := ⟨tt, E49, 2⟩)
          (fun i => fr 27 [(0, .c (.sl 0 (.x o) (.x n))), (1, .c (.sl 1 (.x o') (.x n'))), (5, .c (.i .i64 (.x fun _ => i ())))]) (fun i => [some ⟨false, 0, .fl l⟩, some ⟨false, 0, .fl l'⟩])
          (fun i => i () ≤ n () ∧ allI (sameO (at2 (l ()) (o ())) (at2 (l' ()) (o' ()))) (i ()) = true) (fun i => n () - i ()) (fun _ => n () + 1) ?_ ?_
        · refine .mk (fun _ => 0) ⟨Nat.zero_le _, rfl⟩ (by dsimp only; omega) ?_
          cbv
          repeat' (refine Ob.mk ?_ ?_; rotate_left)
          all_goals (try simp only [Unit.unit, Int.ofNat_lt, Int.ofNat_le, BE.val, IE.val, NE.val, ltB_iff, ltB_no, leB_iff, leB_no, Int.toNat_natCast, Nat.zero_add, Nat.mul_one, forced, beq_iff_eq, beq_eq_false_iff_ne] at *)
          all_goals first | rfl | trivial
        · intro i k1
          cbv
          repeat' first
            | (refine Br.mk (fun h => ?_) (fun h => ?_) <;> cbv)
            | (refine Ob.mk ?_ ?_; rotate_left; cbv)
            | (refine Lex.mk (by kernel_rfl) ?_; cbv)
            | (refine Next.mk (fun _ => i () + 1) ?_ ?_ ?_)
          all_goals (try simp only [Unit.unit, Int.ofNat_lt, Int.ofNat_le, BE.val, IE.val, NE.val, ltB_iff, ltB_no, leB_iff, leB_no, Int.toNat_natCast, Nat.zero_add, Nat.mul_one, forced, beq_iff_eq, beq_eq_false_iff_ne] at *)
          all_goals (try simp only [Nat.add_zero, at2_0, at2_1] at *)
          all_goals first | rfl | omega | exact wrap64_nat (by omega) | (refine ⟨Int.natCast_nonneg _, ?_⟩; omega) | grind [sameO, allI_no, allI, cv]
    · cases hs
  · cases hs
def wetAfter (g : Nat → Nat) (w s n : Nat) : Nat × Int := if codeO g n (isWet w && isFast s) = 0 then (afterI g w s n, 0) else (0, codeO g n (isWet w && isFast s))
theorem fn46 : FnOk Try.prog 46 Try.f46 (bodyOf Try.f46) := ⟨Try.func46, rfl, by rfl⟩
def E46 : Env := fun g => envGetL [(73, ⟨true, (sSB fun g n b => vI (codeO (g ()) (n ()) (b ()))), none⟩), (56, ⟨true, (s1F fun a => vB (isWet a)), none⟩), (74, ⟨true, (s1F fun a => vB (isFast a)), none⟩), (75, ⟨true, (sFSF fun w g n s => F (afterI (g ()) (w ()) (s ()) (n ()))), none⟩)] g
theorem E46ok : EnvOk Try.prog E46 := envOk_cons ok73 (envOk_cons ok56 (envOk_cons ok74 (envOk_cons ok75 (envOk_nil _))))
theorem ok46 : Ok Try.prog 46 (sFSF fun w g n s => .t [F (wetAfter (g ()) (w ()) (s ()) (n ())).1, vI (wetAfter (g ()) (w ()) (s ()) (n ())).2]) := ok_of_wpa (E := E46) mixed tts E46ok fn46 fun args H v H' o hs ho => by
  split at hs
  · rename_i w o n s x
    split at hs
    · rename_i l hl
      cases hs
      obtain ⟨hlen, hbig⟩ := ho.one
      refine ⟨_, HLe.cons (BLe.fl hl) HLe.nil, ?_⟩
      cbv
      repeat' first
        | (refine Br.mk (fun h => ?_) (fun h => ?_) <;> cbv)
        | (refine Ob.mk ?_ ?_; rotate_left; cbv)
      all_goals (try simp only [Unit.unit, Int.ofNat_lt, Int.ofNat_le, BE.val, IE.val, NE.val, ltB_iff, ltB_no, leB_iff, leB_no, Int.toNat_natCast, Nat.zero_add, Nat.mul_one, forced, beq_iff_eq, beq_eq_false_iff_ne] at *)
      all_goals (first | exact ⟨hlen, hbig⟩ | grind [wetAfter])
    · cases hs
  · cases hs
theorem fn48 : FnOk Try.prog 48 Try.f48 (bodyOf Try.f48) := ⟨Try.func48, rfl, by rfl⟩
def E48 : Env := fun g => envGetL [(76, ⟨true, (sSB fun g n b => vI (codeO (g ()) (n ()) (b ()))), none⟩), (54, ⟨true, (s1F fun a => vB (isWet a)), none⟩), (77, ⟨true, (s1F fun a => vB (isFast a)), none⟩), (78, ⟨true, (sFSF fun w g n s => F (afterI (g ()) (w ()) (s ()) (n ()))), none⟩)] g
theorem E48ok : EnvOk Try.prog E48 := envOk_cons ok76 (envOk_cons ok54 (envOk_cons ok77 (envOk_cons ok78 (envOk_nil _))))
theorem ok48 : Ok Try.prog 48 (sFSF fun w g n s => .t [F (wetAfter (g ()) (w ()) (s ()) (n ())).1, vI (wetAfter (g ()) (w ()) (s ()) (n ())).2]) := ok_of_wpa (E := E48) mixed tts E48ok fn48 fun args H v H' o hs ho => by
  split at hs
  · rename_i w o n s x
    split at hs
    · rename_i l hl
      cases hs
      obtain ⟨hlen, hbig⟩ := ho.one
      refine ⟨_, HLe.cons (BLe.fl hl) HLe.nil, ?_⟩
      cbv
      repeat' first
        | (refine Br.mk (fun h => ?_) (fun h => ?_) <;> cbv)
        | (refine Ob.mk ?_ ?_; rotate_left; cbv)
      all_goals (try simp only [Unit.unit, Int.ofNat_lt, Int.ofNat_le, BE.val, IE.val, NE.val, ltB_iff, ltB_no, leB_iff, leB_no, Int.toNat_natCast, Nat.zero_add, Nat.mul_one, forced, beq_iff_eq, beq_eq_false_iff_ne] at *)
      all_goals (first | exact ⟨hlen, hbig⟩ | grind [wetAfter])
    · cases hs
  · cases hs
end Go.Proofs.Ytljemkijpbfcaaa.Sh
