/- What the worst backs functions of this seat compute, each shown once. No condition. -/
import Derived.Test.YtljemkijpbfcaaaFt
set_option linter.unusedVariables false
set_option linter.unusedSimpArgs false
namespace Go.Proofs.Ytljemkijpbfcaaa.Sh
open Go Go.Proofs
theorem gtr_self (k : FloatKind) (x : Nat) : fcmp .gtr k x x = false := by
  unfold fcmp
  simp only [Ieee.Format.order]
  cases k.format.read x <;> simp [Ieee.Datum.order]
def bestI (l : List Nat) : Nat → Nat
  | 0 => 0
  | k + 1 => if fcmp .gtr .f32 (l.getD k 0) (l.getD (bestI l k) 0) then k else bestI l k
theorem bestI_lt (l : List Nat) : ∀ {k n : Nat}, 0 < n → k ≤ n → bestI l k < n
  | 0, n, h, _ => h
  | k + 1, n, h, hk => by
    unfold bestI
    split
    · omega
    · exact bestI_lt l h (by omega)
theorem bestI_one (l : List Nat) : bestI l 1 = 0 := by simp [bestI]
def worst (n : Int) (w p r t : Nat) : Int × Nat × Int :=
  if laid n w p r t then if n = 0 then (0, 0, 6) else (bestI (pileN w p r t n.toNat).2 n.toNat, (pileN w p r t n.toNat).2.getD (bestI (pileN w p r t n.toNat).2 n.toNat) 0, 0) else (0, 0, 2)
theorem fn36 : FnOk Try.prog 36 Try.f36 (bodyOf Try.f36) := ⟨Try.func36, rfl, by rfl⟩
def E36 : Env := fun g => envGetL [(68, ⟨true, (s5 fun n w p r t => vB (laid n w p r t)), none⟩), (69, ⟨true, s69, none⟩)] g
theorem E36ok : EnvOk Try.prog E36 := envOk_cons ok68 (envOk_cons ok69 (envOk_nil _))
set_option maxRecDepth 100000 in
set_option maxHeartbeats 1000000 in
theorem ok36 : Ok Try.prog 36 (s5 fun n w p r t => .t [vI (worst n w p r t).1, F (worst n w p r t).2.1, vI (worst n w p r t).2.2]) := ok_of_wpa (E := E36) mixed tts E36ok fn36 fun args H v H' o hs ho => by
  split at hs
  · rename_i n w p r t
    cases hs
    refine ⟨_, HLe.nil, ?_⟩
    cbv
    repeat' first
      | (refine Br.mk (fun h => ?_) (fun h => ?_) <;> cbv)
      | (refine Ob.mk ?_ ?_; rotate_left; cbv)
    all_goals try (simp only [Unit.unit, Int.ofNat_lt, Int.ofNat_le, BE.val, IE.val, NE.val, ltB_iff, ltB_no, leB_iff, leB_no, Int.toNat_natCast, Nat.zero_add, Nat.mul_one, forced, beq_iff_eq, beq_eq_false_iff_ne] at *; grind [worst, laid, inI, leB, ltB])
    all_goals
      have hn0 : 0 < (n ()).toNat := by
        (try simp only [Unit.unit, Int.ofNat_lt, Int.ofNat_le, BE.val, IE.val, NE.val, ltB_iff, ltB_no, leB_iff, leB_no, Int.toNat_natCast, Nat.zero_add, Nat.mul_one, forced, beq_iff_eq, beq_eq_false_iff_ne] at *)
        grind [laid, inI, leB]
      have hb : (n ()).toNat ≤ 1000 := by
        (try simp only [Unit.unit, Int.ofNat_lt, Int.ofNat_le, BE.val, IE.val, NE.val, ltB_iff, ltB_no, leB_iff, leB_no, Int.toNat_natCast, Nat.zero_add, Nat.mul_one, forced, beq_iff_eq, beq_eq_false_iff_ne] at *)
        grind [laid, inI, leB]
      have hw : worst (n ()) (w ()) (p ()) (r ()) (t ()) = ((bestI (pileN (w ()) (p ()) (r ()) (t ()) (n ()).toNat).2 (n ()).toNat : Int), ((pileN (w ()) (p ()) (r ()) (t ()) (n ()).toNat).2).getD (bestI (pileN (w ()) (p ()) (r ()) (t ()) (n ()).toNat).2 (n ()).toNat) 0, 0) := by
        (try simp only [Unit.unit, Int.ofNat_lt, Int.ofNat_le, BE.val, IE.val, NE.val, ltB_iff, ltB_no, leB_iff, leB_no, Int.toNat_natCast, Nat.zero_add, Nat.mul_one, forced, beq_iff_eq, beq_eq_false_iff_ne] at *)
        grind [worst]
      have bl : ((pileN (w ()) (p ()) (r ()) (t ()) (n ()).toNat).2).length = (n ()).toNat := (pileN_len _ _ _ _ _).2
      refine loop_rule (α := Unit → Nat) (c := ⟨tt, E36, 0⟩)
        (fun i => fr 56 [(14, .c (.sl 1 (.l 0) (.x fun _ => (n ()).toNat))), (15, .c (.i .i64 (.x fun _ => (bestI (pileN (w ()) (p ()) (r ()) (t ()) (n ()).toNat).2 (i ()) : Int)))), (16, .c (.i .i64 (.x fun _ => i ())))]) (fun _ => [none, some ⟨true, 1, .fl fun _ => (pileN (w ()) (p ()) (r ()) (t ()) (n ()).toNat).2⟩])
        (fun i => i () ≤ (n ()).toNat) (fun i => (n ()).toNat - i ()) (fun _ => (n ()).toNat + 1) ?_ ?_
      · refine .mk (fun _ => 1) (by dsimp only; omega) (by dsimp only; omega) ?_
        cbv
        repeat' (refine Ob.mk ?_ ?_; rotate_left)
        all_goals (try simp only [Unit.unit, Int.ofNat_lt, Int.ofNat_le, BE.val, IE.val, NE.val, ltB_iff, ltB_no, leB_iff, leB_no, Int.toNat_natCast, Nat.zero_add, Nat.mul_one, forced, beq_iff_eq, beq_eq_false_iff_ne] at *)
        all_goals first | with_reducible rfl | trivial | (rw [bestI_one]; rfl) | rfl
      · intro i hi
        have bi := bestI_lt (pileN (w ()) (p ()) (r ()) (t ()) (n ()).toNat).2 hn0 hi
        cbv
        repeat' first
          | (refine Br.mk (fun h => ?_) (fun h => ?_) <;> cbv)
          | (refine Ob.mk ?_ ?_; rotate_left; cbv)
          | (refine Lex.mk (by kernel_rfl) ?_; cbv)
          | (refine Next.mk (fun _ => i () + 1) ?_ ?_ ?_)
        all_goals (try simp only [Unit.unit, Int.ofNat_lt, Int.ofNat_le, BE.val, IE.val, NE.val, ltB_iff, ltB_no, leB_iff, leB_no, Int.toNat_natCast, Nat.zero_add, Nat.mul_one, forced, beq_iff_eq, beq_eq_false_iff_ne] at *)
        all_goals (try simp only [bl])
        all_goals first | with_reducible rfl | omega | exact wrap64_nat (by omega) | (refine ⟨Int.natCast_nonneg _, ?_⟩; omega) | grind [bestI] | (have e : i ⟨⟩ = (n ⟨⟩).toNat := (by omega); rw [hw, e]; done) | (have e : i ⟨⟩ = (n ⟨⟩).toNat := (by omega); rw [hw, e]; rfl)
  · cases hs
def s5o (b : Bool) (f : Int → Nat → Nat → Nat → Nat → V) : Spec := nspec fun args H => match args, H with
  | [.c (.i .i64 (.x n)), .c (.f .f32 w), .c (.f .f32 p), .c (.f .f32 r), .c (.f .f32 t)], [] => some (f (n ()) (w ()) (p ()) (r ()) (t ()), [], [fun _ => laid (n ()) (w ()) (p ()) (r ()) (t ()) = b])
  | _, _ => none
theorem fn37 : FnOk Try.prog 37 Try.f37 (bodyOf Try.f37) := ⟨Try.func37, rfl, by rfl⟩
def E37 : Env := fun g => envGetL [(70, ⟨true, s70, none⟩)] g
theorem E37ok : EnvOk Try.prog E37 := envOk_cons ok70 (envOk_nil _)
set_option maxRecDepth 100000 in
set_option maxHeartbeats 1000000 in
theorem ok37 : Ok Try.prog 37 (s5o true fun n w p r t => .t [vI (worst n w p r t).1, F (worst n w p r t).2.1, vI (worst n w p r t).2.2]) := ok_of_wpa (E := E37) mixed tts E37ok fn37 fun args H v H' o hs ho => by
  split at hs
  · rename_i n w p r t
    cases hs
    have hlaid : laid (n ()) (w ()) (p ()) (r ()) (t ()) = true := ho.one
    refine ⟨_, HLe.nil, ?_⟩
    cbv
    repeat' first
      | (refine Br.mk (fun h => ?_) (fun h => ?_) <;> cbv)
      | (refine Ob.mk ?_ ?_; rotate_left; cbv)
    all_goals try (simp only [Unit.unit, Int.ofNat_lt, Int.ofNat_le, BE.val, IE.val, NE.val, ltB_iff, ltB_no, leB_iff, leB_no, Int.toNat_natCast, Nat.zero_add, Nat.mul_one, forced, beq_iff_eq, beq_eq_false_iff_ne] at *; grind [worst, laid, inI, leB, ltB])
    all_goals
      have hn0 : 0 < (n ()).toNat := by
        (try simp only [Unit.unit, Int.ofNat_lt, Int.ofNat_le, BE.val, IE.val, NE.val, ltB_iff, ltB_no, leB_iff, leB_no, Int.toNat_natCast, Nat.zero_add, Nat.mul_one, forced, beq_iff_eq, beq_eq_false_iff_ne] at *)
        grind [laid, inI, leB]
      have hb : (n ()).toNat ≤ 1000 := by
        (try simp only [Unit.unit, Int.ofNat_lt, Int.ofNat_le, BE.val, IE.val, NE.val, ltB_iff, ltB_no, leB_iff, leB_no, Int.toNat_natCast, Nat.zero_add, Nat.mul_one, forced, beq_iff_eq, beq_eq_false_iff_ne] at *)
        grind [laid, inI, leB]
      have hw : worst (n ()) (w ()) (p ()) (r ()) (t ()) = ((bestI (pileN (w ()) (p ()) (r ()) (t ()) (n ()).toNat).2 (n ()).toNat : Int), ((pileN (w ()) (p ()) (r ()) (t ()) (n ()).toNat).2).getD (bestI (pileN (w ()) (p ()) (r ()) (t ()) (n ()).toNat).2 (n ()).toNat) 0, 0) := by
        (try simp only [Unit.unit, Int.ofNat_lt, Int.ofNat_le, BE.val, IE.val, NE.val, ltB_iff, ltB_no, leB_iff, leB_no, Int.toNat_natCast, Nat.zero_add, Nat.mul_one, forced, beq_iff_eq, beq_eq_false_iff_ne] at *)
        grind [worst]
      have bl : ((pileN (w ()) (p ()) (r ()) (t ()) (n ()).toNat).2).length = (n ()).toNat := (pileN_len _ _ _ _ _).2
      refine loop_rule (α := Unit → Nat) (c := ⟨tt, E37, 0⟩)
        (fun i => fr 57 [(14, .c (.sl 1 (.l 0) (.x fun _ => (n ()).toNat))), (16, .c (.i .i64 (.x fun _ => (bestI (pileN (w ()) (p ()) (r ()) (t ()) (n ()).toNat).2 (i ()) : Int)))), (39, .c (.i .i64 (.x fun _ => i ()))), (37, .c (.sl 1 (.l 0) (.x fun _ => (n ()).toNat))), (38, .c (.i .i64 (.x fun _ => ((n ()).toNat : Int))))]) (fun _ => [none, some ⟨true, 1, .fl fun _ => (pileN (w ()) (p ()) (r ()) (t ()) (n ()).toNat).2⟩])
        (fun i => i () ≤ (n ()).toNat) (fun i => (n ()).toNat - i ()) (fun _ => (n ()).toNat + 1) ?_ ?_
      · refine .mk (fun _ => 0) (by dsimp only; omega) (by dsimp only; omega) ?_
        cbv
        repeat' (refine Ob.mk ?_ ?_; rotate_left)
        all_goals (try simp only [Unit.unit, Int.ofNat_lt, Int.ofNat_le, BE.val, IE.val, NE.val, ltB_iff, ltB_no, leB_iff, leB_no, Int.toNat_natCast, Nat.zero_add, Nat.mul_one, forced, beq_iff_eq, beq_eq_false_iff_ne] at *)
        all_goals first | with_reducible rfl | trivial | (rw [bestI_one]; rfl) | rfl
      · intro i hi
        have bi := bestI_lt (pileN (w ()) (p ()) (r ()) (t ()) (n ()).toNat).2 hn0 hi
        cbv
        repeat' first
          | (refine Br.mk (fun h => ?_) (fun h => ?_) <;> cbv)
          | (refine Ob.mk ?_ ?_; rotate_left; cbv)
          | (refine Lex.mk (by kernel_rfl) ?_; cbv)
          | (refine Next.mk (fun _ => i () + 1) ?_ ?_ ?_)
        all_goals (try simp only [Unit.unit, Int.ofNat_lt, Int.ofNat_le, BE.val, IE.val, NE.val, ltB_iff, ltB_no, leB_iff, leB_no, Int.toNat_natCast, Nat.zero_add, Nat.mul_one, forced, beq_iff_eq, beq_eq_false_iff_ne] at *)
        all_goals (try simp only [bl])
        all_goals first | with_reducible rfl | omega | exact wrap64_nat (by omega) | (refine ⟨Int.natCast_nonneg _, ?_⟩; omega) | grind [bestI] | (have e : i ⟨⟩ = (n ⟨⟩).toNat := (by omega); rw [hw, e]; done) | (have e : i ⟨⟩ = (n ⟨⟩).toNat := (by omega); rw [hw, e]; rfl)
  · cases hs
def E37F : Env := fun g => envGetL [(70, ⟨true, s70F, none⟩)] g
theorem E37Fok : EnvOk Try.prog E37F := envOk_cons ok70F (envOk_nil _)
set_option maxRecDepth 100000 in
set_option maxHeartbeats 1000000 in
theorem ok37F : Ok Try.prog 37 (s5o false fun n w p r t => .t [vI (worst n w p r t).1, F (worst n w p r t).2.1, vI (worst n w p r t).2.2]) := ok_of_wpa (E := E37F) mixed tts E37Fok fn37 fun args H v H' o hs ho => by
  split at hs
  · rename_i n w p r t
    cases hs
    have hlaid : laid (n ()) (w ()) (p ()) (r ()) (t ()) = false := ho.one
    refine ⟨_, HLe.nil, ?_⟩
    cbv
    repeat' first
      | (refine Br.mk (fun h => ?_) (fun h => ?_) <;> cbv)
      | (refine Ob.mk ?_ ?_; rotate_left; cbv)
    all_goals first | with_reducible rfl | ((try simp only [Unit.unit, Int.ofNat_lt, Int.ofNat_le, BE.val, IE.val, NE.val, ltB_iff, ltB_no, leB_iff, leB_no, Int.toNat_natCast, Nat.zero_add, Nat.mul_one, forced, beq_iff_eq, beq_eq_false_iff_ne] at *); grind [worst])
  · cases hs
theorem fn11 : FnOk Try.prog 11 Try.f11 (bodyOf Try.f11) := ⟨Try.func11, rfl, by rfl⟩
def E11T : Env := fun g => envGetL [(36, ⟨true, (s5 fun n w p r t => .t [vI (worst n w p r t).1, F (worst n w p r t).2.1, vI (worst n w p r t).2.2]), none⟩), (37, ⟨true, (s5o true fun n w p r t => .t [vI (worst n w p r t).1, F (worst n w p r t).2.1, vI (worst n w p r t).2.2]), none⟩), (24, ⟨true, (s2D fun a b => vB (sameF a b)), none⟩)] g
theorem E11Tok : EnvOk Try.prog E11T := envOk_cons ok36 (envOk_cons ok37 (envOk_cons ok24 (envOk_nil _)))
set_option maxRecDepth 100000 in
set_option maxHeartbeats 1000000 in
theorem ok11T : Ok Try.prog 11 (s5o true fun _ _ _ _ _ => .c (.b (.l true))) := ok_of_wpa (E := E11T) mixed tts E11Tok fn11 fun args H v H' o hs ho => by
  split at hs
  · rename_i n w p r t
    cases hs
    have hlaid : laid (n ()) (w ()) (p ()) (r ()) (t ()) = true := ho.one
    refine ⟨_, HLe.nil, ?_⟩
    cbv
    repeat' first
      | (refine Br.mk (fun h => ?_) (fun h => ?_) <;> cbv)
      | (refine Ob.mk ?_ ?_; rotate_left; cbv)
    all_goals (try simp only [Unit.unit, BE.val, IE.val, NE.val] at *)
    all_goals first | exact hlaid | (simp_all [sameF_refl, cv]; done) | grind [sameF_refl]
  · cases hs
def E11F : Env := fun g => envGetL [(36, ⟨true, (s5 fun n w p r t => .t [vI (worst n w p r t).1, F (worst n w p r t).2.1, vI (worst n w p r t).2.2]), none⟩), (37, ⟨true, (s5o false fun n w p r t => .t [vI (worst n w p r t).1, F (worst n w p r t).2.1, vI (worst n w p r t).2.2]), none⟩), (24, ⟨true, (s2D fun a b => vB (sameF a b)), none⟩)] g
theorem E11Fok : EnvOk Try.prog E11F := envOk_cons ok36 (envOk_cons ok37F (envOk_cons ok24 (envOk_nil _)))
set_option maxRecDepth 100000 in
set_option maxHeartbeats 1000000 in
theorem ok11F : Ok Try.prog 11 (s5o false fun _ _ _ _ _ => .c (.b (.l true))) := ok_of_wpa (E := E11F) mixed tts E11Fok fn11 fun args H v H' o hs ho => by
  split at hs
  · rename_i n w p r t
    cases hs
    have hlaid : laid (n ()) (w ()) (p ()) (r ()) (t ()) = false := ho.one
    refine ⟨_, HLe.nil, ?_⟩
    cbv
    repeat' first
      | (refine Br.mk (fun h => ?_) (fun h => ?_) <;> cbv)
      | (refine Ob.mk ?_ ?_; rotate_left; cbv)
    all_goals (try simp only [Unit.unit, BE.val, IE.val, NE.val] at *)
    all_goals first | exact hlaid | (simp_all [sameF_refl, cv]; done) | grind [sameF_refl]
  · cases hs
theorem ok5_both {P : Program} {g : Nat} {f : Int → Nat → Nat → Nat → Nat → V} (hT : Ok P g (s5o true f)) (hF : Ok P g (s5o false f)) : Ok P g (s5 f) := by
  intro args H v H' o hs ho
  have key : ∀ b, (∃ o', s5o b f args H = some (v, H', o') ∧ holds o') → Ok P g (s5o b f) → ∀ (μ : Nat → Loc) (W : Nat → Prop) (w : World) (vs : List Value), (∀ k, w.heap.size ≤ k → W k) → HRel μ W H w → relL (relV μ H.length) args vs →
    OkRun P g vs.toArray w fun x w' => ∃ ν, agree H.length μ ν ∧ H.length ≤ H'.length ∧ HRel ν W H' w' ∧ relV ν H'.length v x ∧ Fr W w w' := fun b ⟨o', h1, h2⟩ hk => hk args H v H' o' h1 h2
  have pick : ∃ b o', s5o b f args H = some (v, H', o') ∧ holds o' := by
    unfold s5 nspec at hs
    unfold s5o nspec
    revert hs
    generalize args.map nrm = xs
    intro hs
    split at hs
    · rename_i n w p r t
      cases hs
      exact ⟨laid (n ()) (w ()) (p ()) (r ()) (t ()), _, rfl, fun q hq => by rw [List.mem_singleton] at hq; subst hq; rfl⟩
    · cases hs
  obtain ⟨b, h⟩ := pick
  cases b with
  | true => exact key true h hT
  | false => exact key false h hF
theorem ok11 : Ok Try.prog 11 (s5 fun _ _ _ _ _ => .c (.b (.l true))) := ok5_both ok11T ok11F
end Go.Proofs.Ytljemkijpbfcaaa.Sh
