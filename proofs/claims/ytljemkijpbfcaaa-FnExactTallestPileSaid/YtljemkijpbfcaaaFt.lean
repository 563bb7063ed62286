/- What piles of the program functions of this seat compute, each shown once. No condition. -/
import Derived.Test.YtljemkijpbfcaaaFs
set_option linter.unusedVariables false
set_option linter.unusedSimpArgs false
namespace Go.Proofs.Ytljemkijpbfcaaa.Sh
open Go Go.Proofs
def s70 : Spec := nspec fun args H => match args, H with
  | [.c (.i .i64 (.x n)), .c (.f .f32 w), .c (.f .f32 p), .c (.f .f32 r), .c (.f .f32 t)], [] =>
    some (.t [.c (.sl 0 (.l 0) (.x fun _ => (n ()).toNat)), .c (.sl 1 (.l 0) (.x fun _ => (n ()).toNat)), .c (.i .i64 (.l 0))],
      [some ⟨true, 1, .fl fun _ => (pileN (w ()) (p ()) (r ()) (t ()) (n ()).toNat).1⟩, some ⟨true, 1, .fl fun _ => (pileN (w ()) (p ()) (r ()) (t ()) (n ()).toNat).2⟩], [fun _ => laid (n ()) (w ()) (p ()) (r ()) (t ()) = true])
  | _, _ => none
def s70F : Spec := nspec fun args H => match args, H with
  | [.c (.i .i64 (.x n)), .c (.f .f32 w), .c (.f .f32 p), .c (.f .f32 r), .c (.f .f32 t)], [] =>
    some (.t [.c .sn, .c .sn, .c (.i .i64 (.l 2))], [], [fun _ => laid (n ()) (w ()) (p ()) (r ()) (t ()) = false])
  | _, _ => none
theorem fn70 : FnOk Try.prog 70 Try.f70 (bodyOf Try.f70) := ⟨Try.func70, rfl, by rfl⟩
def E70 : Env := fun g => envGetL [(54, ⟨true, (s1F fun a => vB (isWet a)), none⟩), (58, ⟨true, (s1F fun a => vB (isPart a)), none⟩), (62, ⟨true, (s2F fun r t => vB (isRate r && isRate t)), none⟩), (59, ⟨true, (s2F fun a b => F (mul a b)), none⟩), (63, ⟨true, (s3F fun w r t => F (dry w r t)), none⟩)] g
theorem E70ok : EnvOk Try.prog E70 := envOk_cons ok54 (envOk_cons ok58 (envOk_cons ok62 (envOk_cons ok59 (envOk_cons ok63 (envOk_nil _)))))
set_option maxRecDepth 100000 in
set_option maxHeartbeats 2000000 in
theorem ok70 : Ok Try.prog 70 (s70) := ok_of_wpa (E := E70) mixed tts E70ok fn70 fun args H v H' o hs ho => by
  split at hs
  · rename_i n w p r t
    cases hs
    have hlaid : laid (n ()) (w ()) (p ()) (r ()) (t ()) = true := ho.one
    have hn : n () ≤ 1000 := by
      simp only [laid, Bool.and_eq_true, inI_iff] at hlaid
      omega
    refine ⟨_, HLe.nil, ?_⟩
    cbv
    repeat' first
      | (refine Br.mk (fun h => ?_) (fun h => ?_) <;> cbv)
    all_goals try (exfalso; simp only [Unit.unit, Int.ofNat_lt, Int.ofNat_le, BE.val, IE.val, NE.val, ltB_iff, ltB_no, leB_iff, leB_no, Int.toNat_natCast, Nat.zero_add, Nat.mul_one, forced, beq_iff_eq, beq_eq_false_iff_ne] at *; grind [laid, inI, leB, ltB])
    refine loop_rule (α := Unit → Nat) (c := ⟨tt, E70, 0⟩)
      (fun k => fr 93 [(43, .c (.i .i64 (.x n))), (1, .c (.f .f32 w)), (2, .c (.f .f32 p)), (3, .c (.f .f32 r)), (4, .c (.f .f32 t)), (13, .c (.sl 0 (.l 0) (.x k))), (14, .c (.sl 1 (.l 0) (.x k))), (44, .c (.i .i64 (.x fun _ => k ())))]) (fun k => [some ⟨true, 1, .fl fun _ => (pileN (w ()) (p ()) (r ()) (t ()) (k ())).1⟩, some ⟨true, 1, .fl fun _ => (pileN (w ()) (p ()) (r ()) (t ()) (k ())).2⟩])
      (fun k => k () ≤ (n ()).toNat) (fun k => (n ()).toNat - k ()) (fun _ => (n ()).toNat + 1) ?_ ?_
    · refine .mk (fun _ => 0) (Nat.zero_le _) (by dsimp only; omega) ?_
      cbv
      repeat' (refine Ob.mk ?_ ?_; rotate_left)
      all_goals (try simp only [Unit.unit, Int.ofNat_lt, Int.ofNat_le, BE.val, IE.val, NE.val, ltB_iff, ltB_no, leB_iff, leB_no, Int.toNat_natCast, Nat.zero_add, Nat.mul_one, forced, beq_iff_eq, beq_eq_false_iff_ne] at *)
      all_goals first | rfl | trivial
    · intro k hk
      have pl1 : (pileN (w ()) (p ()) (r ()) (t ()) (k ())).1.length = k () := (pileN_len (w ()) (p ()) (r ()) (t ()) (k ())).1
      have pl2 : (pileN (w ()) (p ()) (r ()) (t ()) (k ())).2.length = k () := (pileN_len (w ()) (p ()) (r ()) (t ()) (k ())).2
      cbv
      refine Br.mk (fun h1 => ?_) (fun h1 => ?_)
      · have h1n : k ⟨⟩ < (n ⟨⟩).toNat := (by have e : (k ⟨⟩ : Int) < n ⟨⟩ := ltB_iff.1 h1; omega)
        cbv
        refine Br.mk (fun h2 => ?_) (fun h2 => ?_)
        all_goals
          cbv
          repeat' (refine Ob.mk ?_ ?_; rotate_left; cbv)
          · refine loop_rule (α := Unit → Nat) (c := ⟨tt, E70, 0⟩)
              (fun i => fr 93 [(43, .c (.i .i64 (.x n))), (1, .c (.f .f32 w)), (2, .c (.f .f32 p)), (3, .c (.f .f32 r)), (4, .c (.f .f32 t)), (13, .c (.sl 3 (.l 0) (.x fun _ => k () + 1))), (14, .c (.sl 5 (.l 0) (.x fun _ => k () + 1))), (44, .c (.i .i64 (.x fun _ => k ()))), (77, .c (.i .i64 (.x fun _ => i ()))), (75, .c (.sl 3 (.l 0) (.x fun _ => k () + 1))), (76, .c (.i .i64 (.x fun _ => ((k () + 1 : Nat) : Int))))])
              (fun i => [none, none, none, some ⟨true, 1, .fl fun _ => dryTo (r ()) (t ()) (laidOn (p ()) (w ()) (pileN (w ()) (p ()) (r ()) (t ()) (k ())).1 (k ())) (i ())⟩, none, some ⟨true, 1, .fl fun _ => (pileN (w ()) (p ()) (r ()) (t ()) (k ())).2 ++ [backOf (p ()) (pileN (w ()) (p ()) (r ()) (t ()) (k ())).1 (k ())]⟩])
              (fun i => i () ≤ k () + 1) (fun i => k () + 1 - i ()) (fun _ => k () + 2) ?_ ?_
            · refine .mk (fun _ => 0) (Nat.zero_le _) (by dsimp only; omega) ?_
              cbv
              repeat' (refine Ob.mk ?_ ?_; rotate_left)
              all_goals (try simp only [Unit.unit, Int.ofNat_lt, Int.ofNat_le, BE.val, IE.val, NE.val, ltB_iff, ltB_no, leB_iff, leB_no, Int.toNat_natCast, Nat.zero_add, Nat.mul_one, forced, beq_iff_eq, beq_eq_false_iff_ne] at *)
              all_goals first | with_reducible rfl | trivial | (have h2' : 0 < k ⟨⟩ := Int.natCast_pos.1 h2; simp only [wrapPred h2' (by omega), dryTo_zero, laidOn, backOf, mul, if_neg (show ¬ k ⟨⟩ = 0 by omega)]; done) | (have h2' : k ⟨⟩ = 0 := Nat.eq_zero_of_not_pos fun e => h2 (Int.natCast_pos.2 e); simp only [dryTo_zero, laidOn, backOf, h2', if_true]; done)
            · intro i hi
              cbv
              refine Br.mk (fun h3 => ?_) (fun h3 => ?_)
              · cbv
                repeat' first
                  | (refine Ob.mk ?_ ?_; rotate_left; cbv)
                  | (refine Next.mk (fun _ => i () + 1) ?_ ?_ ?_)
                all_goals (try simp only [Unit.unit, Int.ofNat_lt, Int.ofNat_le, BE.val, IE.val, NE.val, ltB_iff, ltB_no, leB_iff, leB_no, Int.toNat_natCast, Nat.zero_add, Nat.mul_one, forced, beq_iff_eq, beq_eq_false_iff_ne] at *)
                all_goals (try simp only [dryTo_len, laidOn_len, List.length_set] at *)
                all_goals first | with_reducible rfl | omega | exact wrap64_nat (by omega) | (refine ⟨Int.natCast_nonneg _, ?_⟩; omega) | (rw [dryTo_get (by rw [laidOn_len, pl1]; omega), dryTo_step (by rw [laidOn_len, pl1]; omega)])
              · cbv
                repeat' first
                  | (refine Ob.mk ?_ ?_; rotate_left; cbv)
                  | (refine Next.ren [3, 5] (fun _ => k () + 1) ?_ ?_ ?_)
                all_goals (try simp only [Unit.unit, Int.ofNat_lt, Int.ofNat_le, BE.val, IE.val, NE.val, ltB_iff, ltB_no, leB_iff, leB_no, Int.toNat_natCast, Nat.zero_add, Nat.mul_one, forced, beq_iff_eq, beq_eq_false_iff_ne] at *)
                all_goals first | with_reducible rfl | omega | exact wrap64_nat (by omega) | (rw [show i ⟨⟩ = k ⟨⟩ + 1 by omega]; rfl) | rfl
          all_goals (try simp only [Unit.unit, Int.ofNat_lt, Int.ofNat_le, BE.val, IE.val, NE.val, ltB_iff, ltB_no, leB_iff, leB_no, Int.toNat_natCast, Nat.zero_add, Nat.mul_one, forced, beq_iff_eq, beq_eq_false_iff_ne] at *)
          all_goals (try simp only [List.length_set, pl1, pl2])
          all_goals first | with_reducible rfl | omega | (have h2' : 0 < k ⟨⟩ := Int.natCast_pos.1 h2; first | (rw [wrapPred h2' (by omega)]; omega) | (rw [wrap64 (by omega) (by omega)]; omega)) | grind [wrap64]
      · have h1n : k ⟨⟩ = (n ⟨⟩).toNat := (by have e : ¬ (k ⟨⟩ : Int) < n ⟨⟩ := ltB_no.1 h1; have hk' : k ⟨⟩ ≤ (n ⟨⟩).toNat := hk; omega)
        cbv
        repeat' (refine Ob.mk ?_ ?_; rotate_left; cbv)
        all_goals (try simp only [Unit.unit, Int.ofNat_lt, Int.ofNat_le, BE.val, IE.val, NE.val, ltB_iff, ltB_no, leB_iff, leB_no, Int.toNat_natCast, Nat.zero_add, Nat.mul_one, forced, beq_iff_eq, beq_eq_false_iff_ne] at *)
        all_goals first | rfl | omega | (rw [h1n])
  · cases hs
theorem ok70F : Ok Try.prog 70 s70F := ok_of_wpa (E := E70) mixed tts E70ok fn70 fun args H v H' o hs ho => by
  split at hs
  · rename_i n w p r t
    cases hs
    have hlaid : laid (n ()) (w ()) (p ()) (r ()) (t ()) = false := ho.one
    refine ⟨_, HLe.nil, ?_⟩
    cbv
    repeat' first
      | (refine Br.mk (fun h => ?_) (fun h => ?_) <;> cbv)
      | (refine Ob.mk ?_ ?_; rotate_left; cbv)
    all_goals first | rfl | (exfalso; simp only [Unit.unit, Int.ofNat_lt, Int.ofNat_le, BE.val, IE.val, NE.val, ltB_iff, ltB_no, leB_iff, leB_no, Int.toNat_natCast, Nat.zero_add, Nat.mul_one, forced, beq_iff_eq, beq_eq_false_iff_ne] at *; grind [laid, inI, leB, ltB])
  · cases hs
end Go.Proofs.Ytljemkijpbfcaaa.Sh
