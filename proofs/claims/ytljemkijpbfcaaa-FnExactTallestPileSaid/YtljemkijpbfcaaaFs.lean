/- What piles of the reference functions of this seat compute, each shown once. No condition. -/
import Derived.Test.YtljemkijpbfcaaaFr
set_option linter.unusedVariables false
set_option linter.unusedSimpArgs false
namespace Go.Proofs.Ytljemkijpbfcaaa.Sh
open Go Go.Proofs
def dryTo (r t : Nat) (l : List Nat) (i : Nat) : List Nat := (l.take i).map (fun a => dry a r t) ++ l.drop i
theorem dryTo_len (r t : Nat) (l : List Nat) (i : Nat) : (dryTo r t l i).length = l.length := by simp [dryTo]; omega
theorem dryTo_zero (r t : Nat) (l : List Nat) : dryTo r t l 0 = l := by simp [dryTo]
theorem dryTo_get {r t : Nat} {l : List Nat} {i : Nat} (h : i < l.length) : (dryTo r t l i).getD i 0 = l.getD i 0 := by
  simp [dryTo, List.getD_eq_getElem?_getD, List.getElem?_append, Nat.min_eq_left (Nat.le_of_lt h)]
theorem dryTo_step {r t : Nat} {l : List Nat} {i : Nat} (h : i < l.length) : (dryTo r t l i).set i (dry (l.getD i 0) r t) = dryTo r t l (i + 1) := by
  refine List.ext_getElem? fun j => ?_
  simp only [dryTo, List.getElem?_set, List.getElem?_append, List.length_append, List.length_map, List.length_take, List.length_drop, List.getElem?_map, List.getElem?_take, List.getElem?_drop, Nat.min_eq_left (Nat.le_of_lt h), Nat.min_eq_left (show i + 1 ≤ l.length from h)]
  by_cases e : i = j
  · subst e
    simp [show i < i + (l.length - i) by omega, List.getD_eq_getElem?_getD, h]
  · rw [if_neg e]
    by_cases hj : j < i
    · simp [hj, show j < i + 1 by omega]
    · simp [hj, show ¬ j < i + 1 by omega, show i + (j - i) = j by omega, show i + 1 + (j - (i + 1)) = j by omega]
theorem wrapPred {k : Nat} (h : 0 < k) (hk : k < 4611686018427387904) : (IntKind.wrap .i64 ((k : Int) - 1)).toNat = k - 1 := by
  rw [wrap64 (by omega) (by omega)]; omega
/-- one more sheet -/
def backOf (press : Nat) (fs : List Nat) (k : Nat) : Nat := if k = 0 then 0 else mul (fs.getD (k - 1) 0) press
def laidOn (press wet : Nat) (fs : List Nat) (k : Nat) : List Nat := (if k = 0 then fs else fs.set (k - 1) (fop .sub .f32 (fs.getD (k - 1) 0) (backOf press fs k))) ++ [wet]
def pileN (wet press r t : Nat) : Nat → List Nat × List Nat
  | 0 => ([], [])
  | k + 1 => (dryTo r t (laidOn press wet (pileN wet press r t k).1 k) (k + 1), (pileN wet press r t k).2 ++ [backOf press (pileN wet press r t k).1 k])
theorem pileN_len (wet press r t : Nat) : ∀ k, (pileN wet press r t k).1.length = k ∧ (pileN wet press r t k).2.length = k
  | 0 => ⟨rfl, rfl⟩
  | k + 1 => by
    obtain ⟨h1, h2⟩ := pileN_len wet press r t k
    refine ⟨?_, by simp [pileN, h2]⟩
    simp only [pileN, dryTo_len, laidOn]
    split <;> simp [h1]
theorem laidOn_len (press wet : Nat) (fs : List Nat) (k : Nat) : (laidOn press wet fs k).length = fs.length + 1 := by
  unfold laidOn; split <;> simp
def s69 : Spec := nspec fun args H => match args, H with
  | [.c (.i .i64 (.x n)), .c (.f .f32 w), .c (.f .f32 p), .c (.f .f32 r), .c (.f .f32 t)], [] =>
    some (.t [.c (.sl 0 (.l 0) (.x fun _ => (n ()).toNat)), .c (.sl 1 (.l 0) (.x fun _ => (n ()).toNat))],
      [some ⟨true, 1, .fl fun _ => (pileN (w ()) (p ()) (r ()) (t ()) (n ()).toNat).1⟩, some ⟨true, 1, .fl fun _ => (pileN (w ()) (p ()) (r ()) (t ()) (n ()).toNat).2⟩], [fun _ => n () ≤ 1000])
  | _, _ => none
theorem fn69 : FnOk Try.prog 69 Try.f69 (bodyOf Try.f69) := ⟨Try.func69, rfl, by rfl⟩
def E69 : Env := fun g => envGetL [(61, ⟨true, (s3F fun w r t => F (dry w r t)), none⟩)] g
theorem E69ok : EnvOk Try.prog E69 := envOk_cons ok61 (envOk_nil _)
set_option maxRecDepth 100000 in
set_option maxHeartbeats 1000000 in
theorem ok69 : Ok Try.prog 69 (s69) := ok_of_wpa (E := E69) mixed tts E69ok fn69 fun args H v H' o hs ho => by
  split at hs
  · rename_i n w p r t
    cases hs
    have hn : n () ≤ 1000 := ho.one
    refine ⟨_, HLe.nil, ?_⟩
    cbv
    refine loop_rule (α := Unit → Nat) (c := ⟨tt, E69, 0⟩)
      (fun k => fr 70 [(0, .c (.i .i64 (.x n))), (1, .c (.f .f32 w)), (2, .c (.f .f32 p)), (3, .c (.f .f32 r)), (4, .c (.f .f32 t)), (12, .c (.sl 0 (.l 0) (.x k))), (13, .c (.sl 1 (.l 0) (.x k))), (14, .c (.i .i64 (.x fun _ => k ())))]) (fun k => [some ⟨true, 1, .fl fun _ => (pileN (w ()) (p ()) (r ()) (t ()) (k ())).1⟩, some ⟨true, 1, .fl fun _ => (pileN (w ()) (p ()) (r ()) (t ()) (k ())).2⟩])
      (fun k => k () ≤ (n ()).toNat) (fun k => (n ()).toNat - k ()) (fun _ => (n ()).toNat + 1) ?_ ?_
    · refine .mk (fun _ => 0) (Nat.zero_le _) (by dsimp only; omega) ?_
      cbv
      repeat' (refine Ob.mk ?_ ?_; rotate_left)
      all_goals (try simp only [Unit.unit, Int.ofNat_lt, Int.ofNat_le, BE.val, IE.val, NE.val, ltB_iff, ltB_no, leB_iff, leB_no, Int.toNat_natCast, Nat.zero_add, Nat.mul_one, forced, beq_iff_eq, beq_eq_false_iff_ne] at *)
      all_goals first | rfl | trivial
    · intro k hk
      have pl1 : (pileN (w ()) (p ()) (r ()) (t ()) (k ())).1.length = k () := (pileN_len (w ()) (p ()) (r ()) (t ()) (k ())).1
      have pl2 : (pileN (w ()) (p ()) (r ()) (t ()) (k ())).2.length = k () := (pileN_len (w ()) (p ()) (r ()) (t ()) (k ())).2
      cbv
      refine Br.mk (fun h1 => ?_) (fun h1 => ?_)
      · have h1n : k ⟨⟩ < (n ⟨⟩).toNat := (by have e : (k ⟨⟩ : Int) < n ⟨⟩ := ltB_iff.1 h1; omega)
        cbv
        refine Br.mk (fun h2 => ?_) (fun h2 => ?_)
        all_goals
          cbv
          repeat' (refine Ob.mk ?_ ?_; rotate_left; cbv)
          · refine loop_rule (α := Unit → Nat) (c := ⟨tt, E69, 0⟩)
              (fun i => fr 70 [(0, .c (.i .i64 (.x n))), (1, .c (.f .f32 w)), (2, .c (.f .f32 p)), (3, .c (.f .f32 r)), (4, .c (.f .f32 t)), (12, .c (.sl 3 (.l 0) (.x fun _ => k () + 1))), (13, .c (.sl 5 (.l 0) (.x fun _ => k () + 1))), (14, .c (.i .i64 (.x fun _ => k ()))), (16, .c (.i .i64 (.x fun _ => i ())))])
              (fun i => [none, none, none, some ⟨true, 1, .fl fun _ => dryTo (r ()) (t ()) (laidOn (p ()) (w ()) (pileN (w ()) (p ()) (r ()) (t ()) (k ())).1 (k ())) (i ())⟩, none, some ⟨true, 1, .fl fun _ => (pileN (w ()) (p ()) (r ()) (t ()) (k ())).2 ++ [backOf (p ()) (pileN (w ()) (p ()) (r ()) (t ()) (k ())).1 (k ())]⟩])
              (fun i => i () ≤ k () + 1) (fun i => k () + 1 - i ()) (fun _ => k () + 2) ?_ ?_
            · refine .mk (fun _ => 0) (Nat.zero_le _) (by dsimp only; omega) ?_
              cbv
              repeat' (refine Ob.mk ?_ ?_; rotate_left)
              all_goals (try simp only [Unit.unit, Int.ofNat_lt, Int.ofNat_le, BE.val, IE.val, NE.val, ltB_iff, ltB_no, leB_iff, leB_no, Int.toNat_natCast, Nat.zero_add, Nat.mul_one, forced, beq_iff_eq, beq_eq_false_iff_ne] at *)
              all_goals first | with_reducible rfl | trivial | (have h2' : 0 < k ⟨⟩ := Int.natCast_pos.1 h2; simp only [wrapPred h2' (by omega), dryTo_zero, laidOn, backOf, mul, if_neg (show ¬ k ⟨⟩ = 0 by omega)]; done) | (have h2' : k ⟨⟩ = 0 := Nat.eq_zero_of_not_pos fun e => h2 (Int.natCast_pos.2 e); simp only [dryTo_zero, laidOn, backOf, h2', if_true]; done)
            · intro i hi
              cbv
              refine Br.mk (fun h3 => ?_) (fun h3 => ?_)
              · cbv
                repeat' first
                  | (refine Ob.mk ?_ ?_; rotate_left; cbv)
                  | (refine Next.mk (fun _ => i () + 1) ?_ ?_ ?_)
                all_goals (try simp only [Unit.unit, Int.ofNat_lt, Int.ofNat_le, BE.val, IE.val, NE.val, ltB_iff, ltB_no, leB_iff, leB_no, Int.toNat_natCast, Nat.zero_add, Nat.mul_one, forced, beq_iff_eq, beq_eq_false_iff_ne] at *)
                all_goals (try simp only [dryTo_len, laidOn_len, List.length_set] at *)
                all_goals first | with_reducible rfl | omega | exact wrap64_nat (by omega) | (refine ⟨Int.natCast_nonneg _, ?_⟩; omega) | (rw [dryTo_get (by rw [laidOn_len, pl1]; omega), dryTo_step (by rw [laidOn_len, pl1]; omega)])
              · cbv
                repeat' first
                  | (refine Ob.mk ?_ ?_; rotate_left; cbv)
                  | (refine Next.ren [3, 5] (fun _ => k () + 1) ?_ ?_ ?_)
                all_goals (try simp only [Unit.unit, Int.ofNat_lt, Int.ofNat_le, BE.val, IE.val, NE.val, ltB_iff, ltB_no, leB_iff, leB_no, Int.toNat_natCast, Nat.zero_add, Nat.mul_one, forced, beq_iff_eq, beq_eq_false_iff_ne] at *)
                all_goals first | with_reducible rfl | omega | exact wrap64_nat (by omega) | (rw [show i ⟨⟩ = k ⟨⟩ + 1 by omega]; rfl) | rfl
          all_goals (try simp only [Unit.unit, Int.ofNat_lt, Int.ofNat_le, BE.val, IE.val, NE.val, ltB_iff, ltB_no, leB_iff, leB_no, Int.toNat_natCast, Nat.zero_add, Nat.mul_one, forced, beq_iff_eq, beq_eq_false_iff_ne] at *)
          all_goals (try simp only [List.length_set, pl1, pl2])
          all_goals first | with_reducible rfl | omega | (have h2' : 0 < k ⟨⟩ := Int.natCast_pos.1 h2; first | (rw [wrapPred h2' (by omega)]; omega) | (rw [wrap64 (by omega) (by omega)]; omega)) | grind [wrap64]
      · have h1n : k ⟨⟩ = (n ⟨⟩).toNat := (by have e : ¬ (k ⟨⟩ : Int) < n ⟨⟩ := ltB_no.1 h1; have hk' : k ⟨⟩ ≤ (n ⟨⟩).toNat := hk; omega)
        cbv
        repeat' (refine Ob.mk ?_ ?_; rotate_left; cbv)
        all_goals (try simp only [Unit.unit, Int.ofNat_lt, Int.ofNat_le, BE.val, IE.val, NE.val, ltB_iff, ltB_no, leB_iff, leB_no, Int.toNat_natCast, Nat.zero_add, Nat.mul_one, forced, beq_iff_eq, beq_eq_false_iff_ne] at *)
        all_goals first | rfl | omega | (rw [h1n])
  · cases hs
def s5 (f : Int → Nat → Nat → Nat → Nat → V) : Spec := nspec fun args H => match args, H with
  | [.c (.i .i64 (.x n)), .c (.f .f32 w), .c (.f .f32 p), .c (.f .f32 r), .c (.f .f32 t)], [] => some (f (n ()) (w ()) (p ()) (r ()) (t ()), [], [])
  | _, _ => none
def laid (n : Int) (w p r t : Nat) : Bool := inI n 0 60 && isWet w && isPart p && isRate r && isRate t
theorem fn68 : FnOk Try.prog 68 Try.f68 (bodyOf Try.f68) := ⟨Try.func68, rfl, by rfl⟩
def E68 : Env := fun g => envGetL [(64, ⟨true, (s3I fun n lo hi => vB (inI n lo hi)), none⟩), (56, ⟨true, (s1F fun a => vB (isWet a)), none⟩), (57, ⟨true, (s1F fun a => vB (isPart a)), none⟩), (60, ⟨true, (s1F fun a => vB (isRate a)), none⟩)] g
theorem E68ok : EnvOk Try.prog E68 := envOk_cons ok64 (envOk_cons ok56 (envOk_cons ok57 (envOk_cons ok60 (envOk_nil _))))
theorem ok68 : Ok Try.prog 68 (s5 fun n w p r t => vB (laid n w p r t)) := ok_of_wpa (E := E68) mixed tts E68ok fn68 fun args H v H' o hs ho => by
  try dsimp only at hs
  split at hs
  · cases hs
    refine ⟨_, HLe.refl _, ?_⟩
    cbv
    repeat' first
      | (refine Br.mk (fun h => ?_) (fun h => ?_) <;> cbv)
      | (refine Ob.mk ?_ ?_; rotate_left; cbv)
    all_goals simp_all [BE.val, IE.val, NE.val, laid]
  · cases hs
end Go.Proofs.Ytljemkijpbfcaaa.Sh
