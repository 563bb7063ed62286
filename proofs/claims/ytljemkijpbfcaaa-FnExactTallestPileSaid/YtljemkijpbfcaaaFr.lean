/- What the fastest press functions of this seat compute, each shown once. No condition. -/
import Derived.Test.YtljemkijpbfcaaaFq
set_option linter.unusedVariables false
set_option linter.unusedSimpArgs false
namespace Go.Proofs.Ytljemkijpbfcaaa.Sh
open Go Go.Proofs
def half (low high : Nat) : Nat := fop .quo .f32 (fop .add .f32 low high) 1073741824
def bis (p : Nat → Bool) : Nat → Nat → Nat → Nat
  | 0, low, _ => low
  | k + 1, low, high => if p (half low high) then bis p k (half low high) high else bis p k low (half low high)
theorem bis_go (p : Nat → Bool) {i low high : Nat} (h : i < 24) : bis p (24 - i) low high = bis p (24 - (i + 1)) (if p (half low high) then half low high else low) (if p (half low high) then high else half low high) := by
  rw [show 24 - i = 24 - (i + 1) + 1 by omega, bis]
  split <;> rfl
def dryAt (g : Nat → Nat) (w n lim : Nat) (s : Nat) : Bool := fcmp .leq .f32 (afterI g w s n) lim
def fastest (g : Nat → Nat) (w n lim : Nat) : Nat × Int :=
  if codeO g n (isWet w && isWet lim) = 0 then
    if fcmp .gtr .f32 (afterI g w 1031798784 n) lim then (0, 6)
    else if dryAt g w n lim 1149239296 then (1149239296, 0)
    else (bis (dryAt g w n lim) 24 1031798784 1149239296, 0)
  else (0, codeO g n (isWet w && isWet lim))
theorem fn50 : FnOk Try.prog 50 Try.f50 (bodyOf Try.f50) := ⟨Try.func50, rfl, by rfl⟩
def E50 : Env := fun g => envGetL [(73, ⟨true, (sSB fun g n b => vI (codeO (g ()) (n ()) (b ()))), none⟩), (56, ⟨true, (s1F fun a => vB (isWet a)), none⟩), (75, ⟨true, (sFSF fun w g n s => F (afterI (g ()) (w ()) (s ()) (n ()))), none⟩)] g
theorem E50ok : EnvOk Try.prog E50 := envOk_cons ok73 (envOk_cons ok56 (envOk_cons ok75 (envOk_nil _)))
theorem ok50 : Ok Try.prog 50 (sFSF fun w g n s => .t [F (fastest (g ()) (w ()) (n ()) (s ())).1, vI (fastest (g ()) (w ()) (n ()) (s ())).2]) := ok_of_wpa (E := E50) mixed tts E50ok fn50 fun args H v H' o hs ho => by
  split at hs
  · rename_i w o n s x
    split at hs
    · rename_i l hl
      cases hs
      obtain ⟨hlen, hbig⟩ := ho.one
      refine ⟨_, HLe.cons (BLe.fl hl) HLe.nil, ?_⟩
      cbv
      repeat' first
        | (refine Br.mk (fun h => ?_) (fun h => ?_) <;> cbv)
        | (refine Ob.mk ?_ ?_; rotate_left; cbv)
      all_goals try (first | exact ⟨hlen, hbig⟩ | (simp only [Unit.unit, Int.ofNat_lt, Int.ofNat_le, BE.val, IE.val, NE.val, ltB_iff, ltB_no, leB_iff, leB_no, Int.toNat_natCast, Nat.zero_add, Nat.mul_one, forced, beq_iff_eq, beq_eq_false_iff_ne] at *; grind [fastest, dryAt]))
      all_goals
        have hf : fastest (at2 (l ()) (o ())) (w ()) (n ()) (s ()) = (bis (dryAt (at2 (l ()) (o ())) (w ()) (n ()) (s ())) 24 1031798784 1149239296, 0) := by
          (try simp only [Unit.unit, Int.ofNat_lt, Int.ofNat_le, BE.val, IE.val, NE.val, ltB_iff, ltB_no, leB_iff, leB_no, Int.toNat_natCast, Nat.zero_add, Nat.mul_one, forced, beq_iff_eq, beq_eq_false_iff_ne] at *)
          grind [fastest, dryAt]
        refine loop_rule (α := (Unit → Nat) × (Unit → Nat) × (Unit → Nat)) (c := ⟨tt, E50, 1⟩)
          (fun a => fr 54 [(0, .c (.f .f32 w)), (1, .c (.sl 0 (.x o) (.x n))), (2, .c (.f .f32 s)), (9, .c (.f .f32 a.2.1)), (10, .c (.f .f32 a.2.2)), (11, .c (.i .i64 (.x fun _ => a.1 ())))]) (fun _ => [some ⟨false, 0, .fl l⟩])
          (fun a => a.1 () ≤ 24 ∧ bis (dryAt (at2 (l ()) (o ())) (w ()) (n ()) (s ())) 24 1031798784 1149239296 = bis (dryAt (at2 (l ()) (o ())) (w ()) (n ()) (s ())) (24 - a.1 ()) (a.2.1 ()) (a.2.2 ())) (fun a => 24 - a.1 ()) (fun _ => 25) ?_ ?_
        · refine .mk (fun _ => 0, fun _ => 1031798784, fun _ => 1149239296) ⟨Nat.zero_le _, rfl⟩ (by dsimp only; omega) ?_
          cbv
          repeat' (refine Ob.mk ?_ ?_; rotate_left)
          all_goals (try simp only [Unit.unit, Int.ofNat_lt, Int.ofNat_le, BE.val, IE.val, NE.val, ltB_iff, ltB_no, leB_iff, leB_no, Int.toNat_natCast, Nat.zero_add, Nat.mul_one, forced, beq_iff_eq, beq_eq_false_iff_ne] at *)
          all_goals first | rfl | trivial
        · rintro ⟨i, low, high⟩ ⟨k1, k2⟩
          dsimp only at k1 k2
          cbv
          repeat' first
            | (refine Br.mk (fun h => ?_) (fun h => ?_) <;> cbv)
            | (refine Ob.mk ?_ ?_; rotate_left; cbv)
            | (refine Next.mk (fun _ => i () + 1, fun _ => if dryAt (at2 (l ()) (o ())) (w ()) (n ()) (s ()) (half (low ()) (high ())) then half (low ()) (high ()) else low (), fun _ => if dryAt (at2 (l ()) (o ())) (w ()) (n ()) (s ()) (half (low ()) (high ())) then high () else half (low ()) (high ())) ?_ ?_ ?_)
          all_goals (try simp only [Unit.unit, Int.ofNat_lt, Int.ofNat_le, BE.val, IE.val, NE.val, ltB_iff, ltB_no, leB_iff, leB_no, Int.toNat_natCast, Nat.zero_add, Nat.mul_one, forced, beq_iff_eq, beq_eq_false_iff_ne] at *)
          all_goals first | rfl | exact ⟨hlen, hbig⟩ | omega | exact wrap64_nat (by omega) | grind [bis_go, dryAt, half, bis] | (have e : i ⟨⟩ = 24 := (by grind); rw [hf]; dsimp only; rw [k2, e]; rfl)
    · cases hs
  · cases hs
theorem fn51 : FnOk Try.prog 51 Try.f51 (bodyOf Try.f51) := ⟨Try.func51, rfl, by rfl⟩
def E51 : Env := fun g => envGetL [(76, ⟨true, (sSB fun g n b => vI (codeO (g ()) (n ()) (b ()))), none⟩), (54, ⟨true, (s1F fun a => vB (isWet a)), none⟩), (78, ⟨true, (sFSF fun w g n s => F (afterI (g ()) (w ()) (s ()) (n ()))), none⟩)] g
theorem E51ok : EnvOk Try.prog E51 := envOk_cons ok76 (envOk_cons ok54 (envOk_cons ok78 (envOk_nil _)))
theorem ok51 : Ok Try.prog 51 (sFSF fun w g n s => .t [F (fastest (g ()) (w ()) (n ()) (s ())).1, vI (fastest (g ()) (w ()) (n ()) (s ())).2]) := ok_of_wpa (E := E51) mixed tts E51ok fn51 fun args H v H' o hs ho => by
  split at hs
  · rename_i w o n s x
    split at hs
    · rename_i l hl
      cases hs
      obtain ⟨hlen, hbig⟩ := ho.one
      refine ⟨_, HLe.cons (BLe.fl hl) HLe.nil, ?_⟩
      cbv
      repeat' first
        | (refine Br.mk (fun h => ?_) (fun h => ?_) <;> cbv)
        | (refine Ob.mk ?_ ?_; rotate_left; cbv)
      all_goals try (first | exact ⟨hlen, hbig⟩ | (simp only [Unit.unit, Int.ofNat_lt, Int.ofNat_le, BE.val, IE.val, NE.val, ltB_iff, ltB_no, leB_iff, leB_no, Int.toNat_natCast, Nat.zero_add, Nat.mul_one, forced, beq_iff_eq, beq_eq_false_iff_ne] at *; grind [fastest, dryAt]))
      all_goals
        have hf : fastest (at2 (l ()) (o ())) (w ()) (n ()) (s ()) = (bis (dryAt (at2 (l ()) (o ())) (w ()) (n ()) (s ())) 24 1031798784 1149239296, 0) := by
          (try simp only [Unit.unit, Int.ofNat_lt, Int.ofNat_le, BE.val, IE.val, NE.val, ltB_iff, ltB_no, leB_iff, leB_no, Int.toNat_natCast, Nat.zero_add, Nat.mul_one, forced, beq_iff_eq, beq_eq_false_iff_ne] at *)
          grind [fastest, dryAt]
        refine loop_rule (α := (Unit → Nat) × (Unit → Nat) × (Unit → Nat)) (c := ⟨tt, E51, 1⟩)
          (fun a => fr 54 [(0, .c (.f .f32 w)), (1, .c (.sl 0 (.x o) (.x n))), (2, .c (.f .f32 s)), (9, .c (.f .f32 a.2.1)), (10, .c (.f .f32 a.2.2)), (38, .c (.i .i64 (.x fun _ => a.1 ())))]) (fun _ => [some ⟨false, 0, .fl l⟩])
          (fun a => a.1 () ≤ 24 ∧ bis (dryAt (at2 (l ()) (o ())) (w ()) (n ()) (s ())) 24 1031798784 1149239296 = bis (dryAt (at2 (l ()) (o ())) (w ()) (n ()) (s ())) (24 - a.1 ()) (a.2.1 ()) (a.2.2 ())) (fun a => 24 - a.1 ()) (fun _ => 25) ?_ ?_
        · refine .mk (fun _ => 0, fun _ => 1031798784, fun _ => 1149239296) ⟨Nat.zero_le _, rfl⟩ (by dsimp only; omega) ?_
          cbv
          repeat' (refine Ob.mk ?_ ?_; rotate_left)
          all_goals (try simp only [Unit.unit, Int.ofNat_lt, Int.ofNat_le, BE.val, IE.val, NE.val, ltB_iff, ltB_no, leB_iff, leB_no, Int.toNat_natCast, Nat.zero_add, Nat.mul_one, forced, beq_iff_eq, beq_eq_false_iff_ne] at *)
          all_goals first | rfl | trivial
        · rintro ⟨i, low, high⟩ ⟨k1, k2⟩
          dsimp only at k1 k2
          cbv
          repeat' first
            | (refine Br.mk (fun h => ?_) (fun h => ?_) <;> cbv)
            | (refine Ob.mk ?_ ?_; rotate_left; cbv)
            | (refine Next.mk (fun _ => i () + 1, fun _ => if dryAt (at2 (l ()) (o ())) (w ()) (n ()) (s ()) (half (low ()) (high ())) then half (low ()) (high ()) else low (), fun _ => if dryAt (at2 (l ()) (o ())) (w ()) (n ()) (s ()) (half (low ()) (high ())) then high () else half (low ()) (high ())) ?_ ?_ ?_)
          all_goals (try simp only [Unit.unit, Int.ofNat_lt, Int.ofNat_le, BE.val, IE.val, NE.val, ltB_iff, ltB_no, leB_iff, leB_no, Int.toNat_natCast, Nat.zero_add, Nat.mul_one, forced, beq_iff_eq, beq_eq_false_iff_ne] at *)
          all_goals first | rfl | exact ⟨hlen, hbig⟩ | omega | exact wrap64_nat (by omega) | grind [bis_go, dryAt, half, bis] | (have e : i ⟨⟩ = 24 := (by grind); rw [hf]; dsimp only; rw [k2, e]; rfl)
    · cases hs
  · cases hs
theorem fn15 : FnOk Try.prog 15 Try.f15 (bodyOf Try.f15) := ⟨Try.func15, rfl, by rfl⟩
def E15 : Env := fun g => envGetL [(45, ⟨true, s45, none⟩), (47, ⟨true, s47, none⟩), (50, ⟨true, (sFSF fun w g n s => .t [F (fastest (g ()) (w ()) (n ()) (s ())).1, vI (fastest (g ()) (w ()) (n ()) (s ())).2]), none⟩), (51, ⟨true, (sFSF fun w g n s => .t [F (fastest (g ()) (w ()) (n ()) (s ())).1, vI (fastest (g ()) (w ()) (n ()) (s ())).2]), none⟩), (24, ⟨true, (s2D fun a b => vB (sameF a b)), none⟩), (49, ⟨true, s49, none⟩)] g
theorem E15ok : EnvOk Try.prog E15 := envOk_cons ok45 (envOk_cons ok47 (envOk_cons ok50 (envOk_cons ok51 (envOk_cons ok24 (envOk_cons ok49 (envOk_nil _))))))
theorem ok15 : Ok Try.prog 15 (sLawFSF) := ok_of_wpa (E := E15) mixed tts E15ok fn15 fun args H v H' o hs ho => by
  split at hs
  · rename_i w o n s x
    split at hs
    · rename_i l hl
      cases hs
      obtain ⟨hlen, hbig⟩ := ho.one
      refine ⟨_, HLe.cons (BLe.fl hl) HLe.nil, ?_⟩
      cbv
      repeat' first
        | (refine Br.mk (fun h => ?_) (fun h => ?_) <;> cbv)
        | (refine Ob.mk ?_ ?_; rotate_left; cbv)
      all_goals (try simp only [Unit.unit, Int.ofNat_lt, Int.ofNat_le, BE.val, IE.val, NE.val, ltB_iff, ltB_no, leB_iff, leB_no, Int.toNat_natCast, Nat.zero_add, Nat.mul_one, forced, beq_iff_eq, beq_eq_false_iff_ne] at *)
      all_goals (try simp only [mk2_len, same_all, sameF_refl] at *)
      all_goals (first | omega | (simp_all [same_all, sameF_refl, cv]; done) | grind [same_all, sameF_refl])
    · cases hs
  · cases hs
    refine ⟨_, HLe.nil, ?_⟩
    cbv
    repeat' first
      | (refine Br.mk (fun h => ?_) (fun h => ?_) <;> cbv)
      | (refine Ob.mk ?_ ?_; rotate_left; cbv)
    all_goals (try simp only [Unit.unit, Int.ofNat_lt, Int.ofNat_le, BE.val, IE.val, NE.val, ltB_iff, ltB_no, leB_iff, leB_no, Int.toNat_natCast, Nat.zero_add, Nat.mul_one, forced, beq_iff_eq, beq_eq_false_iff_ne] at *)
    all_goals (first | omega | (simp_all [same_all, sameF_refl, cv]; done) | grind [same_all, sameF_refl])
  · cases hs
end Go.Proofs.Ytljemkijpbfcaaa.Sh
