/- The law of webs where both rows are none. No condition. -/
import Derived.Test.YteifneielgnniaaGreatDoorVg
set_option linter.unusedVariables false
set_option linter.unusedSimpArgs false
set_option linter.unusedSectionVars false
section
namespace Go.Proofs.YteifneielgnniaaGreatDoor.Sh
open Go Go.Proofs
attribute [local irreducible] webOk wds tx n3 spL tl nl textW eqW eqS webSame rwOk ln calmT runW stepsC settleC goodW
attribute [local irreducible] pkV fop floatOfInt drSt drSp drFd drN drW
set_option maxRecDepth 100000 in
set_option maxHeartbeats 16000000 in
theorem p4Td {st sp fd tm n : Nat} {l : List Nat} (hW : Web0 st sp fd tm n l) (hq : stepsC st sp fd l n tm (pkV [] 8 (0, 0)) = 0):
    wpS Tryz.prog ⟨tt, E3, 0⟩ (cutR 16 (bodyOf Tryz.f3)) (finE tt Tryz.f3.results.toList 0 (.c (.b (.l true))) []) (fr 298 [(6, .c (.f .f32 fun _ => tm)), (29, .c (.i .i64 (.x fun _ => (pkV [] 8 (0, 0))))), (31, .c (.i .i64 (.x fun _ => 0))), (32, .c (.p 2 (.l 0))), (34, .c (.p 3 (.l 0)))]) [some ⟨true, 3, .fl fun _ => l⟩, some ⟨true, 3, .fl fun _ => runW st sp fd tm n l (pkV [] 8 (0, 0)).toNat⟩, some ⟨true, 0, .lit [.f .f32 fun _ => st, .f .f32 fun _ => sp, .f .f32 fun _ => fd, .sl 1 (.l 0) (.x fun _ => n)]⟩, some ⟨true, 0, .lit [.f .f32 fun _ => st, .f .f32 fun _ => sp, .f .f32 fun _ => fd, .sl 0 (.l 0) (.x fun _ => n)]⟩] := by
  have hw := hW.calm.hok
  have hl := hW.len
  have hn8 : n ≤ 1048576 := Nat.le_trans hW.n4 (by decide)
  have hwf : 0 = 0 ∧ l.length = 3 * n ∧ n ≤ 1048576 := ⟨rfl, hl, hn8⟩
  obtain ⟨rs, hrs, hst⟩ := pk_nat (L := []) bytes_nil (k := 8) (by decide) (0, 0)
  have hst : pkV [] 8 (0, 0) = (rs : Int) := hst
  have ht := hW.calm.time
  have hcn : isCount (pkV [] 8 (0, 0)) = true := by rw [hst]; unfold isCount inI; simp only [Bool.and_eq_true, leB_iff]; omega
  have hall := steps_all (st := st) (sp := sp) (fd := fd) (l := l) (n := n) (tm := tm) hw ht hcn
  have hrs2 : (pkV [] 8 (0, 0)).toNat = rs := by rw [hst, Int.toNat_natCast]
  refine wpS_of (c := ⟨tt, E3, 0⟩) mixed tts E3ok ?_
  have hgo := hall.1 hq
  rw [hrs2] at hgo
  cbv
  refine loop_rule (α := Unit → Nat) (c := ⟨tt, E3, 0⟩) (fun i => (fr 298 [(6, .c (.f .f32 fun _ => tm)), (29, .c (.i .i64 (.x fun _ => (pkV [] 8 (0, 0))))), (31, .c (.i .i64 (.x fun _ => 0))), (32, .c (.p 2 (.l 0))), (34, .c (.p 3 (.l 0))), (35, .c (.i .i64 (.x fun _ => (i () : Int))))])) (fun i => [some ⟨true, 3, .fl fun _ => runW st sp fd tm n l (i ())⟩, some ⟨true, 3, .fl fun _ => runW st sp fd tm n l (pkV [] 8 (0, 0)).toNat⟩, some ⟨true, 0, .lit [.f .f32 fun _ => st, .f .f32 fun _ => sp, .f .f32 fun _ => fd, .sl 1 (.l 0) (.x fun _ => n)]⟩, some ⟨true, 0, .lit [.f .f32 fun _ => st, .f .f32 fun _ => sp, .f .f32 fun _ => fd, .sl 0 (.l 0) (.x fun _ => n)]⟩]) (fun i => i () ≤ rs) (fun i => rs - i ()) (fun _ => rs + 1) ?_ ?_
  · refine .mk (fun _ => 0) (Nat.zero_le _) (by dsimp only; omega) ?_
    cbv
    repeat' (refine Ob.mk ?_ ?_; rotate_left)
    all_goals first | exact rfl | exact (run_0 _ _ _ _ _ _).symm | trivial
  · intro i hi
    have hi2 : i ⟨⟩ ≤ rs := hi
    have hi3 : allI (goodW st sp fd tm n l) (i ⟨⟩) = true := allI_mono hgo hi2
    by_cases hin : i ⟨⟩ < rs
    · have hs0 : (stepsC st sp fd (runW st sp fd tm n l (i ⟨⟩)) n tm 1 == 0) = true := by rw [steps_1t (good_web hw hi3) ht (allI_at hgo hin)]; rfl
      have hj : i ⟨⟩ + 1 ≤ rs := hin
      have hlt : ltB ((i ⟨⟩ : Nat) : Int) (pkV [] 8 (0, 0)) = true := by rw [hst, ltB_iff]; omega
      have hwk := good_web (tm := tm) hw hi3
      have hrf : 0 = 0 ∧ (runW st sp fd tm n l (i ⟨⟩)).length = 3 * n ∧ n ≤ 1048576 := ⟨rfl, runW_len _ _ _ _ _ _ hl _, hn8⟩
      have hw64 : IntKind.wrap .i64 (((i ⟨⟩ : Nat) : Int) + 1) = ((i ⟨⟩ + 1 : Nat) : Int) := wrap64_nat (by omega)
      have hm : rs - (i ⟨⟩ + 1) < rs - i ⟨⟩ := by omega
      have hru : runW st sp fd tm n (runW st sp fd tm n l (i ⟨⟩)) 1 = runW st sp fd tm n l (i ⟨⟩ + 1) := run_s _ _ _ _ _ _ _
      cbv
      refine Br.t hlt ?_
      cbv
      repeat' first | (refine Ob.mk ?_ ?_; (focus (first | exact hs0 | exact hrf | exact rfl)); cbv) | (refine alt_t hs0 ?_; cbv) | (refine Br.f rfl ?_; cbv) | (refine Next.ren [4, 1, 2, 3] (fun _ => i () + 1) ?_ ?_ ?_)
      all_goals first | exact hj | exact hm | (cbv; (repeat' (refine Ob.mk ?_ ?_; (focus (first | exact rfl | exact hw64 | exact hru)))); trivial) | trace_state
    · have hik : i ⟨⟩ = rs := by omega
      have hlt : ltB ((i ⟨⟩ : Nat) : Int) (pkV [] 8 (0, 0)) = false := by rw [hst, ltB_no]; omega
      have hrf : 0 = 0 ∧ (runW st sp fd tm n l (i ⟨⟩)).length = 3 * n ∧ n ≤ 1048576 := ⟨rfl, runW_len _ _ _ _ _ _ hl _, hn8⟩
      have hrf2 : 0 = 0 ∧ (runW st sp fd tm n l (pkV [] 8 (0, 0)).toNat).length = 3 * n ∧ n ≤ 1048576 := ⟨rfl, runW_len _ _ _ _ _ _ hl _, hn8⟩
      have hfin : webSame eqW st sp fd n (runW st sp fd tm n l (i ⟨⟩)) st sp fd n (runW st sp fd tm n l (pkV [] 8 (0, 0)).toNat) = true := by rw [hrs2, hik, webSame_self]
      cbv
      refine Br.f hlt ?_
      cbv
      repeat' first | (refine Ob.mk ?_ ?_; (focus (first | exact hrf | exact hrf2 | exact hfin | exact rfl)); cbv) | (refine Br.t rfl ?_; cbv)
set_option maxRecDepth 100000 in
set_option maxHeartbeats 16000000 in
theorem p4Fd {st sp fd tm n : Nat} {l : List Nat} (hW : Web0 st sp fd tm n l) (hq : stepsC st sp fd l n tm (pkV [] 8 (0, 0)) = 4):
    wpS Tryz.prog ⟨tt, E3, 0⟩ (cutR 16 (bodyOf Tryz.f3)) (finE tt Tryz.f3.results.toList 0 (.c (.b (.l true))) []) (fr 298 [(6, .c (.f .f32 fun _ => tm)), (29, .c (.i .i64 (.x fun _ => (pkV [] 8 (0, 0))))), (31, .c (.i .i64 (.x fun _ => (stepsC st sp fd l n tm (pkV [] 8 (0, 0)))))), (34, .c (.p 1 (.l 0)))]) [some ⟨true, 3, .fl fun _ => l⟩, some ⟨true, 0, .lit [.f .f32 fun _ => st, .f .f32 fun _ => sp, .f .f32 fun _ => fd, .sl 0 (.l 0) (.x fun _ => n)]⟩] := by
  have hw := hW.calm.hok
  have hl := hW.len
  have hn8 : n ≤ 1048576 := Nat.le_trans hW.n4 (by decide)
  have hwf : 0 = 0 ∧ l.length = 3 * n ∧ n ≤ 1048576 := ⟨rfl, hl, hn8⟩
  obtain ⟨rs, hrs, hst⟩ := pk_nat (L := []) bytes_nil (k := 8) (by decide) (0, 0)
  have hst : pkV [] 8 (0, 0) = (rs : Int) := hst
  have ht := hW.calm.time
  have hcn : isCount (pkV [] 8 (0, 0)) = true := by rw [hst]; unfold isCount inI; simp only [Bool.and_eq_true, leB_iff]; omega
  have hall := steps_all (st := st) (sp := sp) (fd := fd) (l := l) (n := n) (tm := tm) hw ht hcn
  have hrs2 : (pkV [] 8 (0, 0)).toNat = rs := by rw [hst, Int.toNat_natCast]
  refine wpS_of (c := ⟨tt, E3, 0⟩) mixed tts E3ok ?_
  have hbad := hall.2 hq
  rw [hrs2] at hbad
  cbv
  refine loop_rule (α := Unit → Nat) (c := ⟨tt, E3, 0⟩) (fun i => (fr 298 [(6, .c (.f .f32 fun _ => tm)), (29, .c (.i .i64 (.x fun _ => (pkV [] 8 (0, 0))))), (31, .c (.i .i64 (.x fun _ => (stepsC st sp fd l n tm (pkV [] 8 (0, 0)))))), (34, .c (.p 1 (.l 0))), (35, .c (.i .i64 (.x fun _ => (i () : Int))))])) (fun i => [some ⟨true, 3, .fl fun _ => runW st sp fd tm n l (i ())⟩, some ⟨true, 0, .lit [.f .f32 fun _ => st, .f .f32 fun _ => sp, .f .f32 fun _ => fd, .sl 0 (.l 0) (.x fun _ => n)]⟩]) (fun i => i () ≤ rs ∧ allI (goodW st sp fd tm n l) (i ()) = true) (fun i => rs - i ()) (fun _ => rs + 1) ?_ ?_
  · refine .mk (fun _ => 0) ⟨Nat.zero_le _, rfl⟩ (by dsimp only; omega) ?_
    cbv
    repeat' (refine Ob.mk ?_ ?_; rotate_left)
    all_goals first | exact rfl | exact (run_0 _ _ _ _ _ _).symm | trivial
  · intro i hi
    have hi2 : i ⟨⟩ ≤ rs := hi.1
    have hi3 : allI (goodW st sp fd tm n l) (i ⟨⟩) = true := hi.2
    have hin : i ⟨⟩ < rs := by
      rcases Nat.lt_or_ge (i ⟨⟩) rs with h | h
      · exact h
      · have : i ⟨⟩ = rs := by omega
        rw [this, hbad] at hi3; cases hi3
    have hlt : ltB ((i ⟨⟩ : Nat) : Int) (pkV [] 8 (0, 0)) = true := by rw [hst, ltB_iff]; omega
    have hwk := good_web (tm := tm) hw hi3
    have hrf : 0 = 0 ∧ (runW st sp fd tm n l (i ⟨⟩)).length = 3 * n ∧ n ≤ 1048576 := ⟨rfl, runW_len _ _ _ _ _ _ hl _, hn8⟩
    have hw64 : IntKind.wrap .i64 (((i ⟨⟩ : Nat) : Int) + 1) = ((i ⟨⟩ + 1 : Nat) : Int) := wrap64_nat (by omega)
    have hm : rs - (i ⟨⟩ + 1) < rs - i ⟨⟩ := by omega
    have hru : runW st sp fd tm n (runW st sp fd tm n l (i ⟨⟩)) 1 = runW st sp fd tm n l (i ⟨⟩ + 1) := run_s _ _ _ _ _ _ _
    rcases bool_ft (goodW st sp fd tm n l (i ⟨⟩)) with hg | hg
    · have h4 := steps_1f hwk ht hg
      have hs0 : (stepsC st sp fd (runW st sp fd tm n l (i ⟨⟩)) n tm 1 == 0) = false := by rw [h4]; rfl
      have hn0 : (stepsC st sp fd (runW st sp fd tm n l (i ⟨⟩)) n tm 1 != 0) = true := by rw [h4]; rfl
      have hfin : ((stepsC st sp fd l n tm (pkV [] 8 (0, 0))) == stepsC st sp fd (runW st sp fd tm n l (i ⟨⟩)) n tm 1) = true := by rw [h4, hq]; rfl
      cbv
      refine Br.t hlt ?_
      cbv
      repeat' first | (refine Ob.mk ?_ ?_; (focus (first | exact hs0 | exact hrf | exact hfin | exact rfl)); cbv) | (refine alt_f hs0 ?_; cbv) | (refine Br.t hn0 ?_; cbv)
    · have hs0 : (stepsC st sp fd (runW st sp fd tm n l (i ⟨⟩)) n tm 1 == 0) = true := by rw [steps_1t hwk ht hg]; rfl
      have hj : i ⟨⟩ + 1 ≤ rs ∧ allI (goodW st sp fd tm n l) (i ⟨⟩ + 1) = true := ⟨hin, allI_snoc hi3 hg⟩
      cbv
      refine Br.t hlt ?_
      cbv
      repeat' first | (refine Ob.mk ?_ ?_; (focus (first | exact hs0 | exact hrf | exact rfl)); cbv) | (refine alt_t hs0 ?_; cbv) | (refine Br.f rfl ?_; cbv) | (refine Next.ren [2, 1] (fun _ => i () + 1) ?_ ?_ ?_)
      all_goals first | exact hj | exact hm | (cbv; (repeat' (refine Ob.mk ?_ ?_; (focus (first | exact rfl | exact hw64 | exact hru)))); trivial) | trace_state
end Go.Proofs.YteifneielgnniaaGreatDoor.Sh
end
section
namespace Go.Proofs.YteifneielgnniaaGreatDoor.Sh
open Go Go.Proofs
attribute [local irreducible] webOk wds tx n3 spL tl nl textW eqW eqS webSame rwOk ln calmT runW stepsC settleC
attribute [local irreducible] pkV fop floatOfInt drSt drSp drFd drN drW
set_option maxRecDepth 100000 in
set_option maxHeartbeats 16000000 in
theorem p3d {st sp fd tm n : Nat} {l : List Nat} (hW : Web0 st sp fd tm n l) :
    wpS Tryz.prog ⟨tt, E3, 0⟩ (cutR 10 (bodyOf Tryz.f3)) (finE tt Tryz.f3.results.toList 0 (.c (.b (.l true))) []) (fr 298 [(0, .c .sn), (1, .c .sn), (5, .c (.p 1 (.l 0))), (6, .c (.f .f32 fun _ => tm)), (11, .c (.p 3 (.l 0)))]) [some ⟨true, 3, .fl fun _ => l⟩, some ⟨true, 0, .lit [.f .f32 fun _ => st, .f .f32 fun _ => sp, .f .f32 fun _ => fd, .sl 0 (.l 0) (.x fun _ => n)]⟩, some ⟨true, 3, .fl fun _ => calmT l sp fd n⟩, some ⟨true, 0, .lit [.f .f32 fun _ => st, .f .f32 fun _ => sp, .f .f32 fun _ => fd, .sl 2 (.l 0) (.x fun _ => n)]⟩] := by
  have hw := hW.calm.hok
  have hl := hW.len
  have hn8 : n ≤ 1048576 := Nat.le_trans hW.n4 (by decide)
  have hwf : 0 = 0 ∧ l.length = 3 * n ∧ n ≤ 1048576 := ⟨rfl, hl, hn8⟩
  have hn1 := hW.n1
  have hn4 := hW.n4
  obtain ⟨rs, hrs, hst⟩ := pk_nat (L := []) bytes_nil (k := 8) (by decide) (0, 0)
  have hst : pkV [] 8 (0, 0) = (rs : Int) := hst
  have hk01 := stepsC_01 (st := st) (sp := sp) (fd := fd) (l := l) (n := n) (tm := tm) (k := (pkV [] 8 (0, 0))) hw hW.calm.time (by rw [hst]; unfold isCount inI; simp only [Bool.and_eq_true, leB_iff]; omega)
  rcases hk01 with hq | hq
  · refine wpS_cut (c := ⟨tt, E3, 0⟩) mixed tts E3ok 5 (fun _ => fr 298 [(6, .c (.f .f32 fun _ => tm)), (29, .c (.i .i64 (.x fun _ => (pkV [] 8 (0, 0))))), (31, .c (.i .i64 (.x fun _ => 0))), (32, .c (.p 2 (.l 0))), (34, .c (.p 3 (.l 0)))]) (fun _ => [some ⟨true, 3, .fl fun _ => l⟩, some ⟨true, 3, .fl fun _ => runW st sp fd tm n l (pkV [] 8 (0, 0)).toNat⟩, some ⟨true, 0, .lit [.f .f32 fun _ => st, .f .f32 fun _ => sp, .f .f32 fun _ => fd, .sl 1 (.l 0) (.x fun _ => n)]⟩, some ⟨true, 0, .lit [.f .f32 fun _ => st, .f .f32 fun _ => sp, .f .f32 fun _ => fd, .sl 0 (.l 0) (.x fun _ => n)]⟩]) (fun _ => True) (by rfl) ?_ (fun _ => by rw [cut_10_5]; exact p4Td hW hq)
    cbv
    refine loop_rule (α := Unit → Nat) (c := ⟨tt, E3, 0⟩) (fun i => (fr 298 [(0, .c .sn), (1, .c .sn), (5, .c (.p 1 (.l 0))), (6, .c (.f .f32 fun _ => tm)), (11, .c (.p 3 (.l 0))), (16, .c (.i .i64 (.x fun _ => (i () : Int))))])) (fun i => [some ⟨true, 3, .fl fun _ => l⟩, some ⟨true, 0, .lit [.f .f32 fun _ => st, .f .f32 fun _ => sp, .f .f32 fun _ => fd, .sl 0 (.l 0) (.x fun _ => n)]⟩, some ⟨true, 3, .fl fun _ => calmT l sp fd n⟩, some ⟨true, 0, .lit [.f .f32 fun _ => st, .f .f32 fun _ => sp, .f .f32 fun _ => fd, .sl 2 (.l 0) (.x fun _ => n)]⟩]) (fun i => i () ≤ n) (fun i => n - i ()) (fun _ => n + 1) ?_ ?_
    · refine .mk (fun _ => 0) (Nat.zero_le _) (by dsimp only; omega) ?_
      cbv
      repeat' (refine Ob.mk ?_ ?_; rotate_left)
      all_goals first | exact rfl | trivial
    · intro i hi
      have hi2 : i ⟨⟩ ≤ n := hi
      by_cases hin : i ⟨⟩ < n
      · have hlt : ltB ((i ⟨⟩ : Nat) : Int) ((n : Nat) : Int) = true := by rw [ltB_iff]; omega
        have hx : (0 : Int) ≤ ((i ⟨⟩ : Nat) : Int) ∧ ((i ⟨⟩ : Nat) : Int) < ((n : Nat) : Int) := ⟨by omega, by omega⟩
        have hp : 0 + ((i ⟨⟩ : Nat) : Int).toNat * 3 + 2 = i ⟨⟩ * 3 + 2 := by rw [Int.toNat_natCast]; omega
        have hy : 0 + ((i ⟨⟩ : Nat) : Int).toNat * 3 + 2 < (calmT l sp fd n).length := by rw [hp, calm_len]; omega
        have ha : (askedC (webOk st sp fd l n) ((i ⟨⟩ : Nat) : Int) n) = 0 := by rw [hw]; exact asked_in (by omega) (by omega)
        have e0 : ((askedC (webOk st sp fd l n) ((i ⟨⟩ : Nat) : Int) n) != (askedC (webOk st sp fd l n) ((i ⟨⟩ : Nat) : Int) n)) = false := bne_self_eq_false _
        have e1 : ((askedC (webOk st sp fd l n) ((i ⟨⟩ : Nat) : Int) n) != 0) = false := by rw [ha]; rfl
        have e2 : (!(eqW (if (askedC (webOk st sp fd l n) ((i ⟨⟩ : Nat) : Int) n) = 0 then pullW sp l ((i ⟨⟩ : Nat) : Int).toNat else 0) (if (askedC (webOk st sp fd l n) ((i ⟨⟩ : Nat) : Int) n) = 0 then pullW sp l ((i ⟨⟩ : Nat) : Int).toNat else 0))) = false := by rw [eqW_self]; rfl
        have e3 : (!(eqW (if (askedC (webOk st sp fd l n) ((i ⟨⟩ : Nat) : Int) n) = 0 then fop .quo .f32 (l.getD (((i ⟨⟩ : Nat) : Int).toNat * 3 + 2) 0) st else 0) (if (askedC (webOk st sp fd l n) ((i ⟨⟩ : Nat) : Int) n) = 0 then fop .quo .f32 (l.getD (((i ⟨⟩ : Nat) : Int).toNat * 3 + 2) 0) st else 0))) = false := by rw [eqW_self]; rfl
        have e4 : (!(eqW (if (askedC (webOk st sp fd l n) ((i ⟨⟩ : Nat) : Int) n) = 0 then rateW st sp fd l ((i ⟨⟩ : Nat) : Int).toNat else 0) (if (askedC (webOk st sp fd l n) ((i ⟨⟩ : Nat) : Int) n) = 0 then rateW st sp fd l ((i ⟨⟩ : Nat) : Int).toNat else 0))) = false := by rw [eqW_self]; rfl
        have e5 : fcmp .neq .f32 ((calmT l sp fd n).getD (0 + ((i ⟨⟩ : Nat) : Int).toNat * 3 + 2) 0) fd = false := by rw [hp, (calm_at l sp fd hin).2.2]; exact hW.calm.plain.2
        have hw64 : IntKind.wrap .i64 (((i ⟨⟩ : Nat) : Int) + 1) = ((i ⟨⟩ + 1 : Nat) : Int) := wrap64_nat (by omega)
        have hj : i ⟨⟩ + 1 ≤ n := hin
        have hm : n - (i ⟨⟩ + 1) < n - i ⟨⟩ := by omega
        cbv
        refine Br.t hlt ?_
        cbv
        repeat' first | (refine Ob.mk ?_ ?_; (focus (first | exact rfl | exact hwf | exact hx | exact hy)); cbv) | (refine Br.f e0 ?_; cbv) | (refine Br.f e1 ?_; cbv) | (refine Br.f e2 ?_; cbv) | (refine Br.f e3 ?_; cbv) | (refine Br.f e4 ?_; cbv) | (refine Br.f e5 ?_; cbv) | (refine Lex.mk (by decide +kernel) ?_; cbv) | (refine Next.mk (fun _ => i () + 1) ?_ ?_ ?_)
        all_goals first | exact hj | exact hm | (cbv; (repeat' (refine Ob.mk ?_ ?_; (focus (first | exact rfl | exact hw64)))); trivial) | trace_state
      · have hlt : ltB ((i ⟨⟩ : Nat) : Int) ((n : Nat) : Int) = false := by rw [ltB_no]; omega
        have hs0 : ((stepsC st sp fd l n tm (pkV [] 8 (0, 0))) == 0) = true := by rw [hq]; rfl
        have hrf : 0 = 0 ∧ (runW st sp fd tm n l (pkV [] 8 (0, 0)).toNat).length = 3 * n ∧ n ≤ 1048576 := ⟨rfl, runW_len _ _ _ _ _ _ hl _, hn8⟩
        have hsm : (!(webSame eqW st sp fd n (runW st sp fd tm n l (pkV [] 8 (0, 0)).toNat) st sp fd n (runW st sp fd tm n l (pkV [] 8 (0, 0)).toNat))) = false := by rw [webSame_self]; rfl
        cbv
        refine Br.f hlt ?_
        cbv
        repeat' first | (refine Ob.mk ?_ ?_; (focus (first | exact hs0 | exact hwf | exact hrf | exact rfl)); cbv) | (refine alt_t hs0 ?_; cbv) | (refine Br.f hsm ?_; cbv) | (refine Br.f rfl ?_; cbv)
        refine CutG.ren [0, 6, 7, 8] trivial ?_
        cbv
        repeat' (refine Ob.mk ?_ ?_; (focus (first | exact rfl)); cbv)
  · refine wpS_cut (c := ⟨tt, E3, 0⟩) mixed tts E3ok 5 (fun _ => fr 298 [(6, .c (.f .f32 fun _ => tm)), (29, .c (.i .i64 (.x fun _ => (pkV [] 8 (0, 0))))), (31, .c (.i .i64 (.x fun _ => (stepsC st sp fd l n tm (pkV [] 8 (0, 0)))))), (34, .c (.p 1 (.l 0)))]) (fun _ => [some ⟨true, 3, .fl fun _ => l⟩, some ⟨true, 0, .lit [.f .f32 fun _ => st, .f .f32 fun _ => sp, .f .f32 fun _ => fd, .sl 0 (.l 0) (.x fun _ => n)]⟩]) (fun _ => True) (by rfl) ?_ (fun _ => by rw [cut_10_5]; exact p4Fd hW hq)
    cbv
    refine loop_rule (α := Unit → Nat) (c := ⟨tt, E3, 0⟩) (fun i => (fr 298 [(0, .c .sn), (1, .c .sn), (5, .c (.p 1 (.l 0))), (6, .c (.f .f32 fun _ => tm)), (11, .c (.p 3 (.l 0))), (16, .c (.i .i64 (.x fun _ => (i () : Int))))])) (fun i => [some ⟨true, 3, .fl fun _ => l⟩, some ⟨true, 0, .lit [.f .f32 fun _ => st, .f .f32 fun _ => sp, .f .f32 fun _ => fd, .sl 0 (.l 0) (.x fun _ => n)]⟩, some ⟨true, 3, .fl fun _ => calmT l sp fd n⟩, some ⟨true, 0, .lit [.f .f32 fun _ => st, .f .f32 fun _ => sp, .f .f32 fun _ => fd, .sl 2 (.l 0) (.x fun _ => n)]⟩]) (fun i => i () ≤ n) (fun i => n - i ()) (fun _ => n + 1) ?_ ?_
    · refine .mk (fun _ => 0) (Nat.zero_le _) (by dsimp only; omega) ?_
      cbv
      repeat' (refine Ob.mk ?_ ?_; rotate_left)
      all_goals first | exact rfl | trivial
    · intro i hi
      have hi2 : i ⟨⟩ ≤ n := hi
      by_cases hin : i ⟨⟩ < n
      · have hlt : ltB ((i ⟨⟩ : Nat) : Int) ((n : Nat) : Int) = true := by rw [ltB_iff]; omega
        have hx : (0 : Int) ≤ ((i ⟨⟩ : Nat) : Int) ∧ ((i ⟨⟩ : Nat) : Int) < ((n : Nat) : Int) := ⟨by omega, by omega⟩
        have hp : 0 + ((i ⟨⟩ : Nat) : Int).toNat * 3 + 2 = i ⟨⟩ * 3 + 2 := by rw [Int.toNat_natCast]; omega
        have hy : 0 + ((i ⟨⟩ : Nat) : Int).toNat * 3 + 2 < (calmT l sp fd n).length := by rw [hp, calm_len]; omega
        have ha : (askedC (webOk st sp fd l n) ((i ⟨⟩ : Nat) : Int) n) = 0 := by rw [hw]; exact asked_in (by omega) (by omega)
        have e0 : ((askedC (webOk st sp fd l n) ((i ⟨⟩ : Nat) : Int) n) != (askedC (webOk st sp fd l n) ((i ⟨⟩ : Nat) : Int) n)) = false := bne_self_eq_false _
        have e1 : ((askedC (webOk st sp fd l n) ((i ⟨⟩ : Nat) : Int) n) != 0) = false := by rw [ha]; rfl
        have e2 : (!(eqW (if (askedC (webOk st sp fd l n) ((i ⟨⟩ : Nat) : Int) n) = 0 then pullW sp l ((i ⟨⟩ : Nat) : Int).toNat else 0) (if (askedC (webOk st sp fd l n) ((i ⟨⟩ : Nat) : Int) n) = 0 then pullW sp l ((i ⟨⟩ : Nat) : Int).toNat else 0))) = false := by rw [eqW_self]; rfl
        have e3 : (!(eqW (if (askedC (webOk st sp fd l n) ((i ⟨⟩ : Nat) : Int) n) = 0 then fop .quo .f32 (l.getD (((i ⟨⟩ : Nat) : Int).toNat * 3 + 2) 0) st else 0) (if (askedC (webOk st sp fd l n) ((i ⟨⟩ : Nat) : Int) n) = 0 then fop .quo .f32 (l.getD (((i ⟨⟩ : Nat) : Int).toNat * 3 + 2) 0) st else 0))) = false := by rw [eqW_self]; rfl
        have e4 : (!(eqW (if (askedC (webOk st sp fd l n) ((i ⟨⟩ : Nat) : Int) n) = 0 then rateW st sp fd l ((i ⟨⟩ : Nat) : Int).toNat else 0) (if (askedC (webOk st sp fd l n) ((i ⟨⟩ : Nat) : Int) n) = 0 then rateW st sp fd l ((i ⟨⟩ : Nat) : Int).toNat else 0))) = false := by rw [eqW_self]; rfl
        have e5 : fcmp .neq .f32 ((calmT l sp fd n).getD (0 + ((i ⟨⟩ : Nat) : Int).toNat * 3 + 2) 0) fd = false := by rw [hp, (calm_at l sp fd hin).2.2]; exact hW.calm.plain.2
        have hw64 : IntKind.wrap .i64 (((i ⟨⟩ : Nat) : Int) + 1) = ((i ⟨⟩ + 1 : Nat) : Int) := wrap64_nat (by omega)
        have hj : i ⟨⟩ + 1 ≤ n := hin
        have hm : n - (i ⟨⟩ + 1) < n - i ⟨⟩ := by omega
        cbv
        refine Br.t hlt ?_
        cbv
        repeat' first | (refine Ob.mk ?_ ?_; (focus (first | exact rfl | exact hwf | exact hx | exact hy)); cbv) | (refine Br.f e0 ?_; cbv) | (refine Br.f e1 ?_; cbv) | (refine Br.f e2 ?_; cbv) | (refine Br.f e3 ?_; cbv) | (refine Br.f e4 ?_; cbv) | (refine Br.f e5 ?_; cbv) | (refine Lex.mk (by decide +kernel) ?_; cbv) | (refine Next.mk (fun _ => i () + 1) ?_ ?_ ?_)
        all_goals first | exact hj | exact hm | (cbv; (repeat' (refine Ob.mk ?_ ?_; (focus (first | exact rfl | exact hw64)))); trivial) | trace_state
      · have hlt : ltB ((i ⟨⟩ : Nat) : Int) ((n : Nat) : Int) = false := by rw [ltB_no]; omega
        have hs0 : ((stepsC st sp fd l n tm (pkV [] 8 (0, 0))) == 0) = false := by rw [hq]; rfl
        have h00 : (!(eqW 0 0 && eqW 0 0 && eqW 0 0)) = false := by rw [eqW_self]; rfl
        have hk0 : ((stepsC st sp fd l n tm (pkV [] 8 (0, 0))) != 0) = true := by rw [hq]; rfl
        have hk4 : ((stepsC st sp fd l n tm (pkV [] 8 (0, 0))) != 4) = false := by rw [hq]; rfl
        have hkk : ((stepsC st sp fd l n tm (pkV [] 8 (0, 0))) != (stepsC st sp fd l n tm (pkV [] 8 (0, 0)))) = false := bne_self_eq_false _
        cbv
        refine Br.f hlt ?_
        cbv
        repeat' first | (refine Ob.mk ?_ ?_; (focus (first | exact hs0 | exact hwf | exact rfl)); cbv) | (refine alt_f hs0 ?_; cbv) | (refine Br.f hkk ?_; cbv) | (refine Br.f h00 ?_; cbv) | (refine Br.t hk0 ?_; cbv) | (refine Br.f hk4 ?_; cbv) | (refine Br.f rfl ?_; cbv)
        refine CutG.ren [0, 6] trivial ?_
        cbv
        repeat' (refine Ob.mk ?_ ?_; (focus (first | exact rfl)); cbv)
end Go.Proofs.YteifneielgnniaaGreatDoor.Sh
end
section
namespace Go.Proofs.YteifneielgnniaaGreatDoor.Sh
open Go Go.Proofs
attribute [local irreducible] webOk wds tx n3 spL tl nl textW eqW eqS webSame rwOk ln calmT runW stepsC settleC
attribute [local irreducible] pkV fop floatOfInt drSt drSp drFd drN drW
set_option maxRecDepth 100000 in
set_option maxHeartbeats 16000000 in
theorem p2d {st sp fd tm n : Nat} {l : List Nat} (hW : Web0 st sp fd tm n l) :
    wpS Tryz.prog ⟨tt, E3, 0⟩ (cutR 6 (bodyOf Tryz.f3)) (finE tt Tryz.f3.results.toList 0 (.c (.b (.l true))) []) (fr 298 [(0, .c .sn), (1, .c .sn), (5, .c (.p 1 (.l 0))), (6, .c (.f .f32 fun _ => tm)), (9, .c (.p 2 (.l 0)))]) [some ⟨true, 3, .fl fun _ => l⟩, some ⟨true, 0, .lit [.f .f32 fun _ => st, .f .f32 fun _ => sp, .f .f32 fun _ => fd, .sl 0 (.l 0) (.x fun _ => n)]⟩, some ⟨true, 0, .lit [.f .f32 fun _ => st, .f .f32 fun _ => sp, .f .f32 fun _ => fd, .sn]⟩] := by
  have hw := hW.calm.hok
  have hl := hW.len
  have hn8 : n ≤ 1048576 := Nat.le_trans hW.n4 (by decide)
  have hwf : 0 = 0 ∧ l.length = 3 * n ∧ n ≤ 1048576 := ⟨rfl, hl, hn8⟩
  have hn1 := hW.n1
  have hn4 := hW.n4
  refine wpS_cut (c := ⟨tt, E3, 0⟩) mixed tts E3ok 3 (fun _ => fr 298 [(0, .c .sn), (1, .c .sn), (5, .c (.p 1 (.l 0))), (6, .c (.f .f32 fun _ => tm)), (11, .c (.p 3 (.l 0)))]) (fun _ => [some ⟨true, 3, .fl fun _ => l⟩, some ⟨true, 0, .lit [.f .f32 fun _ => st, .f .f32 fun _ => sp, .f .f32 fun _ => fd, .sl 0 (.l 0) (.x fun _ => n)]⟩, some ⟨true, 3, .fl fun _ => calmT l sp fd n⟩, some ⟨true, 0, .lit [.f .f32 fun _ => st, .f .f32 fun _ => sp, .f .f32 fun _ => fd, .sl 2 (.l 0) (.x fun _ => n)]⟩]) (fun _ => True) (by rfl) ?_ (fun _ => by rw [cut_6_3]; exact p3d hW)
  cbv
  refine loop_rule (α := (Unit → Nat) ⊕ (Unit → Nat)) (c := ⟨tt, E3, 0⟩)
      (fun a => match a with | .inl _ => (fr 298 [(0, .c .sn), (1, .c .sn), (5, .c (.p 1 (.l 0))), (6, .c (.f .f32 fun _ => tm)), (9, .c (.p 2 (.l 0))), (10, .c (.i .i64 (.l 0)))]) | .inr i => (fr 298 [(0, .c .sn), (1, .c .sn), (5, .c (.p 1 (.l 0))), (6, .c (.f .f32 fun _ => tm)), (9, .c (.p 2 (.l 0))), (10, .c (.i .i64 (.x fun _ => (i () : Int))))]))
      (fun a => match a with | .inl _ => [some ⟨true, 3, .fl fun _ => l⟩, some ⟨true, 0, .lit [.f .f32 fun _ => st, .f .f32 fun _ => sp, .f .f32 fun _ => fd, .sl 0 (.l 0) (.x fun _ => n)]⟩, some ⟨true, 0, .lit [.f .f32 fun _ => st, .f .f32 fun _ => sp, .f .f32 fun _ => fd, .sn]⟩] | .inr i => [some ⟨true, 3, .fl fun _ => l⟩, some ⟨true, 0, .lit [.f .f32 fun _ => st, .f .f32 fun _ => sp, .f .f32 fun _ => fd, .sl 0 (.l 0) (.x fun _ => n)]⟩, some ⟨true, 0, .lit [.f .f32 fun _ => st, .f .f32 fun _ => sp, .f .f32 fun _ => fd, .sl 3 (.l 0) (.x fun _ => i ())]⟩, some ⟨true, 3, .fl fun _ => calmT l sp fd (i ())⟩])
      (fun a => match a with | .inl _ => True | .inr i => 1 ≤ i () ∧ i () ≤ n) (fun a => match a with | .inl _ => n + 1 | .inr i => n - i ()) (fun _ => n + 2) ?_ ?_
  · refine .mk (.inl fun _ => 0) trivial (by dsimp only; omega) ?_
    cbv
    repeat' (refine Ob.mk ?_ ?_; rotate_left)
    all_goals first | exact rfl | trivial
  · rintro (i | i) hi
    · have hlt : ltB 0 ((n : Nat) : Int) = true := by rw [ltB_iff]; omega
      have hx : (0 : Int) ≤ 0 ∧ (0 : Int) < ((n : Nat) : Int) := ⟨by omega, by omega⟩
      have hy : 0 + 0 * 3 + 0 < l.length := by omega
      have hj : 1 ≤ 1 ∧ 1 ≤ n := ⟨by omega, hn1⟩
      have hm : n - 1 < n + 1 := by omega
      have hc := hx
      have hln := hx
      have hb1 := hx
      have hb2 := hx
      have hb3 := hx
      have hcs : [l.getD (0 + 0 * 3 + 0) 0, sp, fd] = calmT l sp fd 1 := calm_1 _ _ _
      have hcl := hcs
      have hw := hcs
      cbv
      refine Br.t hlt ?_
      cbv
      repeat' (refine Ob.mk ?_ ?_; (focus (first | exact rfl | exact hx | exact hy | exact hc | exact hln | exact hb1 | exact hb2 | exact hb3 | exact ⟨by decide, by decide⟩)); cbv)
      refine Lex.pull [0, 2, 3, 4, 5, 6, 7, 8, 9, 10, 11, 12] (by decide +kernel) ?_
      cbv
      repeat' (refine Ob.mk ?_ ?_; (focus (first | exact rfl | exact hx | exact hy | exact hc | exact hln | exact hb1 | exact hb2 | exact hb3 | exact ⟨by decide, by decide⟩)); cbv)
      refine Both.mk ?_ ?_
      · cbv
        repeat' (refine Ob.mk ?_ ?_; (focus (first | exact rfl | exact hx | exact hy | exact hc | exact hln | exact hb1 | exact hb2 | exact hb3 | exact ⟨by decide, by decide⟩)); cbv)
        refine Next.ren [0, 1, 2, 4] (.inr fun _ => 1) ?_ ?_ ?_
        all_goals first | exact hj | exact hm | (cbv; (repeat' (refine Ob.mk ?_ ?_; (focus (first | exact rfl | exact hcs | exact hcl | exact hw)))); trivial) | trace_state
      · cbv
        repeat' (refine Ob.mk ?_ ?_; (focus (first | exact rfl | exact hx | exact hy | exact hc | exact hln | exact hb1 | exact hb2 | exact hb3 | exact ⟨by decide, by decide⟩)); cbv)
        refine Next.ren [0, 1, 2, 4] (.inr fun _ => 1) ?_ ?_ ?_
        all_goals first | exact hj | exact hm | (cbv; (repeat' (refine Ob.mk ?_ ?_; (focus (first | exact rfl | exact hcs | exact hcl | exact hw)))); trivial) | trace_state
    · have hi1 : 1 ≤ i ⟨⟩ := hi.1
      have hi2 : i ⟨⟩ ≤ n := hi.2
      by_cases hin : i ⟨⟩ < n
      · have hlt : ltB ((i ⟨⟩ : Nat) : Int) ((n : Nat) : Int) = true := by rw [ltB_iff]; omega
        have hx : (0 : Int) ≤ ((i ⟨⟩ : Nat) : Int) ∧ ((i ⟨⟩ : Nat) : Int) < ((n : Nat) : Int) := ⟨by omega, by omega⟩
        have hp : 0 + ((i ⟨⟩ : Nat) : Int).toNat * 3 + 0 = i ⟨⟩ * 3 := by rw [Int.toNat_natCast]; omega
        have hy : 0 + ((i ⟨⟩ : Nat) : Int).toNat * 3 + 0 < l.length := by rw [hp]; omega
        have hj : 1 ≤ i ⟨⟩ + 1 ∧ i ⟨⟩ + 1 ≤ n := ⟨by omega, hin⟩
        have hm : n - (i ⟨⟩ + 1) < n - i ⟨⟩ := by omega
        have hln : (calmT l sp fd (i ⟨⟩)).length = i ⟨⟩ * 3 := by rw [calm_len]; omega
        have hc := hln
        have hb1 : i ⟨⟩ + 1 ≤ 9223372036854775807 := by omega
        have hb2 : (i ⟨⟩ + 1) * 12 ≤ 140737488355328 := by omega
        have hb3 := hb1
        have hcs : (calmT l sp fd (i ⟨⟩) ++ [l.getD (0 + ((i ⟨⟩ : Nat) : Int).toNat * 3 + 0) 0, sp, fd]) = calmT l sp fd (i ⟨⟩ + 1) := by rw [hp]; exact calm_s _ _ _ _
        have hcl := hcs
        have hw : IntKind.wrap .i64 (((i ⟨⟩ : Nat) : Int) + 1) = ((i ⟨⟩ + 1 : Nat) : Int) := wrap64_nat (by omega)
        cbv
        refine Br.t hlt ?_
        cbv
        repeat' (refine Ob.mk ?_ ?_; (focus (first | exact rfl | exact hx | exact hy | exact hc | exact hln | exact hb1 | exact hb2 | exact hb3 | exact ⟨by decide, by decide⟩)); cbv)
        refine Lex.pull [0, 2, 3, 4, 5, 6, 7, 8, 9, 10, 11, 12] (by decide +kernel) ?_
        cbv
        repeat' (refine Ob.mk ?_ ?_; (focus (first | exact rfl | exact hx | exact hy | exact hc | exact hln | exact hb1 | exact hb2 | exact hb3 | exact ⟨by decide, by decide⟩)); cbv)
        refine Both.mk ?_ ?_
        · cbv
          repeat' (refine Ob.mk ?_ ?_; (focus (first | exact rfl | exact hx | exact hy | exact hc | exact hln | exact hb1 | exact hb2 | exact hb3 | exact ⟨by decide, by decide⟩)); cbv)
          refine Next.ren [0, 1, 2, 5] (.inr fun _ => i () + 1) ?_ ?_ ?_
          all_goals first | exact hj | exact hm | (cbv; (repeat' (refine Ob.mk ?_ ?_; (focus (first | exact rfl | exact hcs | exact hcl | exact hw)))); trivial) | trace_state
        · cbv
          repeat' (refine Ob.mk ?_ ?_; (focus (first | exact rfl | exact hx | exact hy | exact hc | exact hln | exact hb1 | exact hb2 | exact hb3 | exact ⟨by decide, by decide⟩)); cbv)
          refine Next.ren [0, 1, 2, 5] (.inr fun _ => i () + 1) ?_ ?_ ?_
          all_goals first | exact hj | exact hm | (cbv; (repeat' (refine Ob.mk ?_ ?_; (focus (first | exact rfl | exact hcs | exact hcl | exact hw)))); trivial) | trace_state
      · have hik : i ⟨⟩ = n := by omega
        have hlt : ltB ((i ⟨⟩ : Nat) : Int) ((n : Nat) : Int) = false := by rw [ltB_no]; omega
        have hcf : 0 = 0 ∧ (calmT l sp fd (i ⟨⟩)).length = 3 * i ⟨⟩ ∧ i ⟨⟩ ≤ 1048576 := ⟨rfl, calm_len _ _ _ _, by omega⟩
        have hs : (stepsC st sp fd (calmT l sp fd (i ⟨⟩)) (i ⟨⟩) tm 5 == 0) = true := by rw [hik, hW.calm.steps]; rfl
        have hst : ((settleC st sp fd (calmT l sp fd (i ⟨⟩)) (i ⟨⟩) tm 0 0).1 == 0) = true := by rw [hik, hW.calm.settle]; rfl
        have hs2 : ((((settleC st sp fd (calmT l sp fd (i ⟨⟩)) (i ⟨⟩) tm 0 0).2 : Nat) : Int) != 0) = false := by rw [hik, hW.calm.settle]; rfl
        have hrf : 0 = 0 ∧ (runW st sp fd tm (i ⟨⟩) (calmT l sp fd (i ⟨⟩)) (settleC st sp fd (calmT l sp fd (i ⟨⟩)) (i ⟨⟩) tm 0 0).2).length = 3 * i ⟨⟩ ∧ i ⟨⟩ ≤ 1048576 := ⟨rfl, runW_len _ _ _ _ _ _ (calm_len _ _ _ _) _, by omega⟩
        have hsm : (!(webSame eqW st sp fd (i ⟨⟩) (runW st sp fd tm (i ⟨⟩) (calmT l sp fd (i ⟨⟩)) (settleC st sp fd (calmT l sp fd (i ⟨⟩)) (i ⟨⟩) tm 0 0).2) st sp fd (i ⟨⟩) (calmT l sp fd (i ⟨⟩)))) = false := by rw [hik, hW.calm.settle, run_0, webSame_self]; rfl
        have hle : (((i ⟨⟩ : Nat) : Int) != ((i ⟨⟩ : Nat) : Int)) = false := bne_self_eq_false _
        have hru : runW st sp fd tm (i ⟨⟩) (calmT l sp fd (i ⟨⟩)) (5 : Int).toNat = calmT l sp fd n := by rw [hik]; exact hW.calm.run _
        cbv
        refine Br.f hlt ?_
        cbv
        repeat' first | (refine Ob.mk ?_ ?_; (focus (first | exact hcf | exact hs | exact hst | exact hrf | exact rfl | exact ⟨rfl, hcf.2.1, hcf.2.2⟩)); cbv) | (refine alt_t hs ?_; cbv) | (refine alt_t hst ?_; cbv) | (refine Br.f hs2 ?_; cbv) | (refine Br.f hsm ?_; cbv) | (refine Br.f hle ?_; cbv) | (refine Br.f rfl ?_; cbv)
        refine CutG.ren [0, 1, 4, 5] trivial ?_
        cbv
        repeat' (refine Ob.mk ?_ ?_; (focus (first | exact rfl | exact hik | exact hru)); cbv)
end Go.Proofs.YteifneielgnniaaGreatDoor.Sh
end
section
namespace Go.Proofs.YteifneielgnniaaGreatDoor.Sh
open Go Go.Proofs
attribute [local irreducible] webOk wds tx n3 spL tl nl textW eqW eqS webSame rwOk ln
attribute [local irreducible] pkV fop floatOfInt drSt drSp drFd drN drW
set_option maxRecDepth 100000 in
set_option maxHeartbeats 16000000 in
theorem p1d {st sp fd tm n : Nat} {l : List Nat} (hW : Web0 st sp fd tm n l) :
    wpS Tryz.prog ⟨tt, E3, 0⟩ (cutR 3 (bodyOf Tryz.f3)) (finE tt Tryz.f3.results.toList 0 (.c (.b (.l true))) []) (fr 298 [(0, .c .sn), (1, .c .sn), (5, .c (.p 1 (.l 0))), (6, .c (.f .f32 fun _ => tm))]) [some ⟨true, 3, .fl fun _ => l⟩, some ⟨true, 0, .lit [.f .f32 fun _ => st, .f .f32 fun _ => sp, .f .f32 fun _ => fd, .sl 0 (.l 0) (.x fun _ => n)]⟩] := by
  have hw := hW.calm.hok
  have hl := hW.len
  have hn8 : n ≤ 1048576 := Nat.le_trans hW.n4 (by decide)
  have hwf : 0 = 0 ∧ l.length = 3 * n ∧ n ≤ 1048576 := ⟨rfl, hl, hn8⟩
  have hr := hW.read
  have hT : (if webOk st sp fd l n = true then textW st sp fd l n else ByteArray.empty) = textW st sp fd l n := if_pos hw
  have hwt : 0 = 0 ∧ l.length = 3 * n ∧ n ≤ 1048576 ∧ (st < 4294967296 ∧ sp < 4294967296 ∧ fd < 4294967296) ∧ wordsOk l := ⟨rfl, hl, hn8, ⟨gx_lt hW.g1, gx_lt hW.g2, gx_lt hW.g3⟩, hW.words⟩
  have hrw : rwOk (if webOk st sp fd l n = true then textW st sp fd l n else ByteArray.empty) = true ∧ nl (if webOk st sp fd l n = true then textW st sp fd l n else ByteArray.empty) ≤ 5 := by rw [hT]; exact ⟨hr.1, by have := hr.2.2.2.2.2; have := hW.n4; have := hW.n1; omega⟩
  have hsz : (if webOk st sp fd l n = true then textW st sp fd l n else ByteArray.empty).size ≤ 1048576 := by rw [hT, textW_size]; have := hW.n4; omega
  have hb : 0 = 0 ∧ (spL (if webOk st sp fd l n = true then textW st sp fd l n else ByteArray.empty)).length = 3 * (nl (if webOk st sp fd l n = true then textW st sp fd l n else ByteArray.empty) - 1) ∧ nl (if webOk st sp fd l n = true then textW st sp fd l n else ByteArray.empty) - 1 ≤ 1048576 := by rw [hT, hr.2.2.2.2.1, hr.2.2.2.2.2]; exact hwf
  have e1 : (!(webSame eqW (n3 (ln (if webOk st sp fd l n = true then textW st sp fd l n else ByteArray.empty) 0) 0) (n3 (ln (if webOk st sp fd l n = true then textW st sp fd l n else ByteArray.empty) 0) 1) (n3 (ln (if webOk st sp fd l n = true then textW st sp fd l n else ByteArray.empty) 0) 2) (nl (if webOk st sp fd l n = true then textW st sp fd l n else ByteArray.empty) - 1) (spL (if webOk st sp fd l n = true then textW st sp fd l n else ByteArray.empty)) st sp fd n l)) = false := by rw [hT, hr.2.1, hr.2.2.1, hr.2.2.2.1, hr.2.2.2.2.1, hr.2.2.2.2.2, webSame_self]; rfl
  have e2 : (!(webSame eqS (n3 (ln (if webOk st sp fd l n = true then textW st sp fd l n else ByteArray.empty) 0) 0) (n3 (ln (if webOk st sp fd l n = true then textW st sp fd l n else ByteArray.empty) 0) 1) (n3 (ln (if webOk st sp fd l n = true then textW st sp fd l n else ByteArray.empty) 0) 2) (nl (if webOk st sp fd l n = true then textW st sp fd l n else ByteArray.empty) - 1) (spL (if webOk st sp fd l n = true then textW st sp fd l n else ByteArray.empty)) st sp fd n l)) = false := by rw [hT, hr.2.1, hr.2.2.1, hr.2.2.2.1, hr.2.2.2.2.1, hr.2.2.2.2.2, webSameS_self]; rfl
  have e3 : (!(webOk st sp fd l n)) = false := by rw [hw]; rfl
  refine wpS_cut (c := ⟨tt, E3, 0⟩) mixed tts E3ok 2 (fun _ => fr 298 [(0, .c .sn), (1, .c .sn), (5, .c (.p 1 (.l 0))), (6, .c (.f .f32 fun _ => tm)), (9, .c (.p 2 (.l 0)))]) (fun _ => [some ⟨true, 3, .fl fun _ => l⟩, some ⟨true, 0, .lit [.f .f32 fun _ => st, .f .f32 fun _ => sp, .f .f32 fun _ => fd, .sl 0 (.l 0) (.x fun _ => n)]⟩, some ⟨true, 0, .lit [.f .f32 fun _ => st, .f .f32 fun _ => sp, .f .f32 fun _ => fd, .sn]⟩]) (fun _ => True) (by rfl) ?_ (fun _ => by rw [cut_3_2]; exact p2d hW)
  cbv
  repeat' first | (refine Ob.mk ?_ ?_; (focus (first | exact hwt | exact hrw | exact hsz | exact hwf | exact hb | exact rfl)); cbv) | (refine Br.f e1 ?_; cbv) | (refine Br.f e2 ?_; cbv) | (refine Br.f e3 ?_; cbv) | (refine Br.f rfl ?_; cbv)
  refine CutG.ren [0, 1, 4] trivial ?_
  cbv
  repeat' (refine Ob.mk ?_ ?_; (focus (exact rfl)); cbv)
end Go.Proofs.YteifneielgnniaaGreatDoor.Sh
end
section
namespace Go.Proofs.YteifneielgnniaaGreatDoor.Sh
open Go Go.Proofs
attribute [local irreducible] pkV fop floatOfInt drSt drSp drFd drN drW
def sLaw3d : Spec := hspec fun args H => match args, H with
  | [.c .sn, .c .sn], [] => some (.c (.b (.l true)), [], [])
  | _, _ => none
set_option maxRecDepth 100000 in
set_option maxHeartbeats 16000000 in
theorem okLd : Ok Tryz.prog 3 (sLaw3d) := ok_of_wpSH (E := E3) tts fn3 fun args H v H' o hs ho => by
  split at hs
  · cases hs
    have hby := bytes_nil
    have hby' := bytes_nil
    have hW := web0 hby hby'
    refine ⟨_, HLe.refl _, wpS_cut (c := ⟨tt, E3, 0⟩) mixed tts E3ok 3 (fun _ => fr 298 [(0, .c .sn), (1, .c .sn), (5, .c (.p 1 (.l 0))), (6, .c (.f .f32 fun _ => fop .quo .f32 (floatOfInt .f32 (pkV [] 40 (0, 0))) 1115684864))]) (fun _ => [some ⟨true, 3, .fl fun _ => (drW [] (0, 0))⟩, some ⟨true, 0, .lit [.f .f32 fun _ => (drSt [] (0, 0)), .f .f32 fun _ => (drSp [] (0, 0)), .f .f32 fun _ => (drFd [] (0, 0)), .sl 0 (.l 0) (.x fun _ => (drN [] (0, 0)))]⟩]) (fun _ => True) (by rfl) ?_ (fun hP => p1d hW)⟩
    cbv
    repeat' (refine Ob.mk ?_ ?_; (focus (first | exact rfl)); cbv)
    refine CutG.mk (trivial) ?_
    cbv
    repeat' (refine Ob.mk ?_ ?_; (focus (exact rfl)); cbv)
  · cases hs
end Go.Proofs.YteifneielgnniaaGreatDoor.Sh
end
