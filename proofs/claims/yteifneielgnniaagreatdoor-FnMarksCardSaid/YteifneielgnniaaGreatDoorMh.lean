/- The law of marks: its loops. No condition. -/
import Derived.Test.YteifneielgnniaaGreatDoorMg
set_option linter.unusedVariables false
set_option linter.unusedSimpArgs false
set_option linter.unusedSectionVars false
section
namespace Go.Proofs.YteifneielgnniaaGreatDoor.Sh
namespace Rg
open Go Go.Proofs
attribute [local irreducible] okS outR grS meanO offM sizeM sameM sameMS sameShS eqW eqS mkT mkX mkY mkC
set_option maxRecDepth 100000 in
set_option maxHeartbeats 16000000 in
theorem p4B0 {l : List M} {w : Nat} (hl : l.length = 16) (hok : okS l = true) :
    wpS Tryz.prog ⟨tt, E4, 0⟩ (cutR 11 (bodyOf Tryz.f4)) (finE tt Tryz.f4.results.toList 0 (.c (.b (.l true))) []) (fr 300 [(11, .c (.p 0 (.l 0))), (12, F w), (15, .c (.sl 1 (.l 0) (.x fun _ => (outR l w 4).length)))]) [some ⟨true, 0, .cx fun _ => l⟩, some ⟨true, 1, .it .i64 fun _ => outR l w 4⟩] := by
  have hE : forced [fun _ => (((l).getD 0 (0, 0)).1, ((l).getD 0 (0, 0)).2), fun _ => (((l).getD 1 (0, 0)).1, ((l).getD 1 (0, 0)).2), fun _ => (((l).getD 2 (0, 0)).1, ((l).getD 2 (0, 0)).2), fun _ => (((l).getD 3 (0, 0)).1, ((l).getD 3 (0, 0)).2), fun _ => (((l).getD 4 (0, 0)).1, ((l).getD 4 (0, 0)).2), fun _ => (((l).getD 5 (0, 0)).1, ((l).getD 5 (0, 0)).2), fun _ => (((l).getD 6 (0, 0)).1, ((l).getD 6 (0, 0)).2), fun _ => (((l).getD 7 (0, 0)).1, ((l).getD 7 (0, 0)).2), fun _ => (((l).getD 8 (0, 0)).1, ((l).getD 8 (0, 0)).2), fun _ => (((l).getD 9 (0, 0)).1, ((l).getD 9 (0, 0)).2), fun _ => (((l).getD 10 (0, 0)).1, ((l).getD 10 (0, 0)).2), fun _ => (((l).getD 11 (0, 0)).1, ((l).getD 11 (0, 0)).2), fun _ => (((l).getD 12 (0, 0)).1, ((l).getD 12 (0, 0)).2), fun _ => (((l).getD 13 (0, 0)).1, ((l).getD 13 (0, 0)).2), fun _ => (((l).getD 14 (0, 0)).1, ((l).getD 14 (0, 0)).2), fun _ => (((l).getD 15 (0, 0)).1, ((l).getD 15 (0, 0)).2)] = l := eta16 hl
  have hkE : okS (forced [fun _ => (((l).getD 0 (0, 0)).1, ((l).getD 0 (0, 0)).2), fun _ => (((l).getD 1 (0, 0)).1, ((l).getD 1 (0, 0)).2), fun _ => (((l).getD 2 (0, 0)).1, ((l).getD 2 (0, 0)).2), fun _ => (((l).getD 3 (0, 0)).1, ((l).getD 3 (0, 0)).2), fun _ => (((l).getD 4 (0, 0)).1, ((l).getD 4 (0, 0)).2), fun _ => (((l).getD 5 (0, 0)).1, ((l).getD 5 (0, 0)).2), fun _ => (((l).getD 6 (0, 0)).1, ((l).getD 6 (0, 0)).2), fun _ => (((l).getD 7 (0, 0)).1, ((l).getD 7 (0, 0)).2), fun _ => (((l).getD 8 (0, 0)).1, ((l).getD 8 (0, 0)).2), fun _ => (((l).getD 9 (0, 0)).1, ((l).getD 9 (0, 0)).2), fun _ => (((l).getD 10 (0, 0)).1, ((l).getD 10 (0, 0)).2), fun _ => (((l).getD 11 (0, 0)).1, ((l).getD 11 (0, 0)).2), fun _ => (((l).getD 12 (0, 0)).1, ((l).getD 12 (0, 0)).2), fun _ => (((l).getD 13 (0, 0)).1, ((l).getD 13 (0, 0)).2), fun _ => (((l).getD 14 (0, 0)).1, ((l).getD 14 (0, 0)).2), fun _ => (((l).getD 15 (0, 0)).1, ((l).getD 15 (0, 0)).2)]) = true := by rw [hE]; exact hok
  have hol := out_len l w 4
  have hob : 0 + (outR l w 4).length ≤ (outR l w 4).length ∧ (outR l w 4).length ≤ 1048576 := ⟨by omega, by omega⟩
  refine wpS_of (c := ⟨tt, E4, 0⟩) mixed tts E4ok ?_
  cbv
  refine loop_rule (α := Unit → Nat) (c := ⟨tt, E4, 0⟩) (fun c => fr 300 [(11, .c (.p 0 (.l 0))), (12, F w), (15, .c (.sl 1 (.l 0) (.x fun _ => (outR l w 4).length))), (17, .c (.i .i64 (.x fun _ => (c () : Int))))]) (fun c => [some ⟨true, 0, .cx fun _ => l⟩, some ⟨true, 1, .it .i64 fun _ => outR l w 4⟩]) (fun c => c () ≤ 4) (fun c => 4 - c ()) (fun _ => 5) ?_ ?_
  · refine .mk (fun _ => 0) (Nat.zero_le _) (by dsimp only; omega) ?_
    cbv
    repeat' (refine Ob.mk ?_ ?_; rotate_left)
    all_goals first | exact rfl | trivial
  · intro c hc
    have hc4 : c ⟨⟩ ≤ 4 := hc
    by_cases hin : c ⟨⟩ < 4
    · have hlt : ltB ((c ⟨⟩ : Nat) : Int) 4 = true := by rw [ltB_iff]; omega
      have hci : 0 ≤ ((c ⟨⟩ : Nat) : Int) ∧ ((c ⟨⟩ : Nat) : Int) ≤ 3 := ⟨by omega, by omega⟩
      have hci4 : (0 : Int) ≤ ((c ⟨⟩ : Nat) : Int) ∧ ((c ⟨⟩ : Nat) : Int) < ((4 : Nat) : Int) := ⟨by omega, by omega⟩
      have hcw : IntKind.wrap .i64 (((c ⟨⟩ : Nat) : Int) + 1) = ((c ⟨⟩ + 1 : Nat) : Int) := wrap64_nat (by omega)
      have hcj : c ⟨⟩ + 1 ≤ 4 := hin
      have hcm : 4 - (c ⟨⟩ + 1) < 4 - c ⟨⟩ := by omega
      have hh : ((!Go.Proofs.YteifneielgnniaaGreatDoor.Sh.allI (hasI 0 (outR l w 4) ((c ⟨⟩ : Nat) : Int)) (outR l w 4).length) != fcmp .gtr .f32 (grS l (c ⟨⟩) 3).2 w) = false := by rw [has_out hin]; exact bne_self_eq_false _
      cbv
      refine Br.t hlt ?_
      cbv
      repeat' (refine Ob.mk ?_ ?_; (focus (first | exact lt16 hl (by decide) | with_reducible rfl | exact ⟨rfl, hkE, hci⟩ | exact rfl)); cbv)
      dsimp only [IE.val, NE.val, BE.val]
      simp only [hE, Int.toNat_natCast]
      repeat' first | (refine Br.f (ne_ffI rfl) ?_; cbv) | (refine Br.f (ntf (sameM_self _)) ?_; cbv) | (refine Br.f (ntf (eqW_self' _)) ?_; cbv) | (refine Ob.mk ?_ ?_; (focus (first | with_reducible rfl | exact hob | exact rfl)); cbv)
      refine Br.f hh ?_
      cbv
      rcases Nat.eq_zero_or_pos (c ⟨⟩) with hz | hz
      · have z1 : (((c ⟨⟩ : Nat) : Int) == 0) = true := by rw [hz]; rfl
        have z2 : (!(fcmp .eql .f32 (meanO l (c ⟨⟩)).1 0 && fcmp .eql .f32 (meanO l (c ⟨⟩)).2 0)) = false := by rw [hz, mean_zero hok]; decide +kernel
        have z3 : fcmp .neq .f32 (grS l (c ⟨⟩) 3).2 0 = false := by rw [hz, great_zero hok]; decide +kernel
        refine Br.t z1 ?_
        cbv
        refine Br.f z2 ?_
        cbv
        refine Br.f z3 ?_
        cbv
        refine loop_rule (α := Unit → Nat) (c := ⟨tt, E4, 0⟩) (fun k => fr 300 [(11, .c (.p 0 (.l 0))), (12, F w), (15, .c (.sl 1 (.l 0) (.x fun _ => (outR l w 4).length))), (17, .c (.i .i64 (.x fun _ => (c () : Int)))), (25, .c (.i .i64 (.x fun _ => (((grS l (c ()) 3).1 : Nat) : Int)))), (26, .c (.f .f32 fun _ => (grS l (c ()) 3).2)), (28, .c (.i .i64 (.x fun _ => (k () : Int))))]) (fun k => [some ⟨true, 0, .cx fun _ => l⟩, some ⟨true, 1, .it .i64 fun _ => outR l w 4⟩]) (fun k => k () ≤ 4) (fun k => 4 - k ()) (fun _ => 5) ?_ ?_
        · refine .mk (fun _ => 0) (Nat.zero_le _) (by dsimp only; omega) ?_
          cbv
          repeat' (refine Ob.mk ?_ ?_; rotate_left)
          all_goals first | exact rfl | trivial
        · intro k hk
          have hk4 : k ⟨⟩ ≤ 4 := hk
          by_cases hkn : k ⟨⟩ < 4
          · have hlk : ltB ((k ⟨⟩ : Nat) : Int) 4 = true := by rw [ltB_iff]; omega
            have hki : 0 ≤ ((c ⟨⟩ : Nat) : Int) ∧ ((c ⟨⟩ : Nat) : Int) ≤ 3 ∧ 0 ≤ ((k ⟨⟩ : Nat) : Int) ∧ ((k ⟨⟩ : Nat) : Int) ≤ 3 := ⟨by omega, by omega, by omega, by omega⟩
            have hki4 : (0 : Int) ≤ ((k ⟨⟩ : Nat) : Int) ∧ ((k ⟨⟩ : Nat) : Int) < ((4 : Nat) : Int) := ⟨by omega, by omega⟩
            have hkw : IntKind.wrap .i64 (((k ⟨⟩ : Nat) : Int) + 1) = ((k ⟨⟩ + 1 : Nat) : Int) := wrap64_nat (by omega)
            have hkj : k ⟨⟩ + 1 ≤ 4 := hkn
            have hkm : 4 - (k ⟨⟩ + 1) < 4 - k ⟨⟩ := by omega
            obtain ⟨g1, g2, g3⟩ := great_facts hok hin hkn
            cbv
            refine Br.t hlk ?_
            cbv
            repeat' (refine Ob.mk ?_ ?_; (focus (first | exact lt16 hl (by decide) | with_reducible rfl | exact ⟨rfl, hkE, hki⟩ | exact rfl)); cbv)
            dsimp only [IE.val, NE.val, BE.val]
            simp only [hE, Int.toNat_natCast]
            refine Lex.mk (by decide +kernel) ?_
            cbv
            repeat' first | (refine Br.f (ne_ffI rfl) ?_; cbv) | (refine Ob.mk ?_ ?_; (focus (first | exact hci4 | exact hki4 | exact lt16 hl (by decide) | with_reducible rfl | exact rfl | (dsimp only [IE.val, NE.val]; simp only [Int.toNat_natCast, hl]; omega))); cbv)
            dsimp only [IE.val, NE.val, BE.val]
            simp only [Int.toNat_natCast, Nat.zero_add, Nat.mul_one]
            refine Br.f (off_same _ _ _) ?_
            cbv
            repeat' (refine Ob.mk ?_ ?_; (focus (exact rfl)); cbv)
            refine Br.f g1 ?_
            cbv
            rcases Nat.lt_trichotomy (k ⟨⟩) (grS l (c ⟨⟩) 3).1 with h | h | h
            · have l1 : ltB ((k ⟨⟩ : Nat) : Int) (((grS l (c ⟨⟩) 3).1 : Nat) : Int) = true := by rw [ltB_iff]; omega
              have e1 : (((k ⟨⟩ : Nat) : Int) == (((grS l (c ⟨⟩) 3).1 : Nat) : Int)) = false := by rw [beq_eq_false_iff_ne]; omega
              refine Br.t l1 ?_
              cbv
              refine Br.f (g2 h) ?_
              cbv
              refine Br.f e1 ?_
              cbv
              refine Next.mk (fun _ => k () + 1) ?_ ?_ ?_
              all_goals first | exact hkj | exact hkm | (cbv; (repeat' (refine Ob.mk ?_ ?_; (focus (first | exact rfl | exact hkw)))); trivial) | trace_state
            · have l1 : ltB ((k ⟨⟩ : Nat) : Int) (((grS l (c ⟨⟩) 3).1 : Nat) : Int) = false := by rw [ltB_no]; omega
              have e1 : (((k ⟨⟩ : Nat) : Int) == (((grS l (c ⟨⟩) 3).1 : Nat) : Int)) = true := by rw [beq_iff_eq]; omega
              refine Br.f l1 ?_
              cbv
              refine Br.t e1 ?_
              cbv
              refine Br.f (g3 h) ?_
              cbv
              refine Next.mk (fun _ => k () + 1) ?_ ?_ ?_
              all_goals first | exact hkj | exact hkm | (cbv; (repeat' (refine Ob.mk ?_ ?_; (focus (first | exact rfl | exact hkw)))); trivial) | trace_state
            · have l1 : ltB ((k ⟨⟩ : Nat) : Int) (((grS l (c ⟨⟩) 3).1 : Nat) : Int) = false := by rw [ltB_no]; omega
              have e1 : (((k ⟨⟩ : Nat) : Int) == (((grS l (c ⟨⟩) 3).1 : Nat) : Int)) = false := by rw [beq_eq_false_iff_ne]; omega
              refine Br.f l1 ?_
              cbv
              refine Br.f e1 ?_
              cbv
              refine Next.mk (fun _ => k () + 1) ?_ ?_ ?_
              all_goals first | exact hkj | exact hkm | (cbv; (repeat' (refine Ob.mk ?_ ?_; (focus (first | exact rfl | exact hkw)))); trivial) | trace_state
          · have hkk : k ⟨⟩ = 4 := by omega
            have hlk : ltB ((k ⟨⟩ : Nat) : Int) 4 = false := by rw [ltB_no]; omega
            cbv
            refine Br.f hlk ?_
            cbv
            refine Next.mk (fun _ => c () + 1) ?_ ?_ ?_
            all_goals first | exact hcj | exact hcm | (cbv; (repeat' (refine Ob.mk ?_ ?_; (focus (first | exact rfl | exact hcw)))); trivial) | trace_state
      · have z1 : (((c ⟨⟩ : Nat) : Int) == 0) = false := by rw [beq_eq_false_iff_ne]; omega
        refine Br.f z1 ?_
        cbv
        refine loop_rule (α := Unit → Nat) (c := ⟨tt, E4, 0⟩) (fun k => fr 300 [(11, .c (.p 0 (.l 0))), (12, F w), (15, .c (.sl 1 (.l 0) (.x fun _ => (outR l w 4).length))), (17, .c (.i .i64 (.x fun _ => (c () : Int)))), (25, .c (.i .i64 (.x fun _ => (((grS l (c ()) 3).1 : Nat) : Int)))), (26, .c (.f .f32 fun _ => (grS l (c ()) 3).2)), (28, .c (.i .i64 (.x fun _ => (k () : Int))))]) (fun k => [some ⟨true, 0, .cx fun _ => l⟩, some ⟨true, 1, .it .i64 fun _ => outR l w 4⟩]) (fun k => k () ≤ 4) (fun k => 4 - k ()) (fun _ => 5) ?_ ?_
        · refine .mk (fun _ => 0) (Nat.zero_le _) (by dsimp only; omega) ?_
          cbv
          repeat' (refine Ob.mk ?_ ?_; rotate_left)
          all_goals first | exact rfl | trivial
        · intro k hk
          have hk4 : k ⟨⟩ ≤ 4 := hk
          by_cases hkn : k ⟨⟩ < 4
          · have hlk : ltB ((k ⟨⟩ : Nat) : Int) 4 = true := by rw [ltB_iff]; omega
            have hki : 0 ≤ ((c ⟨⟩ : Nat) : Int) ∧ ((c ⟨⟩ : Nat) : Int) ≤ 3 ∧ 0 ≤ ((k ⟨⟩ : Nat) : Int) ∧ ((k ⟨⟩ : Nat) : Int) ≤ 3 := ⟨by omega, by omega, by omega, by omega⟩
            have hki4 : (0 : Int) ≤ ((k ⟨⟩ : Nat) : Int) ∧ ((k ⟨⟩ : Nat) : Int) < ((4 : Nat) : Int) := ⟨by omega, by omega⟩
            have hkw : IntKind.wrap .i64 (((k ⟨⟩ : Nat) : Int) + 1) = ((k ⟨⟩ + 1 : Nat) : Int) := wrap64_nat (by omega)
            have hkj : k ⟨⟩ + 1 ≤ 4 := hkn
            have hkm : 4 - (k ⟨⟩ + 1) < 4 - k ⟨⟩ := by omega
            obtain ⟨g1, g2, g3⟩ := great_facts hok hin hkn
            cbv
            refine Br.t hlk ?_
            cbv
            repeat' (refine Ob.mk ?_ ?_; (focus (first | exact lt16 hl (by decide) | with_reducible rfl | exact ⟨rfl, hkE, hki⟩ | exact rfl)); cbv)
            dsimp only [IE.val, NE.val, BE.val]
            simp only [hE, Int.toNat_natCast]
            refine Lex.mk (by decide +kernel) ?_
            cbv
            repeat' first | (refine Br.f (ne_ffI rfl) ?_; cbv) | (refine Ob.mk ?_ ?_; (focus (first | exact hci4 | exact hki4 | exact lt16 hl (by decide) | with_reducible rfl | exact rfl | (dsimp only [IE.val, NE.val]; simp only [Int.toNat_natCast, hl]; omega))); cbv)
            dsimp only [IE.val, NE.val, BE.val]
            simp only [Int.toNat_natCast, Nat.zero_add, Nat.mul_one]
            refine Br.f (off_same _ _ _) ?_
            cbv
            repeat' (refine Ob.mk ?_ ?_; (focus (exact rfl)); cbv)
            refine Br.f g1 ?_
            cbv
            rcases Nat.lt_trichotomy (k ⟨⟩) (grS l (c ⟨⟩) 3).1 with h | h | h
            · have l1 : ltB ((k ⟨⟩ : Nat) : Int) (((grS l (c ⟨⟩) 3).1 : Nat) : Int) = true := by rw [ltB_iff]; omega
              have e1 : (((k ⟨⟩ : Nat) : Int) == (((grS l (c ⟨⟩) 3).1 : Nat) : Int)) = false := by rw [beq_eq_false_iff_ne]; omega
              refine Br.t l1 ?_
              cbv
              refine Br.f (g2 h) ?_
              cbv
              refine Br.f e1 ?_
              cbv
              refine Next.mk (fun _ => k () + 1) ?_ ?_ ?_
              all_goals first | exact hkj | exact hkm | (cbv; (repeat' (refine Ob.mk ?_ ?_; (focus (first | exact rfl | exact hkw)))); trivial) | trace_state
            · have l1 : ltB ((k ⟨⟩ : Nat) : Int) (((grS l (c ⟨⟩) 3).1 : Nat) : Int) = false := by rw [ltB_no]; omega
              have e1 : (((k ⟨⟩ : Nat) : Int) == (((grS l (c ⟨⟩) 3).1 : Nat) : Int)) = true := by rw [beq_iff_eq]; omega
              refine Br.f l1 ?_
              cbv
              refine Br.t e1 ?_
              cbv
              refine Br.f (g3 h) ?_
              cbv
              refine Next.mk (fun _ => k () + 1) ?_ ?_ ?_
              all_goals first | exact hkj | exact hkm | (cbv; (repeat' (refine Ob.mk ?_ ?_; (focus (first | exact rfl | exact hkw)))); trivial) | trace_state
            · have l1 : ltB ((k ⟨⟩ : Nat) : Int) (((grS l (c ⟨⟩) 3).1 : Nat) : Int) = false := by rw [ltB_no]; omega
              have e1 : (((k ⟨⟩ : Nat) : Int) == (((grS l (c ⟨⟩) 3).1 : Nat) : Int)) = false := by rw [beq_eq_false_iff_ne]; omega
              refine Br.f l1 ?_
              cbv
              refine Br.f e1 ?_
              cbv
              refine Next.mk (fun _ => k () + 1) ?_ ?_ ?_
              all_goals first | exact hkj | exact hkm | (cbv; (repeat' (refine Ob.mk ?_ ?_; (focus (first | exact rfl | exact hkw)))); trivial) | trace_state
          · have hkk : k ⟨⟩ = 4 := by omega
            have hlk : ltB ((k ⟨⟩ : Nat) : Int) 4 = false := by rw [ltB_no]; omega
            cbv
            refine Br.f hlk ?_
            cbv
            refine Next.mk (fun _ => c () + 1) ?_ ?_ ?_
            all_goals first | exact hcj | exact hcm | (cbv; (repeat' (refine Ob.mk ?_ ?_; (focus (first | exact rfl | exact hcw)))); trivial) | trace_state
    · have hik : c ⟨⟩ = 4 := by omega
      have hlt : ltB ((c ⟨⟩ : Nat) : Int) 4 = false := by rw [ltB_no]; omega
      cbv
      refine Br.f hlt ?_
      cbv
      repeat' (refine Ob.mk ?_ ?_; (focus (exact rfl)); cbv)
end Rg
end Go.Proofs.YteifneielgnniaaGreatDoor.Sh
end
section
namespace Go.Proofs.YteifneielgnniaaGreatDoor.Sh
namespace Rg
open Go Go.Proofs
attribute [local irreducible] okS outR grS meanO offM sizeM sameM sameMS sameShS eqW eqS mkT mkX mkY mkC
set_option maxRecDepth 100000 in
set_option maxHeartbeats 16000000 in
theorem p3B0 {l : List M} {w : Nat} (hl : l.length = 16) (hok : okS l = true) (hw : isIn w 0 1166016512 = true) :
    wpS Tryz.prog ⟨tt, E4, 0⟩ (cutR 8 (bodyOf Tryz.f4)) (finE tt Tryz.f4.results.toList 0 (.c (.b (.l true))) []) (fr 300 [(11, .c (.p 0 (.l 0))), (12, F w)]) [some ⟨true, 0, .cx fun _ => l⟩] := by
  have hE : forced [fun _ => (((l).getD 0 (0, 0)).1, ((l).getD 0 (0, 0)).2), fun _ => (((l).getD 1 (0, 0)).1, ((l).getD 1 (0, 0)).2), fun _ => (((l).getD 2 (0, 0)).1, ((l).getD 2 (0, 0)).2), fun _ => (((l).getD 3 (0, 0)).1, ((l).getD 3 (0, 0)).2), fun _ => (((l).getD 4 (0, 0)).1, ((l).getD 4 (0, 0)).2), fun _ => (((l).getD 5 (0, 0)).1, ((l).getD 5 (0, 0)).2), fun _ => (((l).getD 6 (0, 0)).1, ((l).getD 6 (0, 0)).2), fun _ => (((l).getD 7 (0, 0)).1, ((l).getD 7 (0, 0)).2), fun _ => (((l).getD 8 (0, 0)).1, ((l).getD 8 (0, 0)).2), fun _ => (((l).getD 9 (0, 0)).1, ((l).getD 9 (0, 0)).2), fun _ => (((l).getD 10 (0, 0)).1, ((l).getD 10 (0, 0)).2), fun _ => (((l).getD 11 (0, 0)).1, ((l).getD 11 (0, 0)).2), fun _ => (((l).getD 12 (0, 0)).1, ((l).getD 12 (0, 0)).2), fun _ => (((l).getD 13 (0, 0)).1, ((l).getD 13 (0, 0)).2), fun _ => (((l).getD 14 (0, 0)).1, ((l).getD 14 (0, 0)).2), fun _ => (((l).getD 15 (0, 0)).1, ((l).getD 15 (0, 0)).2)] = l := eta16 hl
  have hkE : okS (forced [fun _ => (((l).getD 0 (0, 0)).1, ((l).getD 0 (0, 0)).2), fun _ => (((l).getD 1 (0, 0)).1, ((l).getD 1 (0, 0)).2), fun _ => (((l).getD 2 (0, 0)).1, ((l).getD 2 (0, 0)).2), fun _ => (((l).getD 3 (0, 0)).1, ((l).getD 3 (0, 0)).2), fun _ => (((l).getD 4 (0, 0)).1, ((l).getD 4 (0, 0)).2), fun _ => (((l).getD 5 (0, 0)).1, ((l).getD 5 (0, 0)).2), fun _ => (((l).getD 6 (0, 0)).1, ((l).getD 6 (0, 0)).2), fun _ => (((l).getD 7 (0, 0)).1, ((l).getD 7 (0, 0)).2), fun _ => (((l).getD 8 (0, 0)).1, ((l).getD 8 (0, 0)).2), fun _ => (((l).getD 9 (0, 0)).1, ((l).getD 9 (0, 0)).2), fun _ => (((l).getD 10 (0, 0)).1, ((l).getD 10 (0, 0)).2), fun _ => (((l).getD 11 (0, 0)).1, ((l).getD 11 (0, 0)).2), fun _ => (((l).getD 12 (0, 0)).1, ((l).getD 12 (0, 0)).2), fun _ => (((l).getD 13 (0, 0)).1, ((l).getD 13 (0, 0)).2), fun _ => (((l).getD 14 (0, 0)).1, ((l).getD 14 (0, 0)).2), fun _ => (((l).getD 15 (0, 0)).1, ((l).getD 15 (0, 0)).2)]) = true := by rw [hE]; exact hok
  have hol := out_len l w 4
  have hob : 0 + (outR l w 4).length ≤ (outR l w 4).length ∧ (outR l w 4).length ≤ 1048576 := ⟨by omega, by omega⟩
  refine wpS_cut (c := ⟨tt, E4, 0⟩) mixed tts E4ok 2 (fun _ => fr 300 [(11, .c (.p 0 (.l 0))), (12, F w), (15, .c (.sl 1 (.l 0) (.x fun _ => (outR l w 4).length)))]) (fun _ => [some ⟨true, 0, .cx fun _ => l⟩, some ⟨true, 1, .it .i64 fun _ => outR l w 4⟩]) (fun _ => True) (by rfl) ?_ (fun _ => by rw [cut_8_2]; exact p4B0 hl hok)
  cbv
  repeat' (refine Ob.mk ?_ ?_; (focus (first | exact lt16 hl (by decide) | with_reducible rfl | exact ⟨rfl, hkE, hw⟩ | exact rfl)); cbv)
  dsimp only [IE.val, NE.val, BE.val]
  simp only [hE]
  refine Br.f (ne_ffI rfl) ?_
  cbv
  refine Br.f (ne_ffI rfl) ?_
  cbv
  repeat' (refine Ob.mk ?_ ?_; (focus (first | exact lt16 hl (by decide) | with_reducible rfl | exact hob | exact rfl)); cbv)
  refine Br.f (ntf (same_out _)) ?_
  cbv
  repeat' (refine Ob.mk ?_ ?_; (focus (first | exact lt16 hl (by decide) | with_reducible rfl | exact rfl)); cbv)
  dsimp only [IE.val, NE.val, BE.val]
  simp only [hE]
  refine Br.f (ntf hok) ?_
  cbv
  repeat' (refine Ob.mk ?_ ?_; (focus (first | exact lt16 hl (by decide) | with_reducible rfl | exact rfl)); cbv)
  refine Br.f (ntf (sameShS_self _)) ?_
  cbv
  refine CutG.ren [0, 2] trivial ?_
  cbv
  repeat' (refine Ob.mk ?_ ?_; (focus (first | with_reducible rfl | exact rfl)); cbv)
end Rg
end Go.Proofs.YteifneielgnniaaGreatDoor.Sh
end
section
namespace Go.Proofs.YteifneielgnniaaGreatDoor.Sh
namespace Rg
open Go Go.Proofs
attribute [local irreducible] okS outR grS meanO offM sizeM sameM sameMS sameShS eqW eqS mkT mkX mkY mkC
set_option maxRecDepth 100000 in
set_option maxHeartbeats 16000000 in
theorem p4B1 {l : List M} {w : Nat} (hl : l.length = 16) (hok : okS l = true) :
    wpS Tryz.prog ⟨tt, E4, 1⟩ (cutR 11 (bodyOf Tryz.f4)) (finE tt Tryz.f4.results.toList 1 (.c (.b (.l true))) [none]) (fr 300 [(11, .c (.p 1 (.l 0))), (12, F w), (15, .c (.sl 2 (.l 0) (.x fun _ => (outR l w 4).length)))]) [none, some ⟨true, 0, .cx fun _ => l⟩, some ⟨true, 1, .it .i64 fun _ => outR l w 4⟩] := by
  have hE : forced [fun _ => (((l).getD 0 (0, 0)).1, ((l).getD 0 (0, 0)).2), fun _ => (((l).getD 1 (0, 0)).1, ((l).getD 1 (0, 0)).2), fun _ => (((l).getD 2 (0, 0)).1, ((l).getD 2 (0, 0)).2), fun _ => (((l).getD 3 (0, 0)).1, ((l).getD 3 (0, 0)).2), fun _ => (((l).getD 4 (0, 0)).1, ((l).getD 4 (0, 0)).2), fun _ => (((l).getD 5 (0, 0)).1, ((l).getD 5 (0, 0)).2), fun _ => (((l).getD 6 (0, 0)).1, ((l).getD 6 (0, 0)).2), fun _ => (((l).getD 7 (0, 0)).1, ((l).getD 7 (0, 0)).2), fun _ => (((l).getD 8 (0, 0)).1, ((l).getD 8 (0, 0)).2), fun _ => (((l).getD 9 (0, 0)).1, ((l).getD 9 (0, 0)).2), fun _ => (((l).getD 10 (0, 0)).1, ((l).getD 10 (0, 0)).2), fun _ => (((l).getD 11 (0, 0)).1, ((l).getD 11 (0, 0)).2), fun _ => (((l).getD 12 (0, 0)).1, ((l).getD 12 (0, 0)).2), fun _ => (((l).getD 13 (0, 0)).1, ((l).getD 13 (0, 0)).2), fun _ => (((l).getD 14 (0, 0)).1, ((l).getD 14 (0, 0)).2), fun _ => (((l).getD 15 (0, 0)).1, ((l).getD 15 (0, 0)).2)] = l := eta16 hl
  have hkE : okS (forced [fun _ => (((l).getD 0 (0, 0)).1, ((l).getD 0 (0, 0)).2), fun _ => (((l).getD 1 (0, 0)).1, ((l).getD 1 (0, 0)).2), fun _ => (((l).getD 2 (0, 0)).1, ((l).getD 2 (0, 0)).2), fun _ => (((l).getD 3 (0, 0)).1, ((l).getD 3 (0, 0)).2), fun _ => (((l).getD 4 (0, 0)).1, ((l).getD 4 (0, 0)).2), fun _ => (((l).getD 5 (0, 0)).1, ((l).getD 5 (0, 0)).2), fun _ => (((l).getD 6 (0, 0)).1, ((l).getD 6 (0, 0)).2), fun _ => (((l).getD 7 (0, 0)).1, ((l).getD 7 (0, 0)).2), fun _ => (((l).getD 8 (0, 0)).1, ((l).getD 8 (0, 0)).2), fun _ => (((l).getD 9 (0, 0)).1, ((l).getD 9 (0, 0)).2), fun _ => (((l).getD 10 (0, 0)).1, ((l).getD 10 (0, 0)).2), fun _ => (((l).getD 11 (0, 0)).1, ((l).getD 11 (0, 0)).2), fun _ => (((l).getD 12 (0, 0)).1, ((l).getD 12 (0, 0)).2), fun _ => (((l).getD 13 (0, 0)).1, ((l).getD 13 (0, 0)).2), fun _ => (((l).getD 14 (0, 0)).1, ((l).getD 14 (0, 0)).2), fun _ => (((l).getD 15 (0, 0)).1, ((l).getD 15 (0, 0)).2)]) = true := by rw [hE]; exact hok
  have hol := out_len l w 4
  have hob : 0 + (outR l w 4).length ≤ (outR l w 4).length ∧ (outR l w 4).length ≤ 1048576 := ⟨by omega, by omega⟩
  refine wpS_of (c := ⟨tt, E4, 1⟩) mixed tts E4ok ?_
  cbv
  refine loop_rule (α := Unit → Nat) (c := ⟨tt, E4, 1⟩) (fun c => fr 300 [(11, .c (.p 1 (.l 0))), (12, F w), (15, .c (.sl 2 (.l 0) (.x fun _ => (outR l w 4).length))), (17, .c (.i .i64 (.x fun _ => (c () : Int))))]) (fun c => [none, some ⟨true, 0, .cx fun _ => l⟩, some ⟨true, 1, .it .i64 fun _ => outR l w 4⟩]) (fun c => c () ≤ 4) (fun c => 4 - c ()) (fun _ => 5) ?_ ?_
  · refine .mk (fun _ => 0) (Nat.zero_le _) (by dsimp only; omega) ?_
    cbv
    repeat' (refine Ob.mk ?_ ?_; rotate_left)
    all_goals first | exact rfl | trivial
  · intro c hc
    have hc4 : c ⟨⟩ ≤ 4 := hc
    by_cases hin : c ⟨⟩ < 4
    · have hlt : ltB ((c ⟨⟩ : Nat) : Int) 4 = true := by rw [ltB_iff]; omega
      have hci : 0 ≤ ((c ⟨⟩ : Nat) : Int) ∧ ((c ⟨⟩ : Nat) : Int) ≤ 3 := ⟨by omega, by omega⟩
      have hci4 : (0 : Int) ≤ ((c ⟨⟩ : Nat) : Int) ∧ ((c ⟨⟩ : Nat) : Int) < ((4 : Nat) : Int) := ⟨by omega, by omega⟩
      have hcw : IntKind.wrap .i64 (((c ⟨⟩ : Nat) : Int) + 1) = ((c ⟨⟩ + 1 : Nat) : Int) := wrap64_nat (by omega)
      have hcj : c ⟨⟩ + 1 ≤ 4 := hin
      have hcm : 4 - (c ⟨⟩ + 1) < 4 - c ⟨⟩ := by omega
      have hh : ((!Go.Proofs.YteifneielgnniaaGreatDoor.Sh.allI (hasI 0 (outR l w 4) ((c ⟨⟩ : Nat) : Int)) (outR l w 4).length) != fcmp .gtr .f32 (grS l (c ⟨⟩) 3).2 w) = false := by rw [has_out hin]; exact bne_self_eq_false _
      cbv
      refine Br.t hlt ?_
      cbv
      repeat' (refine Ob.mk ?_ ?_; (focus (first | exact lt16 hl (by decide) | with_reducible rfl | exact ⟨rfl, hkE, hci⟩ | exact rfl)); cbv)
      dsimp only [IE.val, NE.val, BE.val]
      simp only [hE, Int.toNat_natCast]
      repeat' first | (refine Br.f (ne_ffI rfl) ?_; cbv) | (refine Br.f (ntf (sameM_self _)) ?_; cbv) | (refine Br.f (ntf (eqW_self' _)) ?_; cbv) | (refine Ob.mk ?_ ?_; (focus (first | with_reducible rfl | exact hob | exact rfl)); cbv)
      refine Br.f hh ?_
      cbv
      rcases Nat.eq_zero_or_pos (c ⟨⟩) with hz | hz
      · have z1 : (((c ⟨⟩ : Nat) : Int) == 0) = true := by rw [hz]; rfl
        have z2 : (!(fcmp .eql .f32 (meanO l (c ⟨⟩)).1 0 && fcmp .eql .f32 (meanO l (c ⟨⟩)).2 0)) = false := by rw [hz, mean_zero hok]; decide +kernel
        have z3 : fcmp .neq .f32 (grS l (c ⟨⟩) 3).2 0 = false := by rw [hz, great_zero hok]; decide +kernel
        refine Br.t z1 ?_
        cbv
        refine Br.f z2 ?_
        cbv
        refine Br.f z3 ?_
        cbv
        refine loop_rule (α := Unit → Nat) (c := ⟨tt, E4, 1⟩) (fun k => fr 300 [(11, .c (.p 1 (.l 0))), (12, F w), (15, .c (.sl 2 (.l 0) (.x fun _ => (outR l w 4).length))), (17, .c (.i .i64 (.x fun _ => (c () : Int)))), (25, .c (.i .i64 (.x fun _ => (((grS l (c ()) 3).1 : Nat) : Int)))), (26, .c (.f .f32 fun _ => (grS l (c ()) 3).2)), (28, .c (.i .i64 (.x fun _ => (k () : Int))))]) (fun k => [none, some ⟨true, 0, .cx fun _ => l⟩, some ⟨true, 1, .it .i64 fun _ => outR l w 4⟩]) (fun k => k () ≤ 4) (fun k => 4 - k ()) (fun _ => 5) ?_ ?_
        · refine .mk (fun _ => 0) (Nat.zero_le _) (by dsimp only; omega) ?_
          cbv
          repeat' (refine Ob.mk ?_ ?_; rotate_left)
          all_goals first | exact rfl | trivial
        · intro k hk
          have hk4 : k ⟨⟩ ≤ 4 := hk
          by_cases hkn : k ⟨⟩ < 4
          · have hlk : ltB ((k ⟨⟩ : Nat) : Int) 4 = true := by rw [ltB_iff]; omega
            have hki : 0 ≤ ((c ⟨⟩ : Nat) : Int) ∧ ((c ⟨⟩ : Nat) : Int) ≤ 3 ∧ 0 ≤ ((k ⟨⟩ : Nat) : Int) ∧ ((k ⟨⟩ : Nat) : Int) ≤ 3 := ⟨by omega, by omega, by omega, by omega⟩
            have hki4 : (0 : Int) ≤ ((k ⟨⟩ : Nat) : Int) ∧ ((k ⟨⟩ : Nat) : Int) < ((4 : Nat) : Int) := ⟨by omega, by omega⟩
            have hkw : IntKind.wrap .i64 (((k ⟨⟩ : Nat) : Int) + 1) = ((k ⟨⟩ + 1 : Nat) : Int) := wrap64_nat (by omega)
            have hkj : k ⟨⟩ + 1 ≤ 4 := hkn
            have hkm : 4 - (k ⟨⟩ + 1) < 4 - k ⟨⟩ := by omega
            obtain ⟨g1, g2, g3⟩ := great_facts hok hin hkn
            cbv
            refine Br.t hlk ?_
            cbv
            repeat' (refine Ob.mk ?_ ?_; (focus (first | exact lt16 hl (by decide) | with_reducible rfl | exact ⟨rfl, hkE, hki⟩ | exact rfl)); cbv)
            dsimp only [IE.val, NE.val, BE.val]
            simp only [hE, Int.toNat_natCast]
            refine Lex.mk (by decide +kernel) ?_
            cbv
            repeat' first | (refine Br.f (ne_ffI rfl) ?_; cbv) | (refine Ob.mk ?_ ?_; (focus (first | exact hci4 | exact hki4 | exact lt16 hl (by decide) | with_reducible rfl | exact rfl | (dsimp only [IE.val, NE.val]; simp only [Int.toNat_natCast, hl]; omega))); cbv)
            dsimp only [IE.val, NE.val, BE.val]
            simp only [Int.toNat_natCast, Nat.zero_add, Nat.mul_one]
            refine Br.f (off_same _ _ _) ?_
            cbv
            repeat' (refine Ob.mk ?_ ?_; (focus (exact rfl)); cbv)
            refine Br.f g1 ?_
            cbv
            rcases Nat.lt_trichotomy (k ⟨⟩) (grS l (c ⟨⟩) 3).1 with h | h | h
            · have l1 : ltB ((k ⟨⟩ : Nat) : Int) (((grS l (c ⟨⟩) 3).1 : Nat) : Int) = true := by rw [ltB_iff]; omega
              have e1 : (((k ⟨⟩ : Nat) : Int) == (((grS l (c ⟨⟩) 3).1 : Nat) : Int)) = false := by rw [beq_eq_false_iff_ne]; omega
              refine Br.t l1 ?_
              cbv
              refine Br.f (g2 h) ?_
              cbv
              refine Br.f e1 ?_
              cbv
              refine Next.mk (fun _ => k () + 1) ?_ ?_ ?_
              all_goals first | exact hkj | exact hkm | (cbv; (repeat' (refine Ob.mk ?_ ?_; (focus (first | exact rfl | exact hkw)))); trivial) | trace_state
            · have l1 : ltB ((k ⟨⟩ : Nat) : Int) (((grS l (c ⟨⟩) 3).1 : Nat) : Int) = false := by rw [ltB_no]; omega
              have e1 : (((k ⟨⟩ : Nat) : Int) == (((grS l (c ⟨⟩) 3).1 : Nat) : Int)) = true := by rw [beq_iff_eq]; omega
              refine Br.f l1 ?_
              cbv
              refine Br.t e1 ?_
              cbv
              refine Br.f (g3 h) ?_
              cbv
              refine Next.mk (fun _ => k () + 1) ?_ ?_ ?_
              all_goals first | exact hkj | exact hkm | (cbv; (repeat' (refine Ob.mk ?_ ?_; (focus (first | exact rfl | exact hkw)))); trivial) | trace_state
            · have l1 : ltB ((k ⟨⟩ : Nat) : Int) (((grS l (c ⟨⟩) 3).1 : Nat) : Int) = false := by rw [ltB_no]; omega
              have e1 : (((k ⟨⟩ : Nat) : Int) == (((grS l (c ⟨⟩) 3).1 : Nat) : Int)) = false := by rw [beq_eq_false_iff_ne]; omega
              refine Br.f l1 ?_
              cbv
              refine Br.f e1 ?_
              cbv
              refine Next.mk (fun _ => k () + 1) ?_ ?_ ?_
              all_goals first | exact hkj | exact hkm | (cbv; (repeat' (refine Ob.mk ?_ ?_; (focus (first | exact rfl | exact hkw)))); trivial) | trace_state
          · have hkk : k ⟨⟩ = 4 := by omega
            have hlk : ltB ((k ⟨⟩ : Nat) : Int) 4 = false := by rw [ltB_no]; omega
            cbv
            refine Br.f hlk ?_
            cbv
            refine Next.mk (fun _ => c () + 1) ?_ ?_ ?_
            all_goals first | exact hcj | exact hcm | (cbv; (repeat' (refine Ob.mk ?_ ?_; (focus (first | exact rfl | exact hcw)))); trivial) | trace_state
      · have z1 : (((c ⟨⟩ : Nat) : Int) == 0) = false := by rw [beq_eq_false_iff_ne]; omega
        refine Br.f z1 ?_
        cbv
        refine loop_rule (α := Unit → Nat) (c := ⟨tt, E4, 1⟩) (fun k => fr 300 [(11, .c (.p 1 (.l 0))), (12, F w), (15, .c (.sl 2 (.l 0) (.x fun _ => (outR l w 4).length))), (17, .c (.i .i64 (.x fun _ => (c () : Int)))), (25, .c (.i .i64 (.x fun _ => (((grS l (c ()) 3).1 : Nat) : Int)))), (26, .c (.f .f32 fun _ => (grS l (c ()) 3).2)), (28, .c (.i .i64 (.x fun _ => (k () : Int))))]) (fun k => [none, some ⟨true, 0, .cx fun _ => l⟩, some ⟨true, 1, .it .i64 fun _ => outR l w 4⟩]) (fun k => k () ≤ 4) (fun k => 4 - k ()) (fun _ => 5) ?_ ?_
        · refine .mk (fun _ => 0) (Nat.zero_le _) (by dsimp only; omega) ?_
          cbv
          repeat' (refine Ob.mk ?_ ?_; rotate_left)
          all_goals first | exact rfl | trivial
        · intro k hk
          have hk4 : k ⟨⟩ ≤ 4 := hk
          by_cases hkn : k ⟨⟩ < 4
          · have hlk : ltB ((k ⟨⟩ : Nat) : Int) 4 = true := by rw [ltB_iff]; omega
            have hki : 0 ≤ ((c ⟨⟩ : Nat) : Int) ∧ ((c ⟨⟩ : Nat) : Int) ≤ 3 ∧ 0 ≤ ((k ⟨⟩ : Nat) : Int) ∧ ((k ⟨⟩ : Nat) : Int) ≤ 3 := ⟨by omega, by omega, by omega, by omega⟩
            have hki4 : (0 : Int) ≤ ((k ⟨⟩ : Nat) : Int) ∧ ((k ⟨⟩ : Nat) : Int) < ((4 : Nat) : Int) := ⟨by omega, by omega⟩
            have hkw : IntKind.wrap .i64 (((k ⟨⟩ : Nat) : Int) + 1) = ((k ⟨⟩ + 1 : Nat) : Int) := wrap64_nat (by omega)
            have hkj : k ⟨⟩ + 1 ≤ 4 := hkn
            have hkm : 4 - (k ⟨⟩ + 1) < 4 - k ⟨⟩ := by omega
            obtain ⟨g1, g2, g3⟩ := great_facts hok hin hkn
            cbv
            refine Br.t hlk ?_
            cbv
            repeat' (refine Ob.mk ?_ ?_; (focus (first | exact lt16 hl (by decide) | with_reducible rfl | exact ⟨rfl, hkE, hki⟩ | exact rfl)); cbv)
            dsimp only [IE.val, NE.val, BE.val]
            simp only [hE, Int.toNat_natCast]
            refine Lex.mk (by decide +kernel) ?_
            cbv
            repeat' first | (refine Br.f (ne_ffI rfl) ?_; cbv) | (refine Ob.mk ?_ ?_; (focus (first | exact hci4 | exact hki4 | exact lt16 hl (by decide) | with_reducible rfl | exact rfl | (dsimp only [IE.val, NE.val]; simp only [Int.toNat_natCast, hl]; omega))); cbv)
            dsimp only [IE.val, NE.val, BE.val]
            simp only [Int.toNat_natCast, Nat.zero_add, Nat.mul_one]
            refine Br.f (off_same _ _ _) ?_
            cbv
            repeat' (refine Ob.mk ?_ ?_; (focus (exact rfl)); cbv)
            refine Br.f g1 ?_
            cbv
            rcases Nat.lt_trichotomy (k ⟨⟩) (grS l (c ⟨⟩) 3).1 with h | h | h
            · have l1 : ltB ((k ⟨⟩ : Nat) : Int) (((grS l (c ⟨⟩) 3).1 : Nat) : Int) = true := by rw [ltB_iff]; omega
              have e1 : (((k ⟨⟩ : Nat) : Int) == (((grS l (c ⟨⟩) 3).1 : Nat) : Int)) = false := by rw [beq_eq_false_iff_ne]; omega
              refine Br.t l1 ?_
              cbv
              refine Br.f (g2 h) ?_
              cbv
              refine Br.f e1 ?_
              cbv
              refine Next.mk (fun _ => k () + 1) ?_ ?_ ?_
              all_goals first | exact hkj | exact hkm | (cbv; (repeat' (refine Ob.mk ?_ ?_; (focus (first | exact rfl | exact hkw)))); trivial) | trace_state
            · have l1 : ltB ((k ⟨⟩ : Nat) : Int) (((grS l (c ⟨⟩) 3).1 : Nat) : Int) = false := by rw [ltB_no]; omega
              have e1 : (((k ⟨⟩ : Nat) : Int) == (((grS l (c ⟨⟩) 3).1 : Nat) : Int)) = true := by rw [beq_iff_eq]; omega
              refine Br.f l1 ?_
              cbv
              refine Br.t e1 ?_
              cbv
              refine Br.f (g3 h) ?_
              cbv
              refine Next.mk (fun _ => k () + 1) ?_ ?_ ?_
              all_goals first | exact hkj | exact hkm | (cbv; (repeat' (refine Ob.mk ?_ ?_; (focus (first | exact rfl | exact hkw)))); trivial) | trace_state
            · have l1 : ltB ((k ⟨⟩ : Nat) : Int) (((grS l (c ⟨⟩) 3).1 : Nat) : Int) = false := by rw [ltB_no]; omega
              have e1 : (((k ⟨⟩ : Nat) : Int) == (((grS l (c ⟨⟩) 3).1 : Nat) : Int)) = false := by rw [beq_eq_false_iff_ne]; omega
              refine Br.f l1 ?_
              cbv
              refine Br.f e1 ?_
              cbv
              refine Next.mk (fun _ => k () + 1) ?_ ?_ ?_
              all_goals first | exact hkj | exact hkm | (cbv; (repeat' (refine Ob.mk ?_ ?_; (focus (first | exact rfl | exact hkw)))); trivial) | trace_state
          · have hkk : k ⟨⟩ = 4 := by omega
            have hlk : ltB ((k ⟨⟩ : Nat) : Int) 4 = false := by rw [ltB_no]; omega
            cbv
            refine Br.f hlk ?_
            cbv
            refine Next.mk (fun _ => c () + 1) ?_ ?_ ?_
            all_goals first | exact hcj | exact hcm | (cbv; (repeat' (refine Ob.mk ?_ ?_; (focus (first | exact rfl | exact hcw)))); trivial) | trace_state
    · have hik : c ⟨⟩ = 4 := by omega
      have hlt : ltB ((c ⟨⟩ : Nat) : Int) 4 = false := by rw [ltB_no]; omega
      cbv
      refine Br.f hlt ?_
      cbv
      repeat' (refine Ob.mk ?_ ?_; (focus (exact rfl)); cbv)
end Rg
end Go.Proofs.YteifneielgnniaaGreatDoor.Sh
end
section
namespace Go.Proofs.YteifneielgnniaaGreatDoor.Sh
namespace Rg
open Go Go.Proofs
attribute [local irreducible] okS outR grS meanO offM sizeM sameM sameMS sameShS eqW eqS mkT mkX mkY mkC
set_option maxRecDepth 100000 in
set_option maxHeartbeats 16000000 in
theorem p3B1 {l : List M} {w : Nat} (hl : l.length = 16) (hok : okS l = true) (hw : isIn w 0 1166016512 = true) :
    wpS Tryz.prog ⟨tt, E4, 1⟩ (cutR 8 (bodyOf Tryz.f4)) (finE tt Tryz.f4.results.toList 1 (.c (.b (.l true))) [none]) (fr 300 [(11, .c (.p 1 (.l 0))), (12, F w)]) [none, some ⟨true, 0, .cx fun _ => l⟩] := by
  have hE : forced [fun _ => (((l).getD 0 (0, 0)).1, ((l).getD 0 (0, 0)).2), fun _ => (((l).getD 1 (0, 0)).1, ((l).getD 1 (0, 0)).2), fun _ => (((l).getD 2 (0, 0)).1, ((l).getD 2 (0, 0)).2), fun _ => (((l).getD 3 (0, 0)).1, ((l).getD 3 (0, 0)).2), fun _ => (((l).getD 4 (0, 0)).1, ((l).getD 4 (0, 0)).2), fun _ => (((l).getD 5 (0, 0)).1, ((l).getD 5 (0, 0)).2), fun _ => (((l).getD 6 (0, 0)).1, ((l).getD 6 (0, 0)).2), fun _ => (((l).getD 7 (0, 0)).1, ((l).getD 7 (0, 0)).2), fun _ => (((l).getD 8 (0, 0)).1, ((l).getD 8 (0, 0)).2), fun _ => (((l).getD 9 (0, 0)).1, ((l).getD 9 (0, 0)).2), fun _ => (((l).getD 10 (0, 0)).1, ((l).getD 10 (0, 0)).2), fun _ => (((l).getD 11 (0, 0)).1, ((l).getD 11 (0, 0)).2), fun _ => (((l).getD 12 (0, 0)).1, ((l).getD 12 (0, 0)).2), fun _ => (((l).getD 13 (0, 0)).1, ((l).getD 13 (0, 0)).2), fun _ => (((l).getD 14 (0, 0)).1, ((l).getD 14 (0, 0)).2), fun _ => (((l).getD 15 (0, 0)).1, ((l).getD 15 (0, 0)).2)] = l := eta16 hl
  have hkE : okS (forced [fun _ => (((l).getD 0 (0, 0)).1, ((l).getD 0 (0, 0)).2), fun _ => (((l).getD 1 (0, 0)).1, ((l).getD 1 (0, 0)).2), fun _ => (((l).getD 2 (0, 0)).1, ((l).getD 2 (0, 0)).2), fun _ => (((l).getD 3 (0, 0)).1, ((l).getD 3 (0, 0)).2), fun _ => (((l).getD 4 (0, 0)).1, ((l).getD 4 (0, 0)).2), fun _ => (((l).getD 5 (0, 0)).1, ((l).getD 5 (0, 0)).2), fun _ => (((l).getD 6 (0, 0)).1, ((l).getD 6 (0, 0)).2), fun _ => (((l).getD 7 (0, 0)).1, ((l).getD 7 (0, 0)).2), fun _ => (((l).getD 8 (0, 0)).1, ((l).getD 8 (0, 0)).2), fun _ => (((l).getD 9 (0, 0)).1, ((l).getD 9 (0, 0)).2), fun _ => (((l).getD 10 (0, 0)).1, ((l).getD 10 (0, 0)).2), fun _ => (((l).getD 11 (0, 0)).1, ((l).getD 11 (0, 0)).2), fun _ => (((l).getD 12 (0, 0)).1, ((l).getD 12 (0, 0)).2), fun _ => (((l).getD 13 (0, 0)).1, ((l).getD 13 (0, 0)).2), fun _ => (((l).getD 14 (0, 0)).1, ((l).getD 14 (0, 0)).2), fun _ => (((l).getD 15 (0, 0)).1, ((l).getD 15 (0, 0)).2)]) = true := by rw [hE]; exact hok
  have hol := out_len l w 4
  have hob : 0 + (outR l w 4).length ≤ (outR l w 4).length ∧ (outR l w 4).length ≤ 1048576 := ⟨by omega, by omega⟩
  refine wpS_cut (c := ⟨tt, E4, 1⟩) mixed tts E4ok 2 (fun _ => fr 300 [(11, .c (.p 1 (.l 0))), (12, F w), (15, .c (.sl 2 (.l 0) (.x fun _ => (outR l w 4).length)))]) (fun _ => [none, some ⟨true, 0, .cx fun _ => l⟩, some ⟨true, 1, .it .i64 fun _ => outR l w 4⟩]) (fun _ => True) (by rfl) ?_ (fun _ => by rw [cut_8_2]; exact p4B1 hl hok)
  cbv
  repeat' (refine Ob.mk ?_ ?_; (focus (first | exact lt16 hl (by decide) | with_reducible rfl | exact ⟨rfl, hkE, hw⟩ | exact rfl)); cbv)
  dsimp only [IE.val, NE.val, BE.val]
  simp only [hE]
  refine Br.f (ne_ffI rfl) ?_
  cbv
  refine Br.f (ne_ffI rfl) ?_
  cbv
  repeat' (refine Ob.mk ?_ ?_; (focus (first | exact lt16 hl (by decide) | with_reducible rfl | exact hob | exact rfl)); cbv)
  refine Br.f (ntf (same_out _)) ?_
  cbv
  repeat' (refine Ob.mk ?_ ?_; (focus (first | exact lt16 hl (by decide) | with_reducible rfl | exact rfl)); cbv)
  dsimp only [IE.val, NE.val, BE.val]
  simp only [hE]
  refine Br.f (ntf hok) ?_
  cbv
  repeat' (refine Ob.mk ?_ ?_; (focus (first | exact lt16 hl (by decide) | with_reducible rfl | exact rfl)); cbv)
  refine Br.f (ntf (sameShS_self _)) ?_
  cbv
  refine CutG.ren [1, 3] trivial ?_
  cbv
  repeat' (refine Ob.mk ?_ ?_; (focus (first | with_reducible rfl | exact rfl)); cbv)
end Rg
end Go.Proofs.YteifneielgnniaaGreatDoor.Sh
end
section
namespace Go.Proofs.YteifneielgnniaaGreatDoor.Sh
namespace Rg
open Go Go.Proofs
attribute [local irreducible] okS outR grS meanO offM sizeM sameM sameMS sameShS eqW eqS mkT mkX mkY mkC
set_option maxRecDepth 100000 in
set_option maxHeartbeats 16000000 in
theorem p4B2 {l : List M} {w : Nat} (hl : l.length = 16) (hok : okS l = true) :
    wpS Tryz.prog ⟨tt, E4, 2⟩ (cutR 11 (bodyOf Tryz.f4)) (finE tt Tryz.f4.results.toList 2 (.c (.b (.l true))) [none, none]) (fr 300 [(11, .c (.p 2 (.l 0))), (12, F w), (15, .c (.sl 3 (.l 0) (.x fun _ => (outR l w 4).length)))]) [none, none, some ⟨true, 0, .cx fun _ => l⟩, some ⟨true, 1, .it .i64 fun _ => outR l w 4⟩] := by
  have hE : forced [fun _ => (((l).getD 0 (0, 0)).1, ((l).getD 0 (0, 0)).2), fun _ => (((l).getD 1 (0, 0)).1, ((l).getD 1 (0, 0)).2), fun _ => (((l).getD 2 (0, 0)).1, ((l).getD 2 (0, 0)).2), fun _ => (((l).getD 3 (0, 0)).1, ((l).getD 3 (0, 0)).2), fun _ => (((l).getD 4 (0, 0)).1, ((l).getD 4 (0, 0)).2), fun _ => (((l).getD 5 (0, 0)).1, ((l).getD 5 (0, 0)).2), fun _ => (((l).getD 6 (0, 0)).1, ((l).getD 6 (0, 0)).2), fun _ => (((l).getD 7 (0, 0)).1, ((l).getD 7 (0, 0)).2), fun _ => (((l).getD 8 (0, 0)).1, ((l).getD 8 (0, 0)).2), fun _ => (((l).getD 9 (0, 0)).1, ((l).getD 9 (0, 0)).2), fun _ => (((l).getD 10 (0, 0)).1, ((l).getD 10 (0, 0)).2), fun _ => (((l).getD 11 (0, 0)).1, ((l).getD 11 (0, 0)).2), fun _ => (((l).getD 12 (0, 0)).1, ((l).getD 12 (0, 0)).2), fun _ => (((l).getD 13 (0, 0)).1, ((l).getD 13 (0, 0)).2), fun _ => (((l).getD 14 (0, 0)).1, ((l).getD 14 (0, 0)).2), fun _ => (((l).getD 15 (0, 0)).1, ((l).getD 15 (0, 0)).2)] = l := eta16 hl
  have hkE : okS (forced [fun _ => (((l).getD 0 (0, 0)).1, ((l).getD 0 (0, 0)).2), fun _ => (((l).getD 1 (0, 0)).1, ((l).getD 1 (0, 0)).2), fun _ => (((l).getD 2 (0, 0)).1, ((l).getD 2 (0, 0)).2), fun _ => (((l).getD 3 (0, 0)).1, ((l).getD 3 (0, 0)).2), fun _ => (((l).getD 4 (0, 0)).1, ((l).getD 4 (0, 0)).2), fun _ => (((l).getD 5 (0, 0)).1, ((l).getD 5 (0, 0)).2), fun _ => (((l).getD 6 (0, 0)).1, ((l).getD 6 (0, 0)).2), fun _ => (((l).getD 7 (0, 0)).1, ((l).getD 7 (0, 0)).2), fun _ => (((l).getD 8 (0, 0)).1, ((l).getD 8 (0, 0)).2), fun _ => (((l).getD 9 (0, 0)).1, ((l).getD 9 (0, 0)).2), fun _ => (((l).getD 10 (0, 0)).1, ((l).getD 10 (0, 0)).2), fun _ => (((l).getD 11 (0, 0)).1, ((l).getD 11 (0, 0)).2), fun _ => (((l).getD 12 (0, 0)).1, ((l).getD 12 (0, 0)).2), fun _ => (((l).getD 13 (0, 0)).1, ((l).getD 13 (0, 0)).2), fun _ => (((l).getD 14 (0, 0)).1, ((l).getD 14 (0, 0)).2), fun _ => (((l).getD 15 (0, 0)).1, ((l).getD 15 (0, 0)).2)]) = true := by rw [hE]; exact hok
  have hol := out_len l w 4
  have hob : 0 + (outR l w 4).length ≤ (outR l w 4).length ∧ (outR l w 4).length ≤ 1048576 := ⟨by omega, by omega⟩
  refine wpS_of (c := ⟨tt, E4, 2⟩) mixed tts E4ok ?_
  cbv
  refine loop_rule (α := Unit → Nat) (c := ⟨tt, E4, 2⟩) (fun c => fr 300 [(11, .c (.p 2 (.l 0))), (12, F w), (15, .c (.sl 3 (.l 0) (.x fun _ => (outR l w 4).length))), (17, .c (.i .i64 (.x fun _ => (c () : Int))))]) (fun c => [none, none, some ⟨true, 0, .cx fun _ => l⟩, some ⟨true, 1, .it .i64 fun _ => outR l w 4⟩]) (fun c => c () ≤ 4) (fun c => 4 - c ()) (fun _ => 5) ?_ ?_
  · refine .mk (fun _ => 0) (Nat.zero_le _) (by dsimp only; omega) ?_
    cbv
    repeat' (refine Ob.mk ?_ ?_; rotate_left)
    all_goals first | exact rfl | trivial
  · intro c hc
    have hc4 : c ⟨⟩ ≤ 4 := hc
    by_cases hin : c ⟨⟩ < 4
    · have hlt : ltB ((c ⟨⟩ : Nat) : Int) 4 = true := by rw [ltB_iff]; omega
      have hci : 0 ≤ ((c ⟨⟩ : Nat) : Int) ∧ ((c ⟨⟩ : Nat) : Int) ≤ 3 := ⟨by omega, by omega⟩
      have hci4 : (0 : Int) ≤ ((c ⟨⟩ : Nat) : Int) ∧ ((c ⟨⟩ : Nat) : Int) < ((4 : Nat) : Int) := ⟨by omega, by omega⟩
      have hcw : IntKind.wrap .i64 (((c ⟨⟩ : Nat) : Int) + 1) = ((c ⟨⟩ + 1 : Nat) : Int) := wrap64_nat (by omega)
      have hcj : c ⟨⟩ + 1 ≤ 4 := hin
      have hcm : 4 - (c ⟨⟩ + 1) < 4 - c ⟨⟩ := by omega
      have hh : ((!Go.Proofs.YteifneielgnniaaGreatDoor.Sh.allI (hasI 0 (outR l w 4) ((c ⟨⟩ : Nat) : Int)) (outR l w 4).length) != fcmp .gtr .f32 (grS l (c ⟨⟩) 3).2 w) = false := by rw [has_out hin]; exact bne_self_eq_false _
      cbv
      refine Br.t hlt ?_
      cbv
      repeat' (refine Ob.mk ?_ ?_; (focus (first | exact lt16 hl (by decide) | with_reducible rfl | exact ⟨rfl, hkE, hci⟩ | exact rfl)); cbv)
      dsimp only [IE.val, NE.val, BE.val]
      simp only [hE, Int.toNat_natCast]
      repeat' first | (refine Br.f (ne_ffI rfl) ?_; cbv) | (refine Br.f (ntf (sameM_self _)) ?_; cbv) | (refine Br.f (ntf (eqW_self' _)) ?_; cbv) | (refine Ob.mk ?_ ?_; (focus (first | with_reducible rfl | exact hob | exact rfl)); cbv)
      refine Br.f hh ?_
      cbv
      rcases Nat.eq_zero_or_pos (c ⟨⟩) with hz | hz
      · have z1 : (((c ⟨⟩ : Nat) : Int) == 0) = true := by rw [hz]; rfl
        have z2 : (!(fcmp .eql .f32 (meanO l (c ⟨⟩)).1 0 && fcmp .eql .f32 (meanO l (c ⟨⟩)).2 0)) = false := by rw [hz, mean_zero hok]; decide +kernel
        have z3 : fcmp .neq .f32 (grS l (c ⟨⟩) 3).2 0 = false := by rw [hz, great_zero hok]; decide +kernel
        refine Br.t z1 ?_
        cbv
        refine Br.f z2 ?_
        cbv
        refine Br.f z3 ?_
        cbv
        refine loop_rule (α := Unit → Nat) (c := ⟨tt, E4, 2⟩) (fun k => fr 300 [(11, .c (.p 2 (.l 0))), (12, F w), (15, .c (.sl 3 (.l 0) (.x fun _ => (outR l w 4).length))), (17, .c (.i .i64 (.x fun _ => (c () : Int)))), (25, .c (.i .i64 (.x fun _ => (((grS l (c ()) 3).1 : Nat) : Int)))), (26, .c (.f .f32 fun _ => (grS l (c ()) 3).2)), (28, .c (.i .i64 (.x fun _ => (k () : Int))))]) (fun k => [none, none, some ⟨true, 0, .cx fun _ => l⟩, some ⟨true, 1, .it .i64 fun _ => outR l w 4⟩]) (fun k => k () ≤ 4) (fun k => 4 - k ()) (fun _ => 5) ?_ ?_
        · refine .mk (fun _ => 0) (Nat.zero_le _) (by dsimp only; omega) ?_
          cbv
          repeat' (refine Ob.mk ?_ ?_; rotate_left)
          all_goals first | exact rfl | trivial
        · intro k hk
          have hk4 : k ⟨⟩ ≤ 4 := hk
          by_cases hkn : k ⟨⟩ < 4
          · have hlk : ltB ((k ⟨⟩ : Nat) : Int) 4 = true := by rw [ltB_iff]; omega
            have hki : 0 ≤ ((c ⟨⟩ : Nat) : Int) ∧ ((c ⟨⟩ : Nat) : Int) ≤ 3 ∧ 0 ≤ ((k ⟨⟩ : Nat) : Int) ∧ ((k ⟨⟩ : Nat) : Int) ≤ 3 := ⟨by omega, by omega, by omega, by omega⟩
            have hki4 : (0 : Int) ≤ ((k ⟨⟩ : Nat) : Int) ∧ ((k ⟨⟩ : Nat) : Int) < ((4 : Nat) : Int) := ⟨by omega, by omega⟩
            have hkw : IntKind.wrap .i64 (((k ⟨⟩ : Nat) : Int) + 1) = ((k ⟨⟩ + 1 : Nat) : Int) := wrap64_nat (by omega)
            have hkj : k ⟨⟩ + 1 ≤ 4 := hkn
            have hkm : 4 - (k ⟨⟩ + 1) < 4 - k ⟨⟩ := by omega
            obtain ⟨g1, g2, g3⟩ := great_facts hok hin hkn
            cbv
            refine Br.t hlk ?_
            cbv
            repeat' (refine Ob.mk ?_ ?_; (focus (first | exact lt16 hl (by decide) | with_reducible rfl | exact ⟨rfl, hkE, hki⟩ | exact rfl)); cbv)
            dsimp only [IE.val, NE.val, BE.val]
            simp only [hE, Int.toNat_natCast]
            refine Lex.mk (by decide +kernel) ?_
            cbv
            repeat' first | (refine Br.f (ne_ffI rfl) ?_; cbv) | (refine Ob.mk ?_ ?_; (focus (first | exact hci4 | exact hki4 | exact lt16 hl (by decide) | with_reducible rfl | exact rfl | (dsimp only [IE.val, NE.val]; simp only [Int.toNat_natCast, hl]; omega))); cbv)
            dsimp only [IE.val, NE.val, BE.val]
            simp only [Int.toNat_natCast, Nat.zero_add, Nat.mul_one]
            refine Br.f (off_same _ _ _) ?_
            cbv
            repeat' (refine Ob.mk ?_ ?_; (focus (exact rfl)); cbv)
            refine Br.f g1 ?_
            cbv
            rcases Nat.lt_trichotomy (k ⟨⟩) (grS l (c ⟨⟩) 3).1 with h | h | h
            · have l1 : ltB ((k ⟨⟩ : Nat) : Int) (((grS l (c ⟨⟩) 3).1 : Nat) : Int) = true := by rw [ltB_iff]; omega
              have e1 : (((k ⟨⟩ : Nat) : Int) == (((grS l (c ⟨⟩) 3).1 : Nat) : Int)) = false := by rw [beq_eq_false_iff_ne]; omega
              refine Br.t l1 ?_
              cbv
              refine Br.f (g2 h) ?_
              cbv
              refine Br.f e1 ?_
              cbv
              refine Next.mk (fun _ => k () + 1) ?_ ?_ ?_
              all_goals first | exact hkj | exact hkm | (cbv; (repeat' (refine Ob.mk ?_ ?_; (focus (first | exact rfl | exact hkw)))); trivial) | trace_state
            · have l1 : ltB ((k ⟨⟩ : Nat) : Int) (((grS l (c ⟨⟩) 3).1 : Nat) : Int) = false := by rw [ltB_no]; omega
              have e1 : (((k ⟨⟩ : Nat) : Int) == (((grS l (c ⟨⟩) 3).1 : Nat) : Int)) = true := by rw [beq_iff_eq]; omega
              refine Br.f l1 ?_
              cbv
              refine Br.t e1 ?_
              cbv
              refine Br.f (g3 h) ?_
              cbv
              refine Next.mk (fun _ => k () + 1) ?_ ?_ ?_
              all_goals first | exact hkj | exact hkm | (cbv; (repeat' (refine Ob.mk ?_ ?_; (focus (first | exact rfl | exact hkw)))); trivial) | trace_state
            · have l1 : ltB ((k ⟨⟩ : Nat) : Int) (((grS l (c ⟨⟩) 3).1 : Nat) : Int) = false := by rw [ltB_no]; omega
              have e1 : (((k ⟨⟩ : Nat) : Int) == (((grS l (c ⟨⟩) 3).1 : Nat) : Int)) = false := by rw [beq_eq_false_iff_ne]; omega
              refine Br.f l1 ?_
              cbv
              refine Br.f e1 ?_
              cbv
              refine Next.mk (fun _ => k () + 1) ?_ ?_ ?_
              all_goals first | exact hkj | exact hkm | (cbv; (repeat' (refine Ob.mk ?_ ?_; (focus (first | exact rfl | exact hkw)))); trivial) | trace_state
          · have hkk : k ⟨⟩ = 4 := by omega
            have hlk : ltB ((k ⟨⟩ : Nat) : Int) 4 = false := by rw [ltB_no]; omega
            cbv
            refine Br.f hlk ?_
            cbv
            refine Next.mk (fun _ => c () + 1) ?_ ?_ ?_
            all_goals first | exact hcj | exact hcm | (cbv; (repeat' (refine Ob.mk ?_ ?_; (focus (first | exact rfl | exact hcw)))); trivial) | trace_state
      · have z1 : (((c ⟨⟩ : Nat) : Int) == 0) = false := by rw [beq_eq_false_iff_ne]; omega
        refine Br.f z1 ?_
        cbv
        refine loop_rule (α := Unit → Nat) (c := ⟨tt, E4, 2⟩) (fun k => fr 300 [(11, .c (.p 2 (.l 0))), (12, F w), (15, .c (.sl 3 (.l 0) (.x fun _ => (outR l w 4).length))), (17, .c (.i .i64 (.x fun _ => (c () : Int)))), (25, .c (.i .i64 (.x fun _ => (((grS l (c ()) 3).1 : Nat) : Int)))), (26, .c (.f .f32 fun _ => (grS l (c ()) 3).2)), (28, .c (.i .i64 (.x fun _ => (k () : Int))))]) (fun k => [none, none, some ⟨true, 0, .cx fun _ => l⟩, some ⟨true, 1, .it .i64 fun _ => outR l w 4⟩]) (fun k => k () ≤ 4) (fun k => 4 - k ()) (fun _ => 5) ?_ ?_
        · refine .mk (fun _ => 0) (Nat.zero_le _) (by dsimp only; omega) ?_
          cbv
          repeat' (refine Ob.mk ?_ ?_; rotate_left)
          all_goals first | exact rfl | trivial
        · intro k hk
          have hk4 : k ⟨⟩ ≤ 4 := hk
          by_cases hkn : k ⟨⟩ < 4
          · have hlk : ltB ((k ⟨⟩ : Nat) : Int) 4 = true := by rw [ltB_iff]; omega
            have hki : 0 ≤ ((c ⟨⟩ : Nat) : Int) ∧ ((c ⟨⟩ : Nat) : Int) ≤ 3 ∧ 0 ≤ ((k ⟨⟩ : Nat) : Int) ∧ ((k ⟨⟩ : Nat) : Int) ≤ 3 := ⟨by omega, by omega, by omega, by omega⟩
            have hki4 : (0 : Int) ≤ ((k ⟨⟩ : Nat) : Int) ∧ ((k ⟨⟩ : Nat) : Int) < ((4 : Nat) : Int) := ⟨by omega, by omega⟩
            have hkw : IntKind.wrap .i64 (((k ⟨⟩ : Nat) : Int) + 1) = ((k ⟨⟩ + 1 : Nat) : Int) := wrap64_nat (by omega)
            have hkj : k ⟨⟩ + 1 ≤ 4 := hkn
            have hkm : 4 - (k ⟨⟩ + 1) < 4 - k ⟨⟩ := by omega
            obtain ⟨g1, g2, g3⟩ := great_facts hok hin hkn
            cbv
            refine Br.t hlk ?_
            cbv
            repeat' (refine Ob.mk ?_ ?_; (focus (first | exact lt16 hl (by decide) | with_reducible rfl | exact ⟨rfl, hkE, hki⟩ | exact rfl)); cbv)
            dsimp only [IE.val, NE.val, BE.val]
            simp only [hE, Int.toNat_natCast]
            refine Lex.mk (by decide +kernel) ?_
            cbv
            repeat' first | (refine Br.f (ne_ffI rfl) ?_; cbv) | (refine Ob.mk ?_ ?_; (focus (first | exact hci4 | exact hki4 | exact lt16 hl (by decide) | with_reducible rfl | exact rfl | (dsimp only [IE.val, NE.val]; simp only [Int.toNat_natCast, hl]; omega))); cbv)
            dsimp only [IE.val, NE.val, BE.val]
            simp only [Int.toNat_natCast, Nat.zero_add, Nat.mul_one]
            refine Br.f (off_same _ _ _) ?_
            cbv
            repeat' (refine Ob.mk ?_ ?_; (focus (exact rfl)); cbv)
            refine Br.f g1 ?_
            cbv
            rcases Nat.lt_trichotomy (k ⟨⟩) (grS l (c ⟨⟩) 3).1 with h | h | h
            · have l1 : ltB ((k ⟨⟩ : Nat) : Int) (((grS l (c ⟨⟩) 3).1 : Nat) : Int) = true := by rw [ltB_iff]; omega
              have e1 : (((k ⟨⟩ : Nat) : Int) == (((grS l (c ⟨⟩) 3).1 : Nat) : Int)) = false := by rw [beq_eq_false_iff_ne]; omega
              refine Br.t l1 ?_
              cbv
              refine Br.f (g2 h) ?_
              cbv
              refine Br.f e1 ?_
              cbv
              refine Next.mk (fun _ => k () + 1) ?_ ?_ ?_
              all_goals first | exact hkj | exact hkm | (cbv; (repeat' (refine Ob.mk ?_ ?_; (focus (first | exact rfl | exact hkw)))); trivial) | trace_state
            · have l1 : ltB ((k ⟨⟩ : Nat) : Int) (((grS l (c ⟨⟩) 3).1 : Nat) : Int) = false := by rw [ltB_no]; omega
              have e1 : (((k ⟨⟩ : Nat) : Int) == (((grS l (c ⟨⟩) 3).1 : Nat) : Int)) = true := by rw [beq_iff_eq]; omega
              refine Br.f l1 ?_
              cbv
              refine Br.t e1 ?_
              cbv
              refine Br.f (g3 h) ?_
              cbv
              refine Next.mk (fun _ => k () + 1) ?_ ?_ ?_
              all_goals first | exact hkj | exact hkm | (cbv; (repeat' (refine Ob.mk ?_ ?_; (focus (first | exact rfl | exact hkw)))); trivial) | trace_state
            · have l1 : ltB ((k ⟨⟩ : Nat) : Int) (((grS l (c ⟨⟩) 3).1 : Nat) : Int) = false := by rw [ltB_no]; omega
              have e1 : (((k ⟨⟩ : Nat) : Int) == (((grS l (c ⟨⟩) 3).1 : Nat) : Int)) = false := by rw [beq_eq_false_iff_ne]; omega
              refine Br.f l1 ?_
              cbv
              refine Br.f e1 ?_
              cbv
              refine Next.mk (fun _ => k () + 1) ?_ ?_ ?_
              all_goals first | exact hkj | exact hkm | (cbv; (repeat' (refine Ob.mk ?_ ?_; (focus (first | exact rfl | exact hkw)))); trivial) | trace_state
          · have hkk : k ⟨⟩ = 4 := by omega
            have hlk : ltB ((k ⟨⟩ : Nat) : Int) 4 = false := by rw [ltB_no]; omega
            cbv
            refine Br.f hlk ?_
            cbv
            refine Next.mk (fun _ => c () + 1) ?_ ?_ ?_
            all_goals first | exact hcj | exact hcm | (cbv; (repeat' (refine Ob.mk ?_ ?_; (focus (first | exact rfl | exact hcw)))); trivial) | trace_state
    · have hik : c ⟨⟩ = 4 := by omega
      have hlt : ltB ((c ⟨⟩ : Nat) : Int) 4 = false := by rw [ltB_no]; omega
      cbv
      refine Br.f hlt ?_
      cbv
      repeat' (refine Ob.mk ?_ ?_; (focus (exact rfl)); cbv)
end Rg
end Go.Proofs.YteifneielgnniaaGreatDoor.Sh
end
section
namespace Go.Proofs.YteifneielgnniaaGreatDoor.Sh
namespace Rg
open Go Go.Proofs
attribute [local irreducible] okS outR grS meanO offM sizeM sameM sameMS sameShS eqW eqS mkT mkX mkY mkC
set_option maxRecDepth 100000 in
set_option maxHeartbeats 16000000 in
theorem p3B2 {l : List M} {w : Nat} (hl : l.length = 16) (hok : okS l = true) (hw : isIn w 0 1166016512 = true) :
    wpS Tryz.prog ⟨tt, E4, 2⟩ (cutR 8 (bodyOf Tryz.f4)) (finE tt Tryz.f4.results.toList 2 (.c (.b (.l true))) [none, none]) (fr 300 [(11, .c (.p 2 (.l 0))), (12, F w)]) [none, none, some ⟨true, 0, .cx fun _ => l⟩] := by
  have hE : forced [fun _ => (((l).getD 0 (0, 0)).1, ((l).getD 0 (0, 0)).2), fun _ => (((l).getD 1 (0, 0)).1, ((l).getD 1 (0, 0)).2), fun _ => (((l).getD 2 (0, 0)).1, ((l).getD 2 (0, 0)).2), fun _ => (((l).getD 3 (0, 0)).1, ((l).getD 3 (0, 0)).2), fun _ => (((l).getD 4 (0, 0)).1, ((l).getD 4 (0, 0)).2), fun _ => (((l).getD 5 (0, 0)).1, ((l).getD 5 (0, 0)).2), fun _ => (((l).getD 6 (0, 0)).1, ((l).getD 6 (0, 0)).2), fun _ => (((l).getD 7 (0, 0)).1, ((l).getD 7 (0, 0)).2), fun _ => (((l).getD 8 (0, 0)).1, ((l).getD 8 (0, 0)).2), fun _ => (((l).getD 9 (0, 0)).1, ((l).getD 9 (0, 0)).2), fun _ => (((l).getD 10 (0, 0)).1, ((l).getD 10 (0, 0)).2), fun _ => (((l).getD 11 (0, 0)).1, ((l).getD 11 (0, 0)).2), fun _ => (((l).getD 12 (0, 0)).1, ((l).getD 12 (0, 0)).2), fun _ => (((l).getD 13 (0, 0)).1, ((l).getD 13 (0, 0)).2), fun _ => (((l).getD 14 (0, 0)).1, ((l).getD 14 (0, 0)).2), fun _ => (((l).getD 15 (0, 0)).1, ((l).getD 15 (0, 0)).2)] = l := eta16 hl
  have hkE : okS (forced [fun _ => (((l).getD 0 (0, 0)).1, ((l).getD 0 (0, 0)).2), fun _ => (((l).getD 1 (0, 0)).1, ((l).getD 1 (0, 0)).2), fun _ => (((l).getD 2 (0, 0)).1, ((l).getD 2 (0, 0)).2), fun _ => (((l).getD 3 (0, 0)).1, ((l).getD 3 (0, 0)).2), fun _ => (((l).getD 4 (0, 0)).1, ((l).getD 4 (0, 0)).2), fun _ => (((l).getD 5 (0, 0)).1, ((l).getD 5 (0, 0)).2), fun _ => (((l).getD 6 (0, 0)).1, ((l).getD 6 (0, 0)).2), fun _ => (((l).getD 7 (0, 0)).1, ((l).getD 7 (0, 0)).2), fun _ => (((l).getD 8 (0, 0)).1, ((l).getD 8 (0, 0)).2), fun _ => (((l).getD 9 (0, 0)).1, ((l).getD 9 (0, 0)).2), fun _ => (((l).getD 10 (0, 0)).1, ((l).getD 10 (0, 0)).2), fun _ => (((l).getD 11 (0, 0)).1, ((l).getD 11 (0, 0)).2), fun _ => (((l).getD 12 (0, 0)).1, ((l).getD 12 (0, 0)).2), fun _ => (((l).getD 13 (0, 0)).1, ((l).getD 13 (0, 0)).2), fun _ => (((l).getD 14 (0, 0)).1, ((l).getD 14 (0, 0)).2), fun _ => (((l).getD 15 (0, 0)).1, ((l).getD 15 (0, 0)).2)]) = true := by rw [hE]; exact hok
  have hol := out_len l w 4
  have hob : 0 + (outR l w 4).length ≤ (outR l w 4).length ∧ (outR l w 4).length ≤ 1048576 := ⟨by omega, by omega⟩
  refine wpS_cut (c := ⟨tt, E4, 2⟩) mixed tts E4ok 2 (fun _ => fr 300 [(11, .c (.p 2 (.l 0))), (12, F w), (15, .c (.sl 3 (.l 0) (.x fun _ => (outR l w 4).length)))]) (fun _ => [none, none, some ⟨true, 0, .cx fun _ => l⟩, some ⟨true, 1, .it .i64 fun _ => outR l w 4⟩]) (fun _ => True) (by rfl) ?_ (fun _ => by rw [cut_8_2]; exact p4B2 hl hok)
  cbv
  repeat' (refine Ob.mk ?_ ?_; (focus (first | exact lt16 hl (by decide) | with_reducible rfl | exact ⟨rfl, hkE, hw⟩ | exact rfl)); cbv)
  dsimp only [IE.val, NE.val, BE.val]
  simp only [hE]
  refine Br.f (ne_ffI rfl) ?_
  cbv
  refine Br.f (ne_ffI rfl) ?_
  cbv
  repeat' (refine Ob.mk ?_ ?_; (focus (first | exact lt16 hl (by decide) | with_reducible rfl | exact hob | exact rfl)); cbv)
  refine Br.f (ntf (same_out _)) ?_
  cbv
  repeat' (refine Ob.mk ?_ ?_; (focus (first | exact lt16 hl (by decide) | with_reducible rfl | exact rfl)); cbv)
  dsimp only [IE.val, NE.val, BE.val]
  simp only [hE]
  refine Br.f (ntf hok) ?_
  cbv
  repeat' (refine Ob.mk ?_ ?_; (focus (first | exact lt16 hl (by decide) | with_reducible rfl | exact rfl)); cbv)
  refine Br.f (ntf (sameShS_self _)) ?_
  cbv
  refine CutG.ren [2, 4] trivial ?_
  cbv
  repeat' (refine Ob.mk ?_ ?_; (focus (first | with_reducible rfl | exact rfl)); cbv)
end Rg
end Go.Proofs.YteifneielgnniaaGreatDoor.Sh
end
