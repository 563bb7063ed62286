/- What the law of adjustments where both rows are none of this seat compute, each shown once. No condition. -/
import Derived.Test.YtanndlifpojenaaVq
set_option linter.unusedVariables false
set_option linter.unusedSimpArgs false
set_option linter.unusedSectionVars false
namespace Go.Proofs.Ytanndlifpojenaa.Sh
open Go Go.Proofs
section
attribute [local irreducible] stdK driK
set_option maxRecDepth 100000 in
set_option maxHeartbeats 8000000 in
theorem q4d  {S U K : List M} {cc : Nat} (hcc : 1 ≤ cc ∧ cc ≤ 3) (hS : S.length = 16) (hU : U.length = 16) (hK : K.length = 16) (kS : okS S = true) (kU : okS U = true) (kK : okS K = true) :
    wpS Try.prog ⟨tt, E4, 0⟩ (cutR 23 (bodyOf Try.f4)) (finE tt Try.f4.results.toList 0 (.c (.b (.l true))) []) (fr 269 [(6, .c (.i .i64 (.x fun _ => (cc : Int)))), (7, .c (.p 0 (.l 0))), (12, .c (.p 1 (.l 0))), (25, .c (.p 3 (.l 0)))]) ([some ⟨true, 0, .cx fun _ => S⟩, some ⟨true, 0, .cx fun _ => U⟩, none, some ⟨true, 0, .cx fun _ => K⟩]) := by
  have hci : 0 ≤ (cc : Int) ∧ (cc : Int) ≤ 3 := by omega
  have hl3 : okL3 [(((U).getD 0 (0, 0)).1, ((U).getD 0 (0, 0)).2), (((U).getD 1 (0, 0)).1, ((U).getD 1 (0, 0)).2), (((U).getD 2 (0, 0)).1, ((U).getD 2 (0, 0)).2), (((U).getD 3 (0, 0)).1, ((U).getD 3 (0, 0)).2), (((U).getD 4 (0, 0)).1, ((U).getD 4 (0, 0)).2), (((U).getD 5 (0, 0)).1, ((U).getD 5 (0, 0)).2), (((U).getD 6 (0, 0)).1, ((U).getD 6 (0, 0)).2), (((U).getD 7 (0, 0)).1, ((U).getD 7 (0, 0)).2), (((U).getD 8 (0, 0)).1, ((U).getD 8 (0, 0)).2), (((U).getD 9 (0, 0)).1, ((U).getD 9 (0, 0)).2), (((U).getD 10 (0, 0)).1, ((U).getD 10 (0, 0)).2), (((U).getD 11 (0, 0)).1, ((U).getD 11 (0, 0)).2), (((U).getD 12 (0, 0)).1, ((U).getD 12 (0, 0)).2), (((U).getD 13 (0, 0)).1, ((U).getD 13 (0, 0)).2), (((U).getD 14 (0, 0)).1, ((U).getD 14 (0, 0)).2), (((U).getD 15 (0, 0)).1, ((U).getD 15 (0, 0)).2), (((S).getD 0 (0, 0)).1, ((S).getD 0 (0, 0)).2), (((S).getD 1 (0, 0)).1, ((S).getD 1 (0, 0)).2), (((S).getD 2 (0, 0)).1, ((S).getD 2 (0, 0)).2), (((S).getD 3 (0, 0)).1, ((S).getD 3 (0, 0)).2), (((S).getD 4 (0, 0)).1, ((S).getD 4 (0, 0)).2), (((S).getD 5 (0, 0)).1, ((S).getD 5 (0, 0)).2), (((S).getD 6 (0, 0)).1, ((S).getD 6 (0, 0)).2), (((S).getD 7 (0, 0)).1, ((S).getD 7 (0, 0)).2), (((S).getD 8 (0, 0)).1, ((S).getD 8 (0, 0)).2), (((S).getD 9 (0, 0)).1, ((S).getD 9 (0, 0)).2), (((S).getD 10 (0, 0)).1, ((S).getD 10 (0, 0)).2), (((S).getD 11 (0, 0)).1, ((S).getD 11 (0, 0)).2), (((S).getD 12 (0, 0)).1, ((S).getD 12 (0, 0)).2), (((S).getD 13 (0, 0)).1, ((S).getD 13 (0, 0)).2), (((S).getD 14 (0, 0)).1, ((S).getD 14 (0, 0)).2), (((S).getD 15 (0, 0)).1, ((S).getD 15 (0, 0)).2), (((K).getD 0 (0, 0)).1, ((K).getD 0 (0, 0)).2), (((K).getD 1 (0, 0)).1, ((K).getD 1 (0, 0)).2), (((K).getD 2 (0, 0)).1, ((K).getD 2 (0, 0)).2), (((K).getD 3 (0, 0)).1, ((K).getD 3 (0, 0)).2), (((K).getD 4 (0, 0)).1, ((K).getD 4 (0, 0)).2), (((K).getD 5 (0, 0)).1, ((K).getD 5 (0, 0)).2), (((K).getD 6 (0, 0)).1, ((K).getD 6 (0, 0)).2), (((K).getD 7 (0, 0)).1, ((K).getD 7 (0, 0)).2), (((K).getD 8 (0, 0)).1, ((K).getD 8 (0, 0)).2), (((K).getD 9 (0, 0)).1, ((K).getD 9 (0, 0)).2), (((K).getD 10 (0, 0)).1, ((K).getD 10 (0, 0)).2), (((K).getD 11 (0, 0)).1, ((K).getD 11 (0, 0)).2), (((K).getD 12 (0, 0)).1, ((K).getD 12 (0, 0)).2), (((K).getD 13 (0, 0)).1, ((K).getD 13 (0, 0)).2), (((K).getD 14 (0, 0)).1, ((K).getD 14 (0, 0)).2), (((K).getD 15 (0, 0)).1, ((K).getD 15 (0, 0)).2)] := by
    refine ⟨rfl, ?_, ?_, ?_⟩
    · show okS [(((U).getD 0 (0, 0)).1, ((U).getD 0 (0, 0)).2), (((U).getD 1 (0, 0)).1, ((U).getD 1 (0, 0)).2), (((U).getD 2 (0, 0)).1, ((U).getD 2 (0, 0)).2), (((U).getD 3 (0, 0)).1, ((U).getD 3 (0, 0)).2), (((U).getD 4 (0, 0)).1, ((U).getD 4 (0, 0)).2), (((U).getD 5 (0, 0)).1, ((U).getD 5 (0, 0)).2), (((U).getD 6 (0, 0)).1, ((U).getD 6 (0, 0)).2), (((U).getD 7 (0, 0)).1, ((U).getD 7 (0, 0)).2), (((U).getD 8 (0, 0)).1, ((U).getD 8 (0, 0)).2), (((U).getD 9 (0, 0)).1, ((U).getD 9 (0, 0)).2), (((U).getD 10 (0, 0)).1, ((U).getD 10 (0, 0)).2), (((U).getD 11 (0, 0)).1, ((U).getD 11 (0, 0)).2), (((U).getD 12 (0, 0)).1, ((U).getD 12 (0, 0)).2), (((U).getD 13 (0, 0)).1, ((U).getD 13 (0, 0)).2), (((U).getD 14 (0, 0)).1, ((U).getD 14 (0, 0)).2), (((U).getD 15 (0, 0)).1, ((U).getD 15 (0, 0)).2)] = true
      rw [eta16 hU]; exact kU
    · show okS [(((S).getD 0 (0, 0)).1, ((S).getD 0 (0, 0)).2), (((S).getD 1 (0, 0)).1, ((S).getD 1 (0, 0)).2), (((S).getD 2 (0, 0)).1, ((S).getD 2 (0, 0)).2), (((S).getD 3 (0, 0)).1, ((S).getD 3 (0, 0)).2), (((S).getD 4 (0, 0)).1, ((S).getD 4 (0, 0)).2), (((S).getD 5 (0, 0)).1, ((S).getD 5 (0, 0)).2), (((S).getD 6 (0, 0)).1, ((S).getD 6 (0, 0)).2), (((S).getD 7 (0, 0)).1, ((S).getD 7 (0, 0)).2), (((S).getD 8 (0, 0)).1, ((S).getD 8 (0, 0)).2), (((S).getD 9 (0, 0)).1, ((S).getD 9 (0, 0)).2), (((S).getD 10 (0, 0)).1, ((S).getD 10 (0, 0)).2), (((S).getD 11 (0, 0)).1, ((S).getD 11 (0, 0)).2), (((S).getD 12 (0, 0)).1, ((S).getD 12 (0, 0)).2), (((S).getD 13 (0, 0)).1, ((S).getD 13 (0, 0)).2), (((S).getD 14 (0, 0)).1, ((S).getD 14 (0, 0)).2), (((S).getD 15 (0, 0)).1, ((S).getD 15 (0, 0)).2)] = true
      rw [eta16 hS]; exact kS
    · show okS [(((K).getD 0 (0, 0)).1, ((K).getD 0 (0, 0)).2), (((K).getD 1 (0, 0)).1, ((K).getD 1 (0, 0)).2), (((K).getD 2 (0, 0)).1, ((K).getD 2 (0, 0)).2), (((K).getD 3 (0, 0)).1, ((K).getD 3 (0, 0)).2), (((K).getD 4 (0, 0)).1, ((K).getD 4 (0, 0)).2), (((K).getD 5 (0, 0)).1, ((K).getD 5 (0, 0)).2), (((K).getD 6 (0, 0)).1, ((K).getD 6 (0, 0)).2), (((K).getD 7 (0, 0)).1, ((K).getD 7 (0, 0)).2), (((K).getD 8 (0, 0)).1, ((K).getD 8 (0, 0)).2), (((K).getD 9 (0, 0)).1, ((K).getD 9 (0, 0)).2), (((K).getD 10 (0, 0)).1, ((K).getD 10 (0, 0)).2), (((K).getD 11 (0, 0)).1, ((K).getD 11 (0, 0)).2), (((K).getD 12 (0, 0)).1, ((K).getD 12 (0, 0)).2), (((K).getD 13 (0, 0)).1, ((K).getD 13 (0, 0)).2), (((K).getD 14 (0, 0)).1, ((K).getD 14 (0, 0)).2), (((K).getD 15 (0, 0)).1, ((K).getD 15 (0, 0)).2)] = true
      rw [eta16 hK]; exact kK
  have hsm := sameM_self (driK [(((U).getD 0 (0, 0)).1, ((U).getD 0 (0, 0)).2), (((U).getD 1 (0, 0)).1, ((U).getD 1 (0, 0)).2), (((U).getD 2 (0, 0)).1, ((U).getD 2 (0, 0)).2), (((U).getD 3 (0, 0)).1, ((U).getD 3 (0, 0)).2), (((U).getD 4 (0, 0)).1, ((U).getD 4 (0, 0)).2), (((U).getD 5 (0, 0)).1, ((U).getD 5 (0, 0)).2), (((U).getD 6 (0, 0)).1, ((U).getD 6 (0, 0)).2), (((U).getD 7 (0, 0)).1, ((U).getD 7 (0, 0)).2), (((U).getD 8 (0, 0)).1, ((U).getD 8 (0, 0)).2), (((U).getD 9 (0, 0)).1, ((U).getD 9 (0, 0)).2), (((U).getD 10 (0, 0)).1, ((U).getD 10 (0, 0)).2), (((U).getD 11 (0, 0)).1, ((U).getD 11 (0, 0)).2), (((U).getD 12 (0, 0)).1, ((U).getD 12 (0, 0)).2), (((U).getD 13 (0, 0)).1, ((U).getD 13 (0, 0)).2), (((U).getD 14 (0, 0)).1, ((U).getD 14 (0, 0)).2), (((U).getD 15 (0, 0)).1, ((U).getD 15 (0, 0)).2), (((S).getD 0 (0, 0)).1, ((S).getD 0 (0, 0)).2), (((S).getD 1 (0, 0)).1, ((S).getD 1 (0, 0)).2), (((S).getD 2 (0, 0)).1, ((S).getD 2 (0, 0)).2), (((S).getD 3 (0, 0)).1, ((S).getD 3 (0, 0)).2), (((S).getD 4 (0, 0)).1, ((S).getD 4 (0, 0)).2), (((S).getD 5 (0, 0)).1, ((S).getD 5 (0, 0)).2), (((S).getD 6 (0, 0)).1, ((S).getD 6 (0, 0)).2), (((S).getD 7 (0, 0)).1, ((S).getD 7 (0, 0)).2), (((S).getD 8 (0, 0)).1, ((S).getD 8 (0, 0)).2), (((S).getD 9 (0, 0)).1, ((S).getD 9 (0, 0)).2), (((S).getD 10 (0, 0)).1, ((S).getD 10 (0, 0)).2), (((S).getD 11 (0, 0)).1, ((S).getD 11 (0, 0)).2), (((S).getD 12 (0, 0)).1, ((S).getD 12 (0, 0)).2), (((S).getD 13 (0, 0)).1, ((S).getD 13 (0, 0)).2), (((S).getD 14 (0, 0)).1, ((S).getD 14 (0, 0)).2), (((S).getD 15 (0, 0)).1, ((S).getD 15 (0, 0)).2), (((K).getD 0 (0, 0)).1, ((K).getD 0 (0, 0)).2), (((K).getD 1 (0, 0)).1, ((K).getD 1 (0, 0)).2), (((K).getD 2 (0, 0)).1, ((K).getD 2 (0, 0)).2), (((K).getD 3 (0, 0)).1, ((K).getD 3 (0, 0)).2), (((K).getD 4 (0, 0)).1, ((K).getD 4 (0, 0)).2), (((K).getD 5 (0, 0)).1, ((K).getD 5 (0, 0)).2), (((K).getD 6 (0, 0)).1, ((K).getD 6 (0, 0)).2), (((K).getD 7 (0, 0)).1, ((K).getD 7 (0, 0)).2), (((K).getD 8 (0, 0)).1, ((K).getD 8 (0, 0)).2), (((K).getD 9 (0, 0)).1, ((K).getD 9 (0, 0)).2), (((K).getD 10 (0, 0)).1, ((K).getD 10 (0, 0)).2), (((K).getD 11 (0, 0)).1, ((K).getD 11 (0, 0)).2), (((K).getD 12 (0, 0)).1, ((K).getD 12 (0, 0)).2), (((K).getD 13 (0, 0)).1, ((K).getD 13 (0, 0)).2), (((K).getD 14 (0, 0)).1, ((K).getD 14 (0, 0)).2), (((K).getD 15 (0, 0)).1, ((K).getD 15 (0, 0)).2)] (Int.toNat (cc : Int)))
  have hst := eqW_self (stdK [(((U).getD 0 (0, 0)).1, ((U).getD 0 (0, 0)).2), (((U).getD 1 (0, 0)).1, ((U).getD 1 (0, 0)).2), (((U).getD 2 (0, 0)).1, ((U).getD 2 (0, 0)).2), (((U).getD 3 (0, 0)).1, ((U).getD 3 (0, 0)).2), (((U).getD 4 (0, 0)).1, ((U).getD 4 (0, 0)).2), (((U).getD 5 (0, 0)).1, ((U).getD 5 (0, 0)).2), (((U).getD 6 (0, 0)).1, ((U).getD 6 (0, 0)).2), (((U).getD 7 (0, 0)).1, ((U).getD 7 (0, 0)).2), (((U).getD 8 (0, 0)).1, ((U).getD 8 (0, 0)).2), (((U).getD 9 (0, 0)).1, ((U).getD 9 (0, 0)).2), (((U).getD 10 (0, 0)).1, ((U).getD 10 (0, 0)).2), (((U).getD 11 (0, 0)).1, ((U).getD 11 (0, 0)).2), (((U).getD 12 (0, 0)).1, ((U).getD 12 (0, 0)).2), (((U).getD 13 (0, 0)).1, ((U).getD 13 (0, 0)).2), (((U).getD 14 (0, 0)).1, ((U).getD 14 (0, 0)).2), (((U).getD 15 (0, 0)).1, ((U).getD 15 (0, 0)).2), (((S).getD 0 (0, 0)).1, ((S).getD 0 (0, 0)).2), (((S).getD 1 (0, 0)).1, ((S).getD 1 (0, 0)).2), (((S).getD 2 (0, 0)).1, ((S).getD 2 (0, 0)).2), (((S).getD 3 (0, 0)).1, ((S).getD 3 (0, 0)).2), (((S).getD 4 (0, 0)).1, ((S).getD 4 (0, 0)).2), (((S).getD 5 (0, 0)).1, ((S).getD 5 (0, 0)).2), (((S).getD 6 (0, 0)).1, ((S).getD 6 (0, 0)).2), (((S).getD 7 (0, 0)).1, ((S).getD 7 (0, 0)).2), (((S).getD 8 (0, 0)).1, ((S).getD 8 (0, 0)).2), (((S).getD 9 (0, 0)).1, ((S).getD 9 (0, 0)).2), (((S).getD 10 (0, 0)).1, ((S).getD 10 (0, 0)).2), (((S).getD 11 (0, 0)).1, ((S).getD 11 (0, 0)).2), (((S).getD 12 (0, 0)).1, ((S).getD 12 (0, 0)).2), (((S).getD 13 (0, 0)).1, ((S).getD 13 (0, 0)).2), (((S).getD 14 (0, 0)).1, ((S).getD 14 (0, 0)).2), (((S).getD 15 (0, 0)).1, ((S).getD 15 (0, 0)).2), (((K).getD 0 (0, 0)).1, ((K).getD 0 (0, 0)).2), (((K).getD 1 (0, 0)).1, ((K).getD 1 (0, 0)).2), (((K).getD 2 (0, 0)).1, ((K).getD 2 (0, 0)).2), (((K).getD 3 (0, 0)).1, ((K).getD 3 (0, 0)).2), (((K).getD 4 (0, 0)).1, ((K).getD 4 (0, 0)).2), (((K).getD 5 (0, 0)).1, ((K).getD 5 (0, 0)).2), (((K).getD 6 (0, 0)).1, ((K).getD 6 (0, 0)).2), (((K).getD 7 (0, 0)).1, ((K).getD 7 (0, 0)).2), (((K).getD 8 (0, 0)).1, ((K).getD 8 (0, 0)).2), (((K).getD 9 (0, 0)).1, ((K).getD 9 (0, 0)).2), (((K).getD 10 (0, 0)).1, ((K).getD 10 (0, 0)).2), (((K).getD 11 (0, 0)).1, ((K).getD 11 (0, 0)).2), (((K).getD 12 (0, 0)).1, ((K).getD 12 (0, 0)).2), (((K).getD 13 (0, 0)).1, ((K).getD 13 (0, 0)).2), (((K).getD 14 (0, 0)).1, ((K).getD 14 (0, 0)).2), (((K).getD 15 (0, 0)).1, ((K).getD 15 (0, 0)).2)] 2).2
  have hbd := std_bd [(((U).getD 0 (0, 0)).1, ((U).getD 0 (0, 0)).2), (((U).getD 1 (0, 0)).1, ((U).getD 1 (0, 0)).2), (((U).getD 2 (0, 0)).1, ((U).getD 2 (0, 0)).2), (((U).getD 3 (0, 0)).1, ((U).getD 3 (0, 0)).2), (((U).getD 4 (0, 0)).1, ((U).getD 4 (0, 0)).2), (((U).getD 5 (0, 0)).1, ((U).getD 5 (0, 0)).2), (((U).getD 6 (0, 0)).1, ((U).getD 6 (0, 0)).2), (((U).getD 7 (0, 0)).1, ((U).getD 7 (0, 0)).2), (((U).getD 8 (0, 0)).1, ((U).getD 8 (0, 0)).2), (((U).getD 9 (0, 0)).1, ((U).getD 9 (0, 0)).2), (((U).getD 10 (0, 0)).1, ((U).getD 10 (0, 0)).2), (((U).getD 11 (0, 0)).1, ((U).getD 11 (0, 0)).2), (((U).getD 12 (0, 0)).1, ((U).getD 12 (0, 0)).2), (((U).getD 13 (0, 0)).1, ((U).getD 13 (0, 0)).2), (((U).getD 14 (0, 0)).1, ((U).getD 14 (0, 0)).2), (((U).getD 15 (0, 0)).1, ((U).getD 15 (0, 0)).2), (((S).getD 0 (0, 0)).1, ((S).getD 0 (0, 0)).2), (((S).getD 1 (0, 0)).1, ((S).getD 1 (0, 0)).2), (((S).getD 2 (0, 0)).1, ((S).getD 2 (0, 0)).2), (((S).getD 3 (0, 0)).1, ((S).getD 3 (0, 0)).2), (((S).getD 4 (0, 0)).1, ((S).getD 4 (0, 0)).2), (((S).getD 5 (0, 0)).1, ((S).getD 5 (0, 0)).2), (((S).getD 6 (0, 0)).1, ((S).getD 6 (0, 0)).2), (((S).getD 7 (0, 0)).1, ((S).getD 7 (0, 0)).2), (((S).getD 8 (0, 0)).1, ((S).getD 8 (0, 0)).2), (((S).getD 9 (0, 0)).1, ((S).getD 9 (0, 0)).2), (((S).getD 10 (0, 0)).1, ((S).getD 10 (0, 0)).2), (((S).getD 11 (0, 0)).1, ((S).getD 11 (0, 0)).2), (((S).getD 12 (0, 0)).1, ((S).getD 12 (0, 0)).2), (((S).getD 13 (0, 0)).1, ((S).getD 13 (0, 0)).2), (((S).getD 14 (0, 0)).1, ((S).getD 14 (0, 0)).2), (((S).getD 15 (0, 0)).1, ((S).getD 15 (0, 0)).2), (((K).getD 0 (0, 0)).1, ((K).getD 0 (0, 0)).2), (((K).getD 1 (0, 0)).1, ((K).getD 1 (0, 0)).2), (((K).getD 2 (0, 0)).1, ((K).getD 2 (0, 0)).2), (((K).getD 3 (0, 0)).1, ((K).getD 3 (0, 0)).2), (((K).getD 4 (0, 0)).1, ((K).getD 4 (0, 0)).2), (((K).getD 5 (0, 0)).1, ((K).getD 5 (0, 0)).2), (((K).getD 6 (0, 0)).1, ((K).getD 6 (0, 0)).2), (((K).getD 7 (0, 0)).1, ((K).getD 7 (0, 0)).2), (((K).getD 8 (0, 0)).1, ((K).getD 8 (0, 0)).2), (((K).getD 9 (0, 0)).1, ((K).getD 9 (0, 0)).2), (((K).getD 10 (0, 0)).1, ((K).getD 10 (0, 0)).2), (((K).getD 11 (0, 0)).1, ((K).getD 11 (0, 0)).2), (((K).getD 12 (0, 0)).1, ((K).getD 12 (0, 0)).2), (((K).getD 13 (0, 0)).1, ((K).getD 13 (0, 0)).2), (((K).getD 14 (0, 0)).1, ((K).getD 14 (0, 0)).2), (((K).getD 15 (0, 0)).1, ((K).getD 15 (0, 0)).2)] 2
  have hb1 : leB 1 (((stdK [(((U).getD 0 (0, 0)).1, ((U).getD 0 (0, 0)).2), (((U).getD 1 (0, 0)).1, ((U).getD 1 (0, 0)).2), (((U).getD 2 (0, 0)).1, ((U).getD 2 (0, 0)).2), (((U).getD 3 (0, 0)).1, ((U).getD 3 (0, 0)).2), (((U).getD 4 (0, 0)).1, ((U).getD 4 (0, 0)).2), (((U).getD 5 (0, 0)).1, ((U).getD 5 (0, 0)).2), (((U).getD 6 (0, 0)).1, ((U).getD 6 (0, 0)).2), (((U).getD 7 (0, 0)).1, ((U).getD 7 (0, 0)).2), (((U).getD 8 (0, 0)).1, ((U).getD 8 (0, 0)).2), (((U).getD 9 (0, 0)).1, ((U).getD 9 (0, 0)).2), (((U).getD 10 (0, 0)).1, ((U).getD 10 (0, 0)).2), (((U).getD 11 (0, 0)).1, ((U).getD 11 (0, 0)).2), (((U).getD 12 (0, 0)).1, ((U).getD 12 (0, 0)).2), (((U).getD 13 (0, 0)).1, ((U).getD 13 (0, 0)).2), (((U).getD 14 (0, 0)).1, ((U).getD 14 (0, 0)).2), (((U).getD 15 (0, 0)).1, ((U).getD 15 (0, 0)).2), (((S).getD 0 (0, 0)).1, ((S).getD 0 (0, 0)).2), (((S).getD 1 (0, 0)).1, ((S).getD 1 (0, 0)).2), (((S).getD 2 (0, 0)).1, ((S).getD 2 (0, 0)).2), (((S).getD 3 (0, 0)).1, ((S).getD 3 (0, 0)).2), (((S).getD 4 (0, 0)).1, ((S).getD 4 (0, 0)).2), (((S).getD 5 (0, 0)).1, ((S).getD 5 (0, 0)).2), (((S).getD 6 (0, 0)).1, ((S).getD 6 (0, 0)).2), (((S).getD 7 (0, 0)).1, ((S).getD 7 (0, 0)).2), (((S).getD 8 (0, 0)).1, ((S).getD 8 (0, 0)).2), (((S).getD 9 (0, 0)).1, ((S).getD 9 (0, 0)).2), (((S).getD 10 (0, 0)).1, ((S).getD 10 (0, 0)).2), (((S).getD 11 (0, 0)).1, ((S).getD 11 (0, 0)).2), (((S).getD 12 (0, 0)).1, ((S).getD 12 (0, 0)).2), (((S).getD 13 (0, 0)).1, ((S).getD 13 (0, 0)).2), (((S).getD 14 (0, 0)).1, ((S).getD 14 (0, 0)).2), (((S).getD 15 (0, 0)).1, ((S).getD 15 (0, 0)).2), (((K).getD 0 (0, 0)).1, ((K).getD 0 (0, 0)).2), (((K).getD 1 (0, 0)).1, ((K).getD 1 (0, 0)).2), (((K).getD 2 (0, 0)).1, ((K).getD 2 (0, 0)).2), (((K).getD 3 (0, 0)).1, ((K).getD 3 (0, 0)).2), (((K).getD 4 (0, 0)).1, ((K).getD 4 (0, 0)).2), (((K).getD 5 (0, 0)).1, ((K).getD 5 (0, 0)).2), (((K).getD 6 (0, 0)).1, ((K).getD 6 (0, 0)).2), (((K).getD 7 (0, 0)).1, ((K).getD 7 (0, 0)).2), (((K).getD 8 (0, 0)).1, ((K).getD 8 (0, 0)).2), (((K).getD 9 (0, 0)).1, ((K).getD 9 (0, 0)).2), (((K).getD 10 (0, 0)).1, ((K).getD 10 (0, 0)).2), (((K).getD 11 (0, 0)).1, ((K).getD 11 (0, 0)).2), (((K).getD 12 (0, 0)).1, ((K).getD 12 (0, 0)).2), (((K).getD 13 (0, 0)).1, ((K).getD 13 (0, 0)).2), (((K).getD 14 (0, 0)).1, ((K).getD 14 (0, 0)).2), (((K).getD 15 (0, 0)).1, ((K).getD 15 (0, 0)).2)] 2).1 : Nat) : Int) = true := by rw [leB_iff]; omega
  have hb2 : leB (((stdK [(((U).getD 0 (0, 0)).1, ((U).getD 0 (0, 0)).2), (((U).getD 1 (0, 0)).1, ((U).getD 1 (0, 0)).2), (((U).getD 2 (0, 0)).1, ((U).getD 2 (0, 0)).2), (((U).getD 3 (0, 0)).1, ((U).getD 3 (0, 0)).2), (((U).getD 4 (0, 0)).1, ((U).getD 4 (0, 0)).2), (((U).getD 5 (0, 0)).1, ((U).getD 5 (0, 0)).2), (((U).getD 6 (0, 0)).1, ((U).getD 6 (0, 0)).2), (((U).getD 7 (0, 0)).1, ((U).getD 7 (0, 0)).2), (((U).getD 8 (0, 0)).1, ((U).getD 8 (0, 0)).2), (((U).getD 9 (0, 0)).1, ((U).getD 9 (0, 0)).2), (((U).getD 10 (0, 0)).1, ((U).getD 10 (0, 0)).2), (((U).getD 11 (0, 0)).1, ((U).getD 11 (0, 0)).2), (((U).getD 12 (0, 0)).1, ((U).getD 12 (0, 0)).2), (((U).getD 13 (0, 0)).1, ((U).getD 13 (0, 0)).2), (((U).getD 14 (0, 0)).1, ((U).getD 14 (0, 0)).2), (((U).getD 15 (0, 0)).1, ((U).getD 15 (0, 0)).2), (((S).getD 0 (0, 0)).1, ((S).getD 0 (0, 0)).2), (((S).getD 1 (0, 0)).1, ((S).getD 1 (0, 0)).2), (((S).getD 2 (0, 0)).1, ((S).getD 2 (0, 0)).2), (((S).getD 3 (0, 0)).1, ((S).getD 3 (0, 0)).2), (((S).getD 4 (0, 0)).1, ((S).getD 4 (0, 0)).2), (((S).getD 5 (0, 0)).1, ((S).getD 5 (0, 0)).2), (((S).getD 6 (0, 0)).1, ((S).getD 6 (0, 0)).2), (((S).getD 7 (0, 0)).1, ((S).getD 7 (0, 0)).2), (((S).getD 8 (0, 0)).1, ((S).getD 8 (0, 0)).2), (((S).getD 9 (0, 0)).1, ((S).getD 9 (0, 0)).2), (((S).getD 10 (0, 0)).1, ((S).getD 10 (0, 0)).2), (((S).getD 11 (0, 0)).1, ((S).getD 11 (0, 0)).2), (((S).getD 12 (0, 0)).1, ((S).getD 12 (0, 0)).2), (((S).getD 13 (0, 0)).1, ((S).getD 13 (0, 0)).2), (((S).getD 14 (0, 0)).1, ((S).getD 14 (0, 0)).2), (((S).getD 15 (0, 0)).1, ((S).getD 15 (0, 0)).2), (((K).getD 0 (0, 0)).1, ((K).getD 0 (0, 0)).2), (((K).getD 1 (0, 0)).1, ((K).getD 1 (0, 0)).2), (((K).getD 2 (0, 0)).1, ((K).getD 2 (0, 0)).2), (((K).getD 3 (0, 0)).1, ((K).getD 3 (0, 0)).2), (((K).getD 4 (0, 0)).1, ((K).getD 4 (0, 0)).2), (((K).getD 5 (0, 0)).1, ((K).getD 5 (0, 0)).2), (((K).getD 6 (0, 0)).1, ((K).getD 6 (0, 0)).2), (((K).getD 7 (0, 0)).1, ((K).getD 7 (0, 0)).2), (((K).getD 8 (0, 0)).1, ((K).getD 8 (0, 0)).2), (((K).getD 9 (0, 0)).1, ((K).getD 9 (0, 0)).2), (((K).getD 10 (0, 0)).1, ((K).getD 10 (0, 0)).2), (((K).getD 11 (0, 0)).1, ((K).getD 11 (0, 0)).2), (((K).getD 12 (0, 0)).1, ((K).getD 12 (0, 0)).2), (((K).getD 13 (0, 0)).1, ((K).getD 13 (0, 0)).2), (((K).getD 14 (0, 0)).1, ((K).getD 14 (0, 0)).2), (((K).getD 15 (0, 0)).1, ((K).getD 15 (0, 0)).2)] 2).1 : Nat) : Int) 3 = true := by rw [leB_iff]; omega
  refine wpS_of (c := ⟨tt, E4, 0⟩) mixed tts E4ok ?_
  cbv
  repeat' (refine Ob.mk ?_ ?_; (focus (first | exact rfl | exact ⟨hl3, hci⟩ | exact hl3 | (dsimp only [IE.val, NE.val]; rw [hS]; decide) | (dsimp only [IE.val, NE.val]; rw [hU]; decide) | (dsimp only [IE.val, NE.val]; rw [hK]; decide))); cbv)
  refine Br.t (eqz_t rfl) ?_
  cbv
  repeat' (refine Ob.mk ?_ ?_; (focus (first | with_reducible rfl | exact hb2 | exact rfl)); cbv)
  refine Br.t (eqz_t rfl) ?_
  cbv
  repeat' (refine Ob.mk ?_ ?_; (focus (first | with_reducible rfl | exact hb2 | exact rfl)); cbv)
  refine Br.t (hsm) ?_
  cbv
  repeat' (refine Ob.mk ?_ ?_; (focus (first | with_reducible rfl | exact hb2 | exact rfl)); cbv)
  refine Br.t (eqz_t rfl) ?_
  cbv
  repeat' (refine Ob.mk ?_ ?_; (focus (first | with_reducible rfl | exact hb2 | exact rfl)); cbv)
  refine Br.t (eqz_t rfl) ?_
  cbv
  repeat' (refine Ob.mk ?_ ?_; (focus (first | with_reducible rfl | exact hb2 | exact rfl)); cbv)
  refine Br.t (eqz_t rfl) ?_
  cbv
  repeat' (refine Ob.mk ?_ ?_; (focus (first | with_reducible rfl | exact hb2 | exact rfl)); cbv)
  refine Br.t (hst) ?_
  cbv
  repeat' (refine Ob.mk ?_ ?_; (focus (first | with_reducible rfl | exact hb2 | exact rfl)); cbv)
  refine Br.t (hb1) ?_
  cbv
  repeat' (refine Ob.mk ?_ ?_; (focus (first | with_reducible rfl | exact hb2 | exact rfl)); cbv)
end
section
set_option maxRecDepth 100000 in
set_option maxHeartbeats 8000000 in
theorem q3d  (hby : bytesOk []) (hby' : bytesOk []) {S U : List M} {cc ra rb : Nat} (hcc : 1 ≤ cc ∧ cc ≤ 3) (hra : ra < 801) (hrb : rb < 801) (hS : S.length = 16) (hU : U.length = 16) (kS : okS S = true) (kU : okS U = true) (hg : ∀ j, gridM (at2 U j)) :
    wpS Try.prog ⟨tt, E4, 0⟩ (cutR 18 (bodyOf Try.f4)) (finE tt Try.f4.results.toList 0 (.c (.b (.l true))) []) (fr 269 [(5, .c (.z .f32 (fun _ => q16 ra) (fun _ => q16 rb))), (6, .c (.i .i64 (.x fun _ => (cc : Int)))), (7, .c (.p 0 (.l 0))), (12, .c (.p 1 (.l 0)))]) ([some ⟨true, 0, .cx fun _ => S⟩, some ⟨true, 0, .cx fun _ => U⟩]) := by
  have hci : 0 ≤ (cc : Int) ∧ (cc : Int) ≤ 3 := by omega
  have hci4 : 0 ≤ (cc : Int) ∧ (cc : Int) < ((4 : Nat) : Int) := by omega
  have hdm : drawnM (q16 ra, q16 rb) := ⟨ra, rb, hra, hrb, rfl⟩
  have hMl : (moveS U cc (q16 ra, q16 rb)).length = 16 := by rw [moveS_len, hU]
  have hMok : okS (moveS U cc (q16 ra, q16 rb)) = true := there_ok kU hg hdm
  have hB : moveS (moveS U cc (q16 ra, q16 rb)) cc (minusM (0, 0) (q16 ra, q16 rb)) = U := there_back hU hg hdm
  have hE : forced [fun _ => (((U).getD 0 (0, 0)).1, ((U).getD 0 (0, 0)).2), fun _ => (((U).getD 1 (0, 0)).1, ((U).getD 1 (0, 0)).2), fun _ => (((U).getD 2 (0, 0)).1, ((U).getD 2 (0, 0)).2), fun _ => (((U).getD 3 (0, 0)).1, ((U).getD 3 (0, 0)).2), fun _ => (((U).getD 4 (0, 0)).1, ((U).getD 4 (0, 0)).2), fun _ => (((U).getD 5 (0, 0)).1, ((U).getD 5 (0, 0)).2), fun _ => (((U).getD 6 (0, 0)).1, ((U).getD 6 (0, 0)).2), fun _ => (((U).getD 7 (0, 0)).1, ((U).getD 7 (0, 0)).2), fun _ => (((U).getD 8 (0, 0)).1, ((U).getD 8 (0, 0)).2), fun _ => (((U).getD 9 (0, 0)).1, ((U).getD 9 (0, 0)).2), fun _ => (((U).getD 10 (0, 0)).1, ((U).getD 10 (0, 0)).2), fun _ => (((U).getD 11 (0, 0)).1, ((U).getD 11 (0, 0)).2), fun _ => (((U).getD 12 (0, 0)).1, ((U).getD 12 (0, 0)).2), fun _ => (((U).getD 13 (0, 0)).1, ((U).getD 13 (0, 0)).2), fun _ => (((U).getD 14 (0, 0)).1, ((U).getD 14 (0, 0)).2), fun _ => (((U).getD 15 (0, 0)).1, ((U).getD 15 (0, 0)).2)] = U := eta16 hU
  have hkU : okS (forced [fun _ => (((U).getD 0 (0, 0)).1, ((U).getD 0 (0, 0)).2), fun _ => (((U).getD 1 (0, 0)).1, ((U).getD 1 (0, 0)).2), fun _ => (((U).getD 2 (0, 0)).1, ((U).getD 2 (0, 0)).2), fun _ => (((U).getD 3 (0, 0)).1, ((U).getD 3 (0, 0)).2), fun _ => (((U).getD 4 (0, 0)).1, ((U).getD 4 (0, 0)).2), fun _ => (((U).getD 5 (0, 0)).1, ((U).getD 5 (0, 0)).2), fun _ => (((U).getD 6 (0, 0)).1, ((U).getD 6 (0, 0)).2), fun _ => (((U).getD 7 (0, 0)).1, ((U).getD 7 (0, 0)).2), fun _ => (((U).getD 8 (0, 0)).1, ((U).getD 8 (0, 0)).2), fun _ => (((U).getD 9 (0, 0)).1, ((U).getD 9 (0, 0)).2), fun _ => (((U).getD 10 (0, 0)).1, ((U).getD 10 (0, 0)).2), fun _ => (((U).getD 11 (0, 0)).1, ((U).getD 11 (0, 0)).2), fun _ => (((U).getD 12 (0, 0)).1, ((U).getD 12 (0, 0)).2), fun _ => (((U).getD 13 (0, 0)).1, ((U).getD 13 (0, 0)).2), fun _ => (((U).getD 14 (0, 0)).1, ((U).getD 14 (0, 0)).2), fun _ => (((U).getD 15 (0, 0)).1, ((U).getD 15 (0, 0)).2)]) = true := by rw [hE]; exact kU
  have hs0 := (there (hg (0 + cc * 4)) hdm).2.2
  have hs1 := (there (hg (0 + cc * 4 + 1)) hdm).2.2
  have hs2 := (there (hg (0 + cc * 4 + 2)) hdm).2.2
  have hs3 := (there (hg (0 + cc * 4 + 3)) hdm).2.2
  refine wpS_cut (c := ⟨tt, E4, 0⟩) mixed tts E4ok 4 (fun _ => fr 269 [(6, .c (.i .i64 (.x fun _ => (cc : Int)))), (7, .c (.p 0 (.l 0))), (12, .c (.p 1 (.l 0))), (25, .c (.p 3 (.l 0)))]) (fun _ => [some ⟨true, 0, .cx fun _ => S⟩, some ⟨true, 0, .cx fun _ => U⟩, none, some ⟨true, 0, .cx fun _ => moveS U cc (q16 ra, q16 rb)⟩]) (fun _ => True) (by rfl) ?_ (fun _ => by rw [cut_18_4]; exact q4d  hcc hS hU hMl kS kU hMok)
  cbv
  repeat' (refine Ob.mk ?_ ?_; (focus ((try dsimp only [IE.val, NE.val, BE.val]); first | with_reducible rfl | exact ⟨rfl, hkU, hci⟩ | exact rfl | (rw [hU]; decide) | (rw [hS]; decide))); cbv)
  dsimp only [IE.val, NE.val, BE.val]
  simp only [hE, Int.toNat_natCast]
  generalize moveS U cc (q16 ra, q16 rb) = M at *
  have hR : resS M = M := resS_t hMok
  have hC : (if okS M = true then (0 : Int) else 4) = 0 := if_pos hMok
  have hEM : forced [fun _ => (((M).getD 0 (0, 0)).1, ((M).getD 0 (0, 0)).2), fun _ => (((M).getD 1 (0, 0)).1, ((M).getD 1 (0, 0)).2), fun _ => (((M).getD 2 (0, 0)).1, ((M).getD 2 (0, 0)).2), fun _ => (((M).getD 3 (0, 0)).1, ((M).getD 3 (0, 0)).2), fun _ => (((M).getD 4 (0, 0)).1, ((M).getD 4 (0, 0)).2), fun _ => (((M).getD 5 (0, 0)).1, ((M).getD 5 (0, 0)).2), fun _ => (((M).getD 6 (0, 0)).1, ((M).getD 6 (0, 0)).2), fun _ => (((M).getD 7 (0, 0)).1, ((M).getD 7 (0, 0)).2), fun _ => (((M).getD 8 (0, 0)).1, ((M).getD 8 (0, 0)).2), fun _ => (((M).getD 9 (0, 0)).1, ((M).getD 9 (0, 0)).2), fun _ => (((M).getD 10 (0, 0)).1, ((M).getD 10 (0, 0)).2), fun _ => (((M).getD 11 (0, 0)).1, ((M).getD 11 (0, 0)).2), fun _ => (((M).getD 12 (0, 0)).1, ((M).getD 12 (0, 0)).2), fun _ => (((M).getD 13 (0, 0)).1, ((M).getD 13 (0, 0)).2), fun _ => (((M).getD 14 (0, 0)).1, ((M).getD 14 (0, 0)).2), fun _ => (((M).getD 15 (0, 0)).1, ((M).getD 15 (0, 0)).2)] = M := eta16 hMl
  simp only [hR, hC]
  refine Br.f (ne_ffI rfl) ?_
  cbv
  refine Br.f (ne_ffI rfl) ?_
  cbv
  repeat' (refine Ob.mk ?_ ?_; (focus ((try dsimp only [IE.val, NE.val, BE.val]); first | with_reducible rfl | exact ⟨rfl, hkU, hci⟩ | exact rfl | (rw [hU]; decide) | (rw [hS]; decide))); cbv)
  refine Br.f (ntf (sameSh_self _)) ?_
  cbv
  have hkM : okS (forced [fun _ => (((M).getD 0 (0, 0)).1, ((M).getD 0 (0, 0)).2), fun _ => (((M).getD 1 (0, 0)).1, ((M).getD 1 (0, 0)).2), fun _ => (((M).getD 2 (0, 0)).1, ((M).getD 2 (0, 0)).2), fun _ => (((M).getD 3 (0, 0)).1, ((M).getD 3 (0, 0)).2), fun _ => (((M).getD 4 (0, 0)).1, ((M).getD 4 (0, 0)).2), fun _ => (((M).getD 5 (0, 0)).1, ((M).getD 5 (0, 0)).2), fun _ => (((M).getD 6 (0, 0)).1, ((M).getD 6 (0, 0)).2), fun _ => (((M).getD 7 (0, 0)).1, ((M).getD 7 (0, 0)).2), fun _ => (((M).getD 8 (0, 0)).1, ((M).getD 8 (0, 0)).2), fun _ => (((M).getD 9 (0, 0)).1, ((M).getD 9 (0, 0)).2), fun _ => (((M).getD 10 (0, 0)).1, ((M).getD 10 (0, 0)).2), fun _ => (((M).getD 11 (0, 0)).1, ((M).getD 11 (0, 0)).2), fun _ => (((M).getD 12 (0, 0)).1, ((M).getD 12 (0, 0)).2), fun _ => (((M).getD 13 (0, 0)).1, ((M).getD 13 (0, 0)).2), fun _ => (((M).getD 14 (0, 0)).1, ((M).getD 14 (0, 0)).2), fun _ => (((M).getD 15 (0, 0)).1, ((M).getD 15 (0, 0)).2)]) = true := by rw [hEM]; exact hMok
  have hB2 : moveS M cc ((minusM (0, 0) (q16 ra, q16 rb)).1, (minusM (0, 0) (q16 ra, q16 rb)).2) = U := hB
  have hRU : resS U = U := resS_t kU
  have hCU : (if okS U = true then (0 : Int) else 4) = 0 := if_pos kU
  have hEU : [(((U).getD 0 (0, 0)).1, ((U).getD 0 (0, 0)).2), (((U).getD 1 (0, 0)).1, ((U).getD 1 (0, 0)).2), (((U).getD 2 (0, 0)).1, ((U).getD 2 (0, 0)).2), (((U).getD 3 (0, 0)).1, ((U).getD 3 (0, 0)).2), (((U).getD 4 (0, 0)).1, ((U).getD 4 (0, 0)).2), (((U).getD 5 (0, 0)).1, ((U).getD 5 (0, 0)).2), (((U).getD 6 (0, 0)).1, ((U).getD 6 (0, 0)).2), (((U).getD 7 (0, 0)).1, ((U).getD 7 (0, 0)).2), (((U).getD 8 (0, 0)).1, ((U).getD 8 (0, 0)).2), (((U).getD 9 (0, 0)).1, ((U).getD 9 (0, 0)).2), (((U).getD 10 (0, 0)).1, ((U).getD 10 (0, 0)).2), (((U).getD 11 (0, 0)).1, ((U).getD 11 (0, 0)).2), (((U).getD 12 (0, 0)).1, ((U).getD 12 (0, 0)).2), (((U).getD 13 (0, 0)).1, ((U).getD 13 (0, 0)).2), (((U).getD 14 (0, 0)).1, ((U).getD 14 (0, 0)).2), (((U).getD 15 (0, 0)).1, ((U).getD 15 (0, 0)).2)] = U := eta16 hU
  have hi0 : 0 + cc * 4 < 16 := by omega
  have hi1 : 0 + cc * 4 + 1 < 16 := by omega
  have hi2 : 0 + cc * 4 + 2 < 16 := by omega
  have hi3 : 0 + cc * 4 + 3 < 16 := by omega
  obtain ⟨u00, u01⟩ := hs0
  obtain ⟨u10, u11⟩ := hs1
  obtain ⟨u20, u21⟩ := hs2
  obtain ⟨u30, u31⟩ := hs3
  refine Lex.pull [0, 1, 2, 3, 4, 5, 6] (by decide +kernel) ?_
  cbv
  repeat' first
    | (refine Ob.mk ?_ ?_; (focus ((try dsimp only [IE.val, NE.val, BE.val]); first | with_reducible rfl | exact ⟨rfl, hkM, hci⟩ | exact rfl | (rw [hMl]; decide))); cbv)
    | (refine Both.mk ?_ ?_ <;> cbv)
  all_goals (refine Lex.mk (by decide +kernel) ?_; cbv)
  all_goals (dsimp only [IE.val, NE.val, BE.val]; simp only [hEM, Int.toNat_natCast]; simp only [hB2]; simp only [hRU, hCU])
  all_goals (refine Br.f (ne_ffI rfl) ?_; cbv)
  all_goals repeat' (refine Ob.mk ?_ ?_; (focus ((try dsimp only [IE.val, NE.val, IE.nat, forced, List.length_cons, List.length_nil]); first | exact hci4 | (rw [hU]; first | exact hi0 | exact hi1 | exact hi2 | exact hi3) | exact hi0 | exact hi1 | exact hi2 | exact hi3 | with_reducible rfl | (simp only [Int.toNat_natCast, hU]; first | exact hi0 | exact hi1 | exact hi2 | exact hi3 | omega))); cbv)
  all_goals (dsimp only [IE.val, NE.val, BE.val]; simp only [hE, Int.toNat_natCast])
  all_goals (refine Br.f (by simp only [u00, u01, u10, u11, u20, u21, u30, u31, Bool.and_self, Bool.not_true]) ?_; cbv)
  all_goals repeat' first
    | (refine CutG.mk trivial ?_; cbv)
    | (refine Ob.mk ?_ ?_; (focus (first | with_reducible rfl | exact hEM | exact rfl)); cbv)
end
section
attribute [local irreducible] fitR adjS anyM tuM shL
set_option maxRecDepth 100000 in
set_option maxHeartbeats 8000000 in
theorem q2d  (hby : bytesOk []) (hby' : bytesOk []) {S : List M} {cc ra rb : Nat} (hcc : 1 ≤ cc ∧ cc ≤ 3) (hra : ra < 801) (hrb : rb < 801) (hS : S.length = 16) (kS : okS S = true) :
    wpS Try.prog ⟨tt, E4, 0⟩ (cutR 8 (bodyOf Try.f4)) (finE tt Try.f4.results.toList 0 (.c (.b (.l true))) []) (fr 269 [(0, .c .sn), (1, .c .sn), (5, .c (.z .f32 (fun _ => q16 ra) (fun _ => q16 rb))), (6, .c (.i .i64 (.x fun _ => (cc : Int)))), (7, .c (.p 0 (.l 0)))]) ([some ⟨true, 0, .cx fun _ => S⟩]) := by
  have hci : 0 ≤ (cc : Int) ∧ (cc : Int) ≤ 3 := by omega
  have kU := shL_ok hby (0, 0)
  have hU := shL_len [] (0, 0)
  have hg := shL_grid hby (0, 0)
  have hE : forced [fun _ => (((shL [] (0, 0)).getD 0 (0, 0)).1, ((shL [] (0, 0)).getD 0 (0, 0)).2), fun _ => (((shL [] (0, 0)).getD 1 (0, 0)).1, ((shL [] (0, 0)).getD 1 (0, 0)).2), fun _ => (((shL [] (0, 0)).getD 2 (0, 0)).1, ((shL [] (0, 0)).getD 2 (0, 0)).2), fun _ => (((shL [] (0, 0)).getD 3 (0, 0)).1, ((shL [] (0, 0)).getD 3 (0, 0)).2), fun _ => (((shL [] (0, 0)).getD 4 (0, 0)).1, ((shL [] (0, 0)).getD 4 (0, 0)).2), fun _ => (((shL [] (0, 0)).getD 5 (0, 0)).1, ((shL [] (0, 0)).getD 5 (0, 0)).2), fun _ => (((shL [] (0, 0)).getD 6 (0, 0)).1, ((shL [] (0, 0)).getD 6 (0, 0)).2), fun _ => (((shL [] (0, 0)).getD 7 (0, 0)).1, ((shL [] (0, 0)).getD 7 (0, 0)).2), fun _ => (((shL [] (0, 0)).getD 8 (0, 0)).1, ((shL [] (0, 0)).getD 8 (0, 0)).2), fun _ => (((shL [] (0, 0)).getD 9 (0, 0)).1, ((shL [] (0, 0)).getD 9 (0, 0)).2), fun _ => (((shL [] (0, 0)).getD 10 (0, 0)).1, ((shL [] (0, 0)).getD 10 (0, 0)).2), fun _ => (((shL [] (0, 0)).getD 11 (0, 0)).1, ((shL [] (0, 0)).getD 11 (0, 0)).2), fun _ => (((shL [] (0, 0)).getD 12 (0, 0)).1, ((shL [] (0, 0)).getD 12 (0, 0)).2), fun _ => (((shL [] (0, 0)).getD 13 (0, 0)).1, ((shL [] (0, 0)).getD 13 (0, 0)).2), fun _ => (((shL [] (0, 0)).getD 14 (0, 0)).1, ((shL [] (0, 0)).getD 14 (0, 0)).2), fun _ => (((shL [] (0, 0)).getD 15 (0, 0)).1, ((shL [] (0, 0)).getD 15 (0, 0)).2)] = shL [] (0, 0) := eta16 hU
  have hkU : okS (forced [fun _ => (((shL [] (0, 0)).getD 0 (0, 0)).1, ((shL [] (0, 0)).getD 0 (0, 0)).2), fun _ => (((shL [] (0, 0)).getD 1 (0, 0)).1, ((shL [] (0, 0)).getD 1 (0, 0)).2), fun _ => (((shL [] (0, 0)).getD 2 (0, 0)).1, ((shL [] (0, 0)).getD 2 (0, 0)).2), fun _ => (((shL [] (0, 0)).getD 3 (0, 0)).1, ((shL [] (0, 0)).getD 3 (0, 0)).2), fun _ => (((shL [] (0, 0)).getD 4 (0, 0)).1, ((shL [] (0, 0)).getD 4 (0, 0)).2), fun _ => (((shL [] (0, 0)).getD 5 (0, 0)).1, ((shL [] (0, 0)).getD 5 (0, 0)).2), fun _ => (((shL [] (0, 0)).getD 6 (0, 0)).1, ((shL [] (0, 0)).getD 6 (0, 0)).2), fun _ => (((shL [] (0, 0)).getD 7 (0, 0)).1, ((shL [] (0, 0)).getD 7 (0, 0)).2), fun _ => (((shL [] (0, 0)).getD 8 (0, 0)).1, ((shL [] (0, 0)).getD 8 (0, 0)).2), fun _ => (((shL [] (0, 0)).getD 9 (0, 0)).1, ((shL [] (0, 0)).getD 9 (0, 0)).2), fun _ => (((shL [] (0, 0)).getD 10 (0, 0)).1, ((shL [] (0, 0)).getD 10 (0, 0)).2), fun _ => (((shL [] (0, 0)).getD 11 (0, 0)).1, ((shL [] (0, 0)).getD 11 (0, 0)).2), fun _ => (((shL [] (0, 0)).getD 12 (0, 0)).1, ((shL [] (0, 0)).getD 12 (0, 0)).2), fun _ => (((shL [] (0, 0)).getD 13 (0, 0)).1, ((shL [] (0, 0)).getD 13 (0, 0)).2), fun _ => (((shL [] (0, 0)).getD 14 (0, 0)).1, ((shL [] (0, 0)).getD 14 (0, 0)).2), fun _ => (((shL [] (0, 0)).getD 15 (0, 0)).1, ((shL [] (0, 0)).getD 15 (0, 0)).2)]) = true := by rw [hE]; exact kU
  refine wpS_cut (c := ⟨tt, E4, 0⟩) mixed tts E4ok 9 (fun _ => fr 269 [(5, .c (.z .f32 (fun _ => q16 ra) (fun _ => q16 rb))), (6, .c (.i .i64 (.x fun _ => (cc : Int)))), (7, .c (.p 0 (.l 0))), (12, .c (.p 1 (.l 0)))]) (fun _ => [some ⟨true, 0, .cx fun _ => S⟩, some ⟨true, 0, .cx fun _ => shL [] (0, 0)⟩]) (fun _ => True) (by rfl) ?_ (fun _ => by rw [cut_8_9]; exact q3d  hby hby' hcc hra hrb hS hU kS kU hg)
  cbv
  repeat' (refine Ob.mk ?_ ?_; (focus ((try dsimp only [IE.val, NE.val, BE.val]); first | with_reducible rfl | exact True.intro | exact ⟨rfl, hkU, hci⟩ | exact rfl)); cbv)
  refine Br.f (ne_ffI rfl) ?_
  cbv
  repeat' (refine Ob.mk ?_ ?_; (focus ((try dsimp only [IE.val, NE.val, BE.val]); first | with_reducible rfl | exact True.intro | exact ⟨rfl, hkU, hci⟩ | exact rfl)); cbv)
  refine Br.f (ntf (by rw [sameM_self, sameM_self]; rfl)) ?_
  cbv
  repeat' (refine Ob.mk ?_ ?_; (focus ((try dsimp only [IE.val, NE.val, BE.val]); first | with_reducible rfl | exact True.intro | exact ⟨rfl, hkU, hci⟩ | exact rfl)); cbv)
  refine Lex.mk (by decide +kernel) ?_
  cbv
  repeat' (refine Ob.mk ?_ ?_; (focus ((try dsimp only [IE.val, NE.val, BE.val]); first | with_reducible rfl | exact True.intro | exact ⟨rfl, hkU, hci⟩ | exact rfl)); cbv)
  refine Br.f (ntf (sameM_self _)) ?_
  cbv
  repeat' (refine Ob.mk ?_ ?_; (focus ((try dsimp only [IE.val, NE.val, BE.val]); first | with_reducible rfl | exact True.intro | exact ⟨rfl, hkU, hci⟩ | exact rfl)); cbv)
  refine Br.f (ne_ffI rfl) ?_
  cbv
  repeat' (refine Ob.mk ?_ ?_; (focus ((try dsimp only [IE.val, NE.val, BE.val]); first | with_reducible rfl | exact True.intro | exact ⟨rfl, hkU, hci⟩ | exact rfl)); cbv)
  refine Br.f (ntf (sameSh_self _)) ?_
  cbv
  refine CutG.mk trivial ?_
  cbv
  repeat' (refine Ob.mk ?_ ?_; (focus (first | with_reducible rfl | exact hE | exact rfl)); cbv)
end
section
attribute [local irreducible] fitR adjS
def sLaw4d : Spec := hspec fun args H => match args, H with
  | [.c .sn, .c .sn], [] => some (.c (.b (.l true)), [], [])
  | _, _ => none
set_option maxRecDepth 100000 in
set_option maxHeartbeats 8000000 in
theorem ok4d : Ok Try.prog 4 (sLaw4d) := ok_of_wpSH (E := E4) tts fn4 fun args H v H' o hs ho => by
  split at hs
  · cases hs
    have hby := bytes_nil
    have hby' := bytes_nil
    obtain ⟨ra, rb, hra, hrb, hm⟩ := dm_drawn hby' (0, 0)
    obtain ⟨rc, hrc, hc0⟩ := pk_nat hby (k := 3) (by decide) (0, 0)
    have hc0 : pkV [] 3 (0, 0) = (rc : Int) := hc0
    have hcc : 1 ≤ 1 + rc ∧ 1 + rc ≤ 3 := by omega
    have hcw : IntKind.wrap .i64 (1 + pkV [] 3 (0, 0)) = ((1 + rc : Nat) : Int) := by rw [hc0, wrap64 (by omega) (by omega)]; omega
    have hdm : drawnM (q16 ra, q16 rb) := ⟨ra, rb, hra, hrb, rfl⟩
    have hmok := ok_moved hcc hdm
    have hml : (movedS (1 + rc) (q16 ra, q16 rb)).length = 16 := by unfold movedS; rw [moveS_len]; rfl
    have hE : forced [fun _ => (((movedS (1 + rc) (q16 ra, q16 rb)).getD 0 (0, 0)).1, ((movedS (1 + rc) (q16 ra, q16 rb)).getD 0 (0, 0)).2), fun _ => (((movedS (1 + rc) (q16 ra, q16 rb)).getD 1 (0, 0)).1, ((movedS (1 + rc) (q16 ra, q16 rb)).getD 1 (0, 0)).2), fun _ => (((movedS (1 + rc) (q16 ra, q16 rb)).getD 2 (0, 0)).1, ((movedS (1 + rc) (q16 ra, q16 rb)).getD 2 (0, 0)).2), fun _ => (((movedS (1 + rc) (q16 ra, q16 rb)).getD 3 (0, 0)).1, ((movedS (1 + rc) (q16 ra, q16 rb)).getD 3 (0, 0)).2), fun _ => (((movedS (1 + rc) (q16 ra, q16 rb)).getD 4 (0, 0)).1, ((movedS (1 + rc) (q16 ra, q16 rb)).getD 4 (0, 0)).2), fun _ => (((movedS (1 + rc) (q16 ra, q16 rb)).getD 5 (0, 0)).1, ((movedS (1 + rc) (q16 ra, q16 rb)).getD 5 (0, 0)).2), fun _ => (((movedS (1 + rc) (q16 ra, q16 rb)).getD 6 (0, 0)).1, ((movedS (1 + rc) (q16 ra, q16 rb)).getD 6 (0, 0)).2), fun _ => (((movedS (1 + rc) (q16 ra, q16 rb)).getD 7 (0, 0)).1, ((movedS (1 + rc) (q16 ra, q16 rb)).getD 7 (0, 0)).2), fun _ => (((movedS (1 + rc) (q16 ra, q16 rb)).getD 8 (0, 0)).1, ((movedS (1 + rc) (q16 ra, q16 rb)).getD 8 (0, 0)).2), fun _ => (((movedS (1 + rc) (q16 ra, q16 rb)).getD 9 (0, 0)).1, ((movedS (1 + rc) (q16 ra, q16 rb)).getD 9 (0, 0)).2), fun _ => (((movedS (1 + rc) (q16 ra, q16 rb)).getD 10 (0, 0)).1, ((movedS (1 + rc) (q16 ra, q16 rb)).getD 10 (0, 0)).2), fun _ => (((movedS (1 + rc) (q16 ra, q16 rb)).getD 11 (0, 0)).1, ((movedS (1 + rc) (q16 ra, q16 rb)).getD 11 (0, 0)).2), fun _ => (((movedS (1 + rc) (q16 ra, q16 rb)).getD 12 (0, 0)).1, ((movedS (1 + rc) (q16 ra, q16 rb)).getD 12 (0, 0)).2), fun _ => (((movedS (1 + rc) (q16 ra, q16 rb)).getD 13 (0, 0)).1, ((movedS (1 + rc) (q16 ra, q16 rb)).getD 13 (0, 0)).2), fun _ => (((movedS (1 + rc) (q16 ra, q16 rb)).getD 14 (0, 0)).1, ((movedS (1 + rc) (q16 ra, q16 rb)).getD 14 (0, 0)).2), fun _ => (((movedS (1 + rc) (q16 ra, q16 rb)).getD 15 (0, 0)).1, ((movedS (1 + rc) (q16 ra, q16 rb)).getD 15 (0, 0)).2)] = movedS (1 + rc) (q16 ra, q16 rb) := eta16 hml
    have hfit := fit_moved hcc hra hrb
    have hback := adj_back hcc hra hrb
    have hRB : resS baseS = baseS := resS_t ok_base
    have hCB : (if okS baseS = true then (0 : Int) else 4) = 0 := if_pos ok_base
    have o1 := sums.2.2.2.2.1
    have o2 := sums.2.2.2.2.2
    have v1 : fcmp .eql .f32 (ngX ra) (minusM (0, 0) (q16 ra, q16 rb)).1 = true := (ng_of hra).2
    have v2 : fcmp .eql .f32 (ngX rb) (minusM (0, 0) (q16 ra, q16 rb)).2 = true := (ng_of hrb).2
    obtain ⟨b0, b1, b2, b3⟩ := base_at hrc
    obtain ⟨m0, m1, m2, m3⟩ := moved_at hrc (q16 ra, q16 rb)
    obtain ⟨c00, c01⟩ := cnr_self 0 (by decide)
    obtain ⟨c10, c11⟩ := cnr_self 1 (by decide)
    obtain ⟨c20, c21⟩ := cnr_self 2 (by decide)
    obtain ⟨c30, c31⟩ := cnr_self 3 (by decide)
    have d0 : baseS.getD 0 (0, 0) = cnr 0 := rfl
    have d1 : baseS.getD 1 (0, 0) = cnr 1 := rfl
    have d2 : baseS.getD 2 (0, 0) = cnr 2 := rfl
    have d3 : baseS.getD 3 (0, 0) = cnr 3 := rfl
    have hci : 0 ≤ ((1 + rc : Nat) : Int) ∧ ((1 + rc : Nat) : Int) ≤ 3 := by omega
    have hci4 : 0 ≤ ((1 + rc : Nat) : Int) ∧ ((1 + rc : Nat) : Int) < ((4 : Nat) : Int) := by omega
    refine ⟨_, HLe.refl _, wpS_cut (c := ⟨tt, E4, 0⟩) mixed tts E4ok 8 (fun _ => fr 269 [(0, .c .sn), (1, .c .sn), (5, .c (.z .f32 (fun _ => q16 ra) (fun _ => q16 rb))), (6, .c (.i .i64 (.x fun _ => ((1 + rc : Nat) : Int)))), (7, .c (.p 0 (.l 0)))]) (fun _ => [some ⟨true, 0, .cx fun _ => movedS (1 + rc) (q16 ra, q16 rb)⟩]) (fun _ => True) (by rfl) ?_ (fun hP => q2d hby hby' hcc hra hrb hml hmok)⟩
    cbv
    repeat' (refine Ob.mk ?_ ?_; (focus ((try dsimp only [IE.val, NE.val, BE.val]); first | exact True.intro | (rw [hcw]; exact hci))); cbv)
    dsimp only [IE.val, NE.val, BE.val]
    try simp only [hcw, hm]
    try simp only [Int.toNat_natCast, hE]
    repeat' (refine Ob.mk ?_ ?_; (focus ((try dsimp only [IE.val, NE.val, BE.val]); first | exact ⟨rfl, hmok, hci⟩)); cbv)
    dsimp only [IE.val, NE.val, BE.val]
    try simp only [Int.toNat_natCast, hE, hfit]
    refine Lex.mk (by decide +kernel) ?_
    cbv
    refine Br.f (ne_ffI rfl) ?_
    cbv
    repeat' (refine Ob.mk ?_ ?_; (focus ((try dsimp only [IE.val, NE.val, BE.val]); first | with_reducible rfl | exact rfl)); cbv)
    dsimp only [IE.val, NE.val, BE.val]
    refine Br.f (by simp only [o1, o2, Bool.and_self, Bool.not_true]) ?_
    cbv
    repeat' (refine Ob.mk ?_ ?_; (focus ((try dsimp only [IE.val, NE.val, BE.val]); first | with_reducible rfl | exact rfl)); cbv)
    dsimp only [IE.val, NE.val, BE.val]
    refine Br.f (by simp only [v1, v2, Bool.and_self, Bool.not_true]) ?_
    cbv
    repeat' (refine Ob.mk ?_ ?_; (focus ((try dsimp only [IE.val, NE.val, BE.val]); first | exact ⟨rfl, hmok, hci⟩ | (rw [hE]; exact ⟨rfl, hmok, hci⟩) | exact ⟨rfl, (by rw [hE]; exact hmok), hci⟩)); cbv)
    dsimp only [IE.val, NE.val, BE.val]
    try simp only [Int.toNat_natCast, hE, hback, hRB, hCB]
    refine Lex.mk (by decide +kernel) ?_
    cbv
    refine Br.f (ne_ffI rfl) ?_
    cbv
    repeat' (refine Ob.mk ?_ ?_; (focus (first | exact hci4 | with_reducible rfl | exact rfl | (dsimp only [IE.val, NE.val, IE.nat, forced, List.length_cons, List.length_nil, Int.toNat_natCast]; omega))); cbv)
    dsimp only [IE.val, NE.val, BE.val, IE.nat, forced, Int.toNat_natCast]
    simp only [eta_base]
    refine Br.f (by simp only [b0, b1, b2, b3, m0, m1, m2, m3, c00, c01, c10, c11, c20, c21, c30, c31, Bool.and_self, Bool.not_true]) ?_
    cbv
    repeat' (refine Ob.mk ?_ ?_; (focus (first | exact hci4 | with_reducible rfl | exact rfl)); cbv)
    dsimp only [IE.val, NE.val, BE.val, IE.nat, forced, Int.toNat_natCast]
    refine Br.f (by simp only [d0, d1, d2, d3, m0, m1, m2, m3, c00, c01, c10, c11, c20, c21, c30, c31, Bool.and_self, Bool.not_true]) ?_
    cbv
    refine CutG.mk (trivial) ?_
    cbv
    repeat' (refine Ob.mk ?_ ?_; (focus (first | with_reducible rfl | exact hE | exact rfl)); cbv)
  · cases hs
end
end Go.Proofs.Ytanndlifpojenaa.Sh
