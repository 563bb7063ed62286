/- Webs of at most four spans that are read. No condition. -/
import Derived.Test.YteifneielgnniaaGreatDoorVe
set_option linter.unusedVariables false
set_option linter.unusedSimpArgs false
set_option linter.unusedSectionVars false
section
namespace Go.Proofs.YteifneielgnniaaGreatDoor.Sh
open Go Go.Proofs
attribute [local irreducible] wds tx rn rnC rnOk nrOk wAt n3 webOk spL tl nl wOk numsOf rwOk
def E9T2 : Env := fun g => envGetL [(56, ⟨true, sLT2 (fun t => t.size ≤ 243 ∧ nl t = 2 ∧ gdTo t 2 = true), none⟩), (12, ⟨true, s12, none⟩)] g
set_option maxRecDepth 100000 in
set_option maxHeartbeats 8000000 in
theorem ok9T2 : Ok Tryz.prog 8 (sRT fun t => t.size ≤ 243 ∧ nl t = 2 ∧ gdTo t 2 = true ∧ tl t = true ∧ wOk t = true) := ok_of_wpaH (E := E9T2) mixed tts (envOk_cons ok21K2 (envOk_cons ok12 (envOk_nil _))) fn8 fun args H v H' o hs ho => by
  split at hs
  · rename_i t
    cases hs
    have hsz : (t ⟨⟩).size ≤ 1048576 := ho.two.2
    have h1 := ho.two.1
    have hn : nl (t ⟨⟩) = 2 := h1.2.1
    have hg : gdTo (t ⟨⟩) 2 = true := h1.2.2.1
    have ht : tl (t ⟨⟩) = true := h1.2.2.2.1
    have h21 : ((t ⟨⟩).size ≤ 243 ∧ nl (t ⟨⟩) = 2 ∧ gdTo (t ⟨⟩) 2 = true) ∧ (t ⟨⟩).size ≤ 1048576 ∧ (3 : Int) = 3 ∧ (9 : Int) = 9 := ⟨⟨h1.1, h1.2.1, h1.2.2.1⟩, hsz, rfl, rfl⟩
    have hb : (!(tl (t ⟨⟩))) = false := ntf ht
    have gg0 : nrOk 3 (ln (t ⟨⟩) 0) = true := show gd (t ⟨⟩) 0 = true from allI_at hg (by omega)
    have l0 : (numsOf (ln (t ⟨⟩) 0)).length = 3 := by rw [nums_l, nr_num gg0]
    have y0a : 0 < (numsOf (ln (t ⟨⟩) 0)).length := by rw [l0]; decide
    have p0a : (numsOf (ln (t ⟨⟩) 0)).getD 0 0 = n3 (ln (t ⟨⟩) 0) 0 := nums_n3 (by rw [nr_num gg0]; decide)
    have y0b : 1 < (numsOf (ln (t ⟨⟩) 0)).length := by rw [l0]; decide
    have p0b : (numsOf (ln (t ⟨⟩) 0)).getD 1 0 = n3 (ln (t ⟨⟩) 0) 1 := nums_n3 (by rw [nr_num gg0]; decide)
    have y0c : 2 < (numsOf (ln (t ⟨⟩) 0)).length := by rw [l0]; decide
    have p0c : (numsOf (ln (t ⟨⟩) 0)).getD 2 0 = n3 (ln (t ⟨⟩) 0) 2 := nums_n3 (by rw [nr_num gg0]; decide)
    have gg1 : nrOk 3 (ln (t ⟨⟩) 1) = true := show gd (t ⟨⟩) 1 = true from allI_at hg (by omega)
    have l1 : (numsOf (ln (t ⟨⟩) 1)).length = 3 := by rw [nums_l, nr_num gg1]
    have y1a : 0 < (numsOf (ln (t ⟨⟩) 1)).length := by rw [l1]; decide
    have p1a : (numsOf (ln (t ⟨⟩) 1)).getD 0 0 = n3 (ln (t ⟨⟩) 1) 0 := nums_n3 (by rw [nr_num gg1]; decide)
    have y1b : 1 < (numsOf (ln (t ⟨⟩) 1)).length := by rw [l1]; decide
    have p1b : (numsOf (ln (t ⟨⟩) 1)).getD 1 0 = n3 (ln (t ⟨⟩) 1) 1 := nums_n3 (by rw [nr_num gg1]; decide)
    have y1c : 2 < (numsOf (ln (t ⟨⟩) 1)).length := by rw [l1]; decide
    have p1c : (numsOf (ln (t ⟨⟩) 1)).getD 2 0 = n3 (ln (t ⟨⟩) 1) 2 := nums_n3 (by rw [nr_num gg1]; decide)
    have hL : spL (t ⟨⟩) = [n3 (ln (t ⟨⟩) 1) 0, n3 (ln (t ⟨⟩) 1) 1, n3 (ln (t ⟨⟩) 1) 2] := by unfold spL; rw [hn]; rfl
    have hS : [(numsOf (ln (t ⟨⟩) 1)).getD 0 0, (numsOf (ln (t ⟨⟩) 1)).getD 1 0, (numsOf (ln (t ⟨⟩) 1)).getD 2 0] = spL (t ⟨⟩) := by rw [hL, p1a, p1b, p1c]
    have hnn : 1 = nl (t ⟨⟩) - 1 := by omega
    have hW : webOk ((numsOf (ln (t ⟨⟩) 0)).getD 0 0) ((numsOf (ln (t ⟨⟩) 0)).getD 1 0) ((numsOf (ln (t ⟨⟩) 0)).getD 2 0) [(numsOf (ln (t ⟨⟩) 1)).getD 0 0, (numsOf (ln (t ⟨⟩) 1)).getD 1 0, (numsOf (ln (t ⟨⟩) 1)).getD 2 0] 1 = wOk (t ⟨⟩) := by unfold wOk; rw [hS, p0a, p0b, p0c]; exact congrArg (webOk _ _ _ _) hnn
    have hw2 := congrArg not (hW.trans h1.2.2.2.2)
    refine ⟨_, HLe.refl _, ?_⟩
    cbv
    repeat' first | (refine Ob.mk ?_ ?_; (focus (first | exact h21 | exact y0a | exact y0b | exact y0c | exact y1a | exact y1b | exact y1c | exact p0a | exact p0b | exact p0c | exact hS | exact hnn | exact ⟨rfl, rfl, by decide⟩ | exact ⟨by decide, by decide⟩ | exact ⟨by decide, by decide, by decide⟩ | exact rfl)); cbv) | (refine Br.f hb ?_; cbv) | (refine Br.f hw2 ?_; cbv)
    (first | (refine Lex.tail 16 (by decide +kernel) ?_; cbv) | (refine Lex.pull [0, 1, 2, 3, 4, 5, 6, 7, 8, 9, 10, 11, 12, 13, 14, 15] (by decide +kernel) ?_; cbv))
    repeat' first | (refine Ob.mk ?_ ?_; (focus (first | exact h21 | exact y0a | exact y0b | exact y0c | exact y1a | exact y1b | exact y1c | exact p0a | exact p0b | exact p0c | exact hS | exact hnn | exact ⟨rfl, rfl, by decide⟩ | exact ⟨by decide, by decide⟩ | exact ⟨by decide, by decide, by decide⟩ | exact rfl)); cbv) | (refine Br.f hb ?_; cbv) | (refine Br.f hw2 ?_; cbv)
    refine Loop.mk 70 ?_
    cbv
    refine Gen.mk (fr 66 [(2, .c (.p 0 (.l 0))), (6, .c (.p 4 (.l 0))), (39, .c (.sl 1 (.l 1) (.l 1))), (40, .c (.i .i64 (.l 1))), (41, .c (.i .i64 (.l 0)))]) [some ⟨true, 0, .lit [.f .f32 fun _ => 0, .f .f32 fun _ => 0, .f .f32 fun _ => 0, .sn]⟩, some ⟨true, 1, .lit [.sl 2 (.l 0) (.x fun _ => 3), .sl 3 (.l 0) (.x fun _ => 3)]⟩, some ⟨true, 1, .fl fun _ => numsOf (ln (t ()) 0)⟩, some ⟨true, 1, .fl fun _ => numsOf (ln (t ()) 1)⟩, some ⟨true, 0, .lit [.f .f32 fun _ => (numsOf (ln (t ()) 0)).getD 0 0, .f .f32 fun _ => (numsOf (ln (t ()) 0)).getD 1 0, .f .f32 fun _ => (numsOf (ln (t ()) 0)).getD 2 0, .sn]⟩] ?_
    cbv
    repeat' (refine Ob.mk ?_ ?_; (focus (exact rfl)); cbv)
    repeat' (refine Ob.mk ?_ ?_; (focus (first | exact rfl | exact y1a | exact y1b | exact y1c | exact ⟨by decide, by decide⟩ | exact ⟨by decide, by decide, by decide⟩)); cbv)
    refine Lex.pull [0, 2, 3, 4, 5, 6, 7, 8, 9, 10, 11] (by decide +kernel) ?_
    cbv
    repeat' (refine Ob.mk ?_ ?_; (focus (first | exact rfl | exact y1a | exact y1b | exact y1c | exact ⟨by decide, by decide⟩ | exact ⟨by decide, by decide, by decide⟩)); cbv)
    refine Both.mk ?_ ?_
    cbv
    repeat' (refine Ob.mk ?_ ?_; (focus (first | exact rfl | exact y1a | exact y1b | exact y1c | exact ⟨by decide, by decide⟩ | exact ⟨by decide, by decide, by decide⟩)); cbv)
    refine ?j1
    rotate_left
    cbv
    repeat' (refine Ob.mk ?_ ?_; (focus (first | exact rfl | exact y1a | exact y1b | exact y1c | exact ⟨by decide, by decide⟩ | exact ⟨by decide, by decide, by decide⟩)); cbv)
    exact ?j1
    refine Gen.ren [0, 1, 2, 3, 4, 6] (fr 66 [(2, .c (.p 0 (.l 0))), (6, .c (.p 4 (.l 0))), (39, .c (.sl 1 (.l 1) (.l 1))), (40, .c (.i .i64 (.l 1))), (41, .c (.i .i64 (.l 1)))]) [some ⟨true, 0, .lit [.f .f32 fun _ => 0, .f .f32 fun _ => 0, .f .f32 fun _ => 0, .sn]⟩, some ⟨true, 1, .lit [.sl 2 (.l 0) (.x fun _ => 3), .sl 3 (.l 0) (.x fun _ => 3)]⟩, some ⟨true, 1, .fl fun _ => numsOf (ln (t ()) 0)⟩, some ⟨true, 1, .fl fun _ => numsOf (ln (t ()) 1)⟩, some ⟨true, 0, .lit [.f .f32 fun _ => (numsOf (ln (t ()) 0)).getD 0 0, .f .f32 fun _ => (numsOf (ln (t ()) 0)).getD 1 0, .f .f32 fun _ => (numsOf (ln (t ()) 0)).getD 2 0, .sl 5 (.l 0) (.l 1)]⟩, some ⟨true, 3, .lit [.f .f32 fun _ => (numsOf (ln (t ()) 1)).getD 0 0, .f .f32 fun _ => (numsOf (ln (t ()) 1)).getD 1 0, .f .f32 fun _ => (numsOf (ln (t ()) 1)).getD 2 0]⟩] ?_
    cbv
    repeat' (refine Ob.mk ?_ ?_; (focus (exact rfl)); cbv)
    repeat' first | (refine Ob.mk ?_ ?_; (focus (first | exact h21 | exact y0a | exact y0b | exact y0c | exact y1a | exact y1b | exact y1c | exact p0a | exact p0b | exact p0c | exact hS | exact hnn | exact ⟨rfl, rfl, by decide⟩ | exact ⟨by decide, by decide⟩ | exact ⟨by decide, by decide, by decide⟩ | exact rfl)); cbv) | (refine Br.f hb ?_; cbv) | (refine Br.f hw2 ?_; cbv)
  · cases hs
end Go.Proofs.YteifneielgnniaaGreatDoor.Sh
end
section
namespace Go.Proofs.YteifneielgnniaaGreatDoor.Sh
open Go Go.Proofs
attribute [local irreducible] wds tx rn rnC rnOk nrOk wAt n3 webOk spL tl nl wOk numsOf rwOk
def E9T3 : Env := fun g => envGetL [(56, ⟨true, sLT3 (fun t => t.size ≤ 243 ∧ nl t = 3 ∧ gdTo t 3 = true), none⟩), (12, ⟨true, s12, none⟩)] g
set_option maxRecDepth 100000 in
set_option maxHeartbeats 8000000 in
theorem ok9T3 : Ok Tryz.prog 8 (sRT fun t => t.size ≤ 243 ∧ nl t = 3 ∧ gdTo t 3 = true ∧ tl t = true ∧ wOk t = true) := ok_of_wpaH (E := E9T3) mixed tts (envOk_cons ok21K3 (envOk_cons ok12 (envOk_nil _))) fn8 fun args H v H' o hs ho => by
  split at hs
  · rename_i t
    cases hs
    have hsz : (t ⟨⟩).size ≤ 1048576 := ho.two.2
    have h1 := ho.two.1
    have hn : nl (t ⟨⟩) = 3 := h1.2.1
    have hg : gdTo (t ⟨⟩) 3 = true := h1.2.2.1
    have ht : tl (t ⟨⟩) = true := h1.2.2.2.1
    have h21 : ((t ⟨⟩).size ≤ 243 ∧ nl (t ⟨⟩) = 3 ∧ gdTo (t ⟨⟩) 3 = true) ∧ (t ⟨⟩).size ≤ 1048576 ∧ (3 : Int) = 3 ∧ (9 : Int) = 9 := ⟨⟨h1.1, h1.2.1, h1.2.2.1⟩, hsz, rfl, rfl⟩
    have hb : (!(tl (t ⟨⟩))) = false := ntf ht
    have gg0 : nrOk 3 (ln (t ⟨⟩) 0) = true := show gd (t ⟨⟩) 0 = true from allI_at hg (by omega)
    have l0 : (numsOf (ln (t ⟨⟩) 0)).length = 3 := by rw [nums_l, nr_num gg0]
    have y0a : 0 < (numsOf (ln (t ⟨⟩) 0)).length := by rw [l0]; decide
    have p0a : (numsOf (ln (t ⟨⟩) 0)).getD 0 0 = n3 (ln (t ⟨⟩) 0) 0 := nums_n3 (by rw [nr_num gg0]; decide)
    have y0b : 1 < (numsOf (ln (t ⟨⟩) 0)).length := by rw [l0]; decide
    have p0b : (numsOf (ln (t ⟨⟩) 0)).getD 1 0 = n3 (ln (t ⟨⟩) 0) 1 := nums_n3 (by rw [nr_num gg0]; decide)
    have y0c : 2 < (numsOf (ln (t ⟨⟩) 0)).length := by rw [l0]; decide
    have p0c : (numsOf (ln (t ⟨⟩) 0)).getD 2 0 = n3 (ln (t ⟨⟩) 0) 2 := nums_n3 (by rw [nr_num gg0]; decide)
    have gg1 : nrOk 3 (ln (t ⟨⟩) 1) = true := show gd (t ⟨⟩) 1 = true from allI_at hg (by omega)
    have l1 : (numsOf (ln (t ⟨⟩) 1)).length = 3 := by rw [nums_l, nr_num gg1]
    have y1a : 0 < (numsOf (ln (t ⟨⟩) 1)).length := by rw [l1]; decide
    have p1a : (numsOf (ln (t ⟨⟩) 1)).getD 0 0 = n3 (ln (t ⟨⟩) 1) 0 := nums_n3 (by rw [nr_num gg1]; decide)
    have y1b : 1 < (numsOf (ln (t ⟨⟩) 1)).length := by rw [l1]; decide
    have p1b : (numsOf (ln (t ⟨⟩) 1)).getD 1 0 = n3 (ln (t ⟨⟩) 1) 1 := nums_n3 (by rw [nr_num gg1]; decide)
    have y1c : 2 < (numsOf (ln (t ⟨⟩) 1)).length := by rw [l1]; decide
    have p1c : (numsOf (ln (t ⟨⟩) 1)).getD 2 0 = n3 (ln (t ⟨⟩) 1) 2 := nums_n3 (by rw [nr_num gg1]; decide)
    have gg2 : nrOk 3 (ln (t ⟨⟩) 2) = true := show gd (t ⟨⟩) 2 = true from allI_at hg (by omega)
    have l2 : (numsOf (ln (t ⟨⟩) 2)).length = 3 := by rw [nums_l, nr_num gg2]
    have y2a : 0 < (numsOf (ln (t ⟨⟩) 2)).length := by rw [l2]; decide
    have p2a : (numsOf (ln (t ⟨⟩) 2)).getD 0 0 = n3 (ln (t ⟨⟩) 2) 0 := nums_n3 (by rw [nr_num gg2]; decide)
    have y2b : 1 < (numsOf (ln (t ⟨⟩) 2)).length := by rw [l2]; decide
    have p2b : (numsOf (ln (t ⟨⟩) 2)).getD 1 0 = n3 (ln (t ⟨⟩) 2) 1 := nums_n3 (by rw [nr_num gg2]; decide)
    have y2c : 2 < (numsOf (ln (t ⟨⟩) 2)).length := by rw [l2]; decide
    have p2c : (numsOf (ln (t ⟨⟩) 2)).getD 2 0 = n3 (ln (t ⟨⟩) 2) 2 := nums_n3 (by rw [nr_num gg2]; decide)
    have hL : spL (t ⟨⟩) = [n3 (ln (t ⟨⟩) 1) 0, n3 (ln (t ⟨⟩) 1) 1, n3 (ln (t ⟨⟩) 1) 2, n3 (ln (t ⟨⟩) 2) 0, n3 (ln (t ⟨⟩) 2) 1, n3 (ln (t ⟨⟩) 2) 2] := by unfold spL; rw [hn]; rfl
    have hS : [(numsOf (ln (t ⟨⟩) 1)).getD 0 0, (numsOf (ln (t ⟨⟩) 1)).getD 1 0, (numsOf (ln (t ⟨⟩) 1)).getD 2 0, (numsOf (ln (t ⟨⟩) 2)).getD 0 0, (numsOf (ln (t ⟨⟩) 2)).getD 1 0, (numsOf (ln (t ⟨⟩) 2)).getD 2 0] = spL (t ⟨⟩) := by rw [hL, p1a, p1b, p1c, p2a, p2b, p2c]
    have hnn : 2 = nl (t ⟨⟩) - 1 := by omega
    have hW : webOk ((numsOf (ln (t ⟨⟩) 0)).getD 0 0) ((numsOf (ln (t ⟨⟩) 0)).getD 1 0) ((numsOf (ln (t ⟨⟩) 0)).getD 2 0) [(numsOf (ln (t ⟨⟩) 1)).getD 0 0, (numsOf (ln (t ⟨⟩) 1)).getD 1 0, (numsOf (ln (t ⟨⟩) 1)).getD 2 0, (numsOf (ln (t ⟨⟩) 2)).getD 0 0, (numsOf (ln (t ⟨⟩) 2)).getD 1 0, (numsOf (ln (t ⟨⟩) 2)).getD 2 0] 2 = wOk (t ⟨⟩) := by unfold wOk; rw [hS, p0a, p0b, p0c]; exact congrArg (webOk _ _ _ _) hnn
    have hw2 := congrArg not (hW.trans h1.2.2.2.2)
    refine ⟨_, HLe.refl _, ?_⟩
    cbv
    repeat' first | (refine Ob.mk ?_ ?_; (focus (first | exact h21 | exact y0a | exact y0b | exact y0c | exact y1a | exact y1b | exact y1c | exact y2a | exact y2b | exact y2c | exact p0a | exact p0b | exact p0c | exact hS | exact hnn | exact ⟨rfl, rfl, by decide⟩ | exact ⟨by decide, by decide⟩ | exact ⟨by decide, by decide, by decide⟩ | exact rfl)); cbv) | (refine Br.f hb ?_; cbv) | (refine Br.f hw2 ?_; cbv)
    (first | (refine Lex.tail 16 (by decide +kernel) ?_; cbv) | (refine Lex.pull [0, 1, 2, 3, 4, 5, 6, 7, 8, 9, 10, 11, 12, 13, 14, 15] (by decide +kernel) ?_; cbv))
    repeat' first | (refine Ob.mk ?_ ?_; (focus (first | exact h21 | exact y0a | exact y0b | exact y0c | exact y1a | exact y1b | exact y1c | exact y2a | exact y2b | exact y2c | exact p0a | exact p0b | exact p0c | exact hS | exact hnn | exact ⟨rfl, rfl, by decide⟩ | exact ⟨by decide, by decide⟩ | exact ⟨by decide, by decide, by decide⟩ | exact rfl)); cbv) | (refine Br.f hb ?_; cbv) | (refine Br.f hw2 ?_; cbv)
    refine Loop.mk 70 ?_
    cbv
    refine Gen.mk (fr 66 [(2, .c (.p 0 (.l 0))), (6, .c (.p 5 (.l 0))), (39, .c (.sl 1 (.l 1) (.l 2))), (40, .c (.i .i64 (.l 2))), (41, .c (.i .i64 (.l 0)))]) [some ⟨true, 0, .lit [.f .f32 fun _ => 0, .f .f32 fun _ => 0, .f .f32 fun _ => 0, .sn]⟩, some ⟨true, 1, .lit [.sl 2 (.l 0) (.x fun _ => 3), .sl 3 (.l 0) (.x fun _ => 3), .sl 4 (.l 0) (.x fun _ => 3)]⟩, some ⟨true, 1, .fl fun _ => numsOf (ln (t ()) 0)⟩, some ⟨true, 1, .fl fun _ => numsOf (ln (t ()) 1)⟩, some ⟨true, 1, .fl fun _ => numsOf (ln (t ()) 2)⟩, some ⟨true, 0, .lit [.f .f32 fun _ => (numsOf (ln (t ()) 0)).getD 0 0, .f .f32 fun _ => (numsOf (ln (t ()) 0)).getD 1 0, .f .f32 fun _ => (numsOf (ln (t ()) 0)).getD 2 0, .sn]⟩] ?_
    cbv
    repeat' (refine Ob.mk ?_ ?_; (focus (exact rfl)); cbv)
    repeat' (refine Ob.mk ?_ ?_; (focus (first | exact rfl | exact y1a | exact y1b | exact y1c | exact ⟨by decide, by decide⟩ | exact ⟨by decide, by decide, by decide⟩)); cbv)
    refine Lex.pull [0, 2, 3, 4, 5, 6, 7, 8, 9, 10, 11] (by decide +kernel) ?_
    cbv
    repeat' (refine Ob.mk ?_ ?_; (focus (first | exact rfl | exact y1a | exact y1b | exact y1c | exact ⟨by decide, by decide⟩ | exact ⟨by decide, by decide, by decide⟩)); cbv)
    refine Both.mk ?_ ?_
    cbv
    repeat' (refine Ob.mk ?_ ?_; (focus (first | exact rfl | exact y1a | exact y1b | exact y1c | exact ⟨by decide, by decide⟩ | exact ⟨by decide, by decide, by decide⟩)); cbv)
    refine ?j1
    rotate_left
    cbv
    repeat' (refine Ob.mk ?_ ?_; (focus (first | exact rfl | exact y1a | exact y1b | exact y1c | exact ⟨by decide, by decide⟩ | exact ⟨by decide, by decide, by decide⟩)); cbv)
    exact ?j1
    refine Gen.ren [0, 1, 2, 3, 4, 5, 7] (fr 66 [(2, .c (.p 0 (.l 0))), (6, .c (.p 5 (.l 0))), (39, .c (.sl 1 (.l 1) (.l 2))), (40, .c (.i .i64 (.l 2))), (41, .c (.i .i64 (.l 1)))]) [some ⟨true, 0, .lit [.f .f32 fun _ => 0, .f .f32 fun _ => 0, .f .f32 fun _ => 0, .sn]⟩, some ⟨true, 1, .lit [.sl 2 (.l 0) (.x fun _ => 3), .sl 3 (.l 0) (.x fun _ => 3), .sl 4 (.l 0) (.x fun _ => 3)]⟩, some ⟨true, 1, .fl fun _ => numsOf (ln (t ()) 0)⟩, some ⟨true, 1, .fl fun _ => numsOf (ln (t ()) 1)⟩, some ⟨true, 1, .fl fun _ => numsOf (ln (t ()) 2)⟩, some ⟨true, 0, .lit [.f .f32 fun _ => (numsOf (ln (t ()) 0)).getD 0 0, .f .f32 fun _ => (numsOf (ln (t ()) 0)).getD 1 0, .f .f32 fun _ => (numsOf (ln (t ()) 0)).getD 2 0, .sl 6 (.l 0) (.l 1)]⟩, some ⟨true, 3, .lit [.f .f32 fun _ => (numsOf (ln (t ()) 1)).getD 0 0, .f .f32 fun _ => (numsOf (ln (t ()) 1)).getD 1 0, .f .f32 fun _ => (numsOf (ln (t ()) 1)).getD 2 0]⟩] ?_
    cbv
    repeat' (refine Ob.mk ?_ ?_; (focus (exact rfl)); cbv)
    repeat' (refine Ob.mk ?_ ?_; (focus (first | exact rfl | exact y2a | exact y2b | exact y2c | exact ⟨by decide, by decide⟩ | exact ⟨by decide, by decide, by decide⟩)); cbv)
    refine Lex.pull [0, 2, 3, 4, 5, 6, 7, 8, 9, 10, 11] (by decide +kernel) ?_
    cbv
    repeat' (refine Ob.mk ?_ ?_; (focus (first | exact rfl | exact y2a | exact y2b | exact y2c | exact ⟨by decide, by decide⟩ | exact ⟨by decide, by decide, by decide⟩)); cbv)
    refine Both.mk ?_ ?_
    cbv
    repeat' (refine Ob.mk ?_ ?_; (focus (first | exact rfl | exact y2a | exact y2b | exact y2c | exact ⟨by decide, by decide⟩ | exact ⟨by decide, by decide, by decide⟩)); cbv)
    refine ?j2
    rotate_left
    cbv
    repeat' (refine Ob.mk ?_ ?_; (focus (first | exact rfl | exact y2a | exact y2b | exact y2c | exact ⟨by decide, by decide⟩ | exact ⟨by decide, by decide, by decide⟩)); cbv)
    exact ?j2
    refine Gen.ren [0, 1, 2, 3, 4, 5, 8] (fr 66 [(2, .c (.p 0 (.l 0))), (6, .c (.p 5 (.l 0))), (39, .c (.sl 1 (.l 1) (.l 2))), (40, .c (.i .i64 (.l 2))), (41, .c (.i .i64 (.l 2)))]) [some ⟨true, 0, .lit [.f .f32 fun _ => 0, .f .f32 fun _ => 0, .f .f32 fun _ => 0, .sn]⟩, some ⟨true, 1, .lit [.sl 2 (.l 0) (.x fun _ => 3), .sl 3 (.l 0) (.x fun _ => 3), .sl 4 (.l 0) (.x fun _ => 3)]⟩, some ⟨true, 1, .fl fun _ => numsOf (ln (t ()) 0)⟩, some ⟨true, 1, .fl fun _ => numsOf (ln (t ()) 1)⟩, some ⟨true, 1, .fl fun _ => numsOf (ln (t ()) 2)⟩, some ⟨true, 0, .lit [.f .f32 fun _ => (numsOf (ln (t ()) 0)).getD 0 0, .f .f32 fun _ => (numsOf (ln (t ()) 0)).getD 1 0, .f .f32 fun _ => (numsOf (ln (t ()) 0)).getD 2 0, .sl 6 (.l 0) (.l 2)]⟩, some ⟨true, 3, .lit [.f .f32 fun _ => (numsOf (ln (t ()) 1)).getD 0 0, .f .f32 fun _ => (numsOf (ln (t ()) 1)).getD 1 0, .f .f32 fun _ => (numsOf (ln (t ()) 1)).getD 2 0, .f .f32 fun _ => (numsOf (ln (t ()) 2)).getD 0 0, .f .f32 fun _ => (numsOf (ln (t ()) 2)).getD 1 0, .f .f32 fun _ => (numsOf (ln (t ()) 2)).getD 2 0]⟩] ?_
    cbv
    repeat' (refine Ob.mk ?_ ?_; (focus (exact rfl)); cbv)
    repeat' first | (refine Ob.mk ?_ ?_; (focus (first | exact h21 | exact y0a | exact y0b | exact y0c | exact y1a | exact y1b | exact y1c | exact y2a | exact y2b | exact y2c | exact p0a | exact p0b | exact p0c | exact hS | exact hnn | exact ⟨rfl, rfl, by decide⟩ | exact ⟨by decide, by decide⟩ | exact ⟨by decide, by decide, by decide⟩ | exact rfl)); cbv) | (refine Br.f hb ?_; cbv) | (refine Br.f hw2 ?_; cbv)
  · cases hs
end Go.Proofs.YteifneielgnniaaGreatDoor.Sh
end
section
namespace Go.Proofs.YteifneielgnniaaGreatDoor.Sh
open Go Go.Proofs
attribute [local irreducible] wds tx rn rnC rnOk nrOk wAt n3 webOk spL tl nl wOk numsOf rwOk
def E9T4 : Env := fun g => envGetL [(56, ⟨true, sLT4 (fun t => t.size ≤ 243 ∧ nl t = 4 ∧ gdTo t 4 = true), none⟩), (12, ⟨true, s12, none⟩)] g
set_option maxRecDepth 100000 in
set_option maxHeartbeats 8000000 in
theorem ok9T4 : Ok Tryz.prog 8 (sRT fun t => t.size ≤ 243 ∧ nl t = 4 ∧ gdTo t 4 = true ∧ tl t = true ∧ wOk t = true) := ok_of_wpaH (E := E9T4) mixed tts (envOk_cons ok21K4 (envOk_cons ok12 (envOk_nil _))) fn8 fun args H v H' o hs ho => by
  split at hs
  · rename_i t
    cases hs
    have hsz : (t ⟨⟩).size ≤ 1048576 := ho.two.2
    have h1 := ho.two.1
    have hn : nl (t ⟨⟩) = 4 := h1.2.1
    have hg : gdTo (t ⟨⟩) 4 = true := h1.2.2.1
    have ht : tl (t ⟨⟩) = true := h1.2.2.2.1
    have h21 : ((t ⟨⟩).size ≤ 243 ∧ nl (t ⟨⟩) = 4 ∧ gdTo (t ⟨⟩) 4 = true) ∧ (t ⟨⟩).size ≤ 1048576 ∧ (3 : Int) = 3 ∧ (9 : Int) = 9 := ⟨⟨h1.1, h1.2.1, h1.2.2.1⟩, hsz, rfl, rfl⟩
    have hb : (!(tl (t ⟨⟩))) = false := ntf ht
    have gg0 : nrOk 3 (ln (t ⟨⟩) 0) = true := show gd (t ⟨⟩) 0 = true from allI_at hg (by omega)
    have l0 : (numsOf (ln (t ⟨⟩) 0)).length = 3 := by rw [nums_l, nr_num gg0]
    have y0a : 0 < (numsOf (ln (t ⟨⟩) 0)).length := by rw [l0]; decide
    have p0a : (numsOf (ln (t ⟨⟩) 0)).getD 0 0 = n3 (ln (t ⟨⟩) 0) 0 := nums_n3 (by rw [nr_num gg0]; decide)
    have y0b : 1 < (numsOf (ln (t ⟨⟩) 0)).length := by rw [l0]; decide
    have p0b : (numsOf (ln (t ⟨⟩) 0)).getD 1 0 = n3 (ln (t ⟨⟩) 0) 1 := nums_n3 (by rw [nr_num gg0]; decide)
    have y0c : 2 < (numsOf (ln (t ⟨⟩) 0)).length := by rw [l0]; decide
    have p0c : (numsOf (ln (t ⟨⟩) 0)).getD 2 0 = n3 (ln (t ⟨⟩) 0) 2 := nums_n3 (by rw [nr_num gg0]; decide)
    have gg1 : nrOk 3 (ln (t ⟨⟩) 1) = true := show gd (t ⟨⟩) 1 = true from allI_at hg (by omega)
    have l1 : (numsOf (ln (t ⟨⟩) 1)).length = 3 := by rw [nums_l, nr_num gg1]
    have y1a : 0 < (numsOf (ln (t ⟨⟩) 1)).length := by rw [l1]; decide
    have p1a : (numsOf (ln (t ⟨⟩) 1)).getD 0 0 = n3 (ln (t ⟨⟩) 1) 0 := nums_n3 (by rw [nr_num gg1]; decide)
    have y1b : 1 < (numsOf (ln (t ⟨⟩) 1)).length := by rw [l1]; decide
    have p1b : (numsOf (ln (t ⟨⟩) 1)).getD 1 0 = n3 (ln (t ⟨⟩) 1) 1 := nums_n3 (by rw [nr_num gg1]; decide)
    have y1c : 2 < (numsOf (ln (t ⟨⟩) 1)).length := by rw [l1]; decide
    have p1c : (numsOf (ln (t ⟨⟩) 1)).getD 2 0 = n3 (ln (t ⟨⟩) 1) 2 := nums_n3 (by rw [nr_num gg1]; decide)
    have gg2 : nrOk 3 (ln (t ⟨⟩) 2) = true := show gd (t ⟨⟩) 2 = true from allI_at hg (by omega)
    have l2 : (numsOf (ln (t ⟨⟩) 2)).length = 3 := by rw [nums_l, nr_num gg2]
    have y2a : 0 < (numsOf (ln (t ⟨⟩) 2)).length := by rw [l2]; decide
    have p2a : (numsOf (ln (t ⟨⟩) 2)).getD 0 0 = n3 (ln (t ⟨⟩) 2) 0 := nums_n3 (by rw [nr_num gg2]; decide)
    have y2b : 1 < (numsOf (ln (t ⟨⟩) 2)).length := by rw [l2]; decide
    have p2b : (numsOf (ln (t ⟨⟩) 2)).getD 1 0 = n3 (ln (t ⟨⟩) 2) 1 := nums_n3 (by rw [nr_num gg2]; decide)
    have y2c : 2 < (numsOf (ln (t ⟨⟩) 2)).length := by rw [l2]; decide
    have p2c : (numsOf (ln (t ⟨⟩) 2)).getD 2 0 = n3 (ln (t ⟨⟩) 2) 2 := nums_n3 (by rw [nr_num gg2]; decide)
    have gg3 : nrOk 3 (ln (t ⟨⟩) 3) = true := show gd (t ⟨⟩) 3 = true from allI_at hg (by omega)
    have l3 : (numsOf (ln (t ⟨⟩) 3)).length = 3 := by rw [nums_l, nr_num gg3]
    have y3a : 0 < (numsOf (ln (t ⟨⟩) 3)).length := by rw [l3]; decide
    have p3a : (numsOf (ln (t ⟨⟩) 3)).getD 0 0 = n3 (ln (t ⟨⟩) 3) 0 := nums_n3 (by rw [nr_num gg3]; decide)
    have y3b : 1 < (numsOf (ln (t ⟨⟩) 3)).length := by rw [l3]; decide
    have p3b : (numsOf (ln (t ⟨⟩) 3)).getD 1 0 = n3 (ln (t ⟨⟩) 3) 1 := nums_n3 (by rw [nr_num gg3]; decide)
    have y3c : 2 < (numsOf (ln (t ⟨⟩) 3)).length := by rw [l3]; decide
    have p3c : (numsOf (ln (t ⟨⟩) 3)).getD 2 0 = n3 (ln (t ⟨⟩) 3) 2 := nums_n3 (by rw [nr_num gg3]; decide)
    have hL : spL (t ⟨⟩) = [n3 (ln (t ⟨⟩) 1) 0, n3 (ln (t ⟨⟩) 1) 1, n3 (ln (t ⟨⟩) 1) 2, n3 (ln (t ⟨⟩) 2) 0, n3 (ln (t ⟨⟩) 2) 1, n3 (ln (t ⟨⟩) 2) 2, n3 (ln (t ⟨⟩) 3) 0, n3 (ln (t ⟨⟩) 3) 1, n3 (ln (t ⟨⟩) 3) 2] := by unfold spL; rw [hn]; rfl
    have hS : [(numsOf (ln (t ⟨⟩) 1)).getD 0 0, (numsOf (ln (t ⟨⟩) 1)).getD 1 0, (numsOf (ln (t ⟨⟩) 1)).getD 2 0, (numsOf (ln (t ⟨⟩) 2)).getD 0 0, (numsOf (ln (t ⟨⟩) 2)).getD 1 0, (numsOf (ln (t ⟨⟩) 2)).getD 2 0, (numsOf (ln (t ⟨⟩) 3)).getD 0 0, (numsOf (ln (t ⟨⟩) 3)).getD 1 0, (numsOf (ln (t ⟨⟩) 3)).getD 2 0] = spL (t ⟨⟩) := by rw [hL, p1a, p1b, p1c, p2a, p2b, p2c, p3a, p3b, p3c]
    have hnn : 3 = nl (t ⟨⟩) - 1 := by omega
    have hW : webOk ((numsOf (ln (t ⟨⟩) 0)).getD 0 0) ((numsOf (ln (t ⟨⟩) 0)).getD 1 0) ((numsOf (ln (t ⟨⟩) 0)).getD 2 0) [(numsOf (ln (t ⟨⟩) 1)).getD 0 0, (numsOf (ln (t ⟨⟩) 1)).getD 1 0, (numsOf (ln (t ⟨⟩) 1)).getD 2 0, (numsOf (ln (t ⟨⟩) 2)).getD 0 0, (numsOf (ln (t ⟨⟩) 2)).getD 1 0, (numsOf (ln (t ⟨⟩) 2)).getD 2 0, (numsOf (ln (t ⟨⟩) 3)).getD 0 0, (numsOf (ln (t ⟨⟩) 3)).getD 1 0, (numsOf (ln (t ⟨⟩) 3)).getD 2 0] 3 = wOk (t ⟨⟩) := by unfold wOk; rw [hS, p0a, p0b, p0c]; exact congrArg (webOk _ _ _ _) hnn
    have hw2 := congrArg not (hW.trans h1.2.2.2.2)
    refine ⟨_, HLe.refl _, ?_⟩
    cbv
    repeat' first | (refine Ob.mk ?_ ?_; (focus (first | exact h21 | exact y0a | exact y0b | exact y0c | exact y1a | exact y1b | exact y1c | exact y2a | exact y2b | exact y2c | exact y3a | exact y3b | exact y3c | exact p0a | exact p0b | exact p0c | exact hS | exact hnn | exact ⟨rfl, rfl, by decide⟩ | exact ⟨by decide, by decide⟩ | exact ⟨by decide, by decide, by decide⟩ | exact rfl)); cbv) | (refine Br.f hb ?_; cbv) | (refine Br.f hw2 ?_; cbv)
    (first | (refine Lex.tail 16 (by decide +kernel) ?_; cbv) | (refine Lex.pull [0, 1, 2, 3, 4, 5, 6, 7, 8, 9, 10, 11, 12, 13, 14, 15] (by decide +kernel) ?_; cbv))
    repeat' first | (refine Ob.mk ?_ ?_; (focus (first | exact h21 | exact y0a | exact y0b | exact y0c | exact y1a | exact y1b | exact y1c | exact y2a | exact y2b | exact y2c | exact y3a | exact y3b | exact y3c | exact p0a | exact p0b | exact p0c | exact hS | exact hnn | exact ⟨rfl, rfl, by decide⟩ | exact ⟨by decide, by decide⟩ | exact ⟨by decide, by decide, by decide⟩ | exact rfl)); cbv) | (refine Br.f hb ?_; cbv) | (refine Br.f hw2 ?_; cbv)
    refine Loop.mk 70 ?_
    cbv
    refine Gen.mk (fr 66 [(2, .c (.p 0 (.l 0))), (6, .c (.p 6 (.l 0))), (39, .c (.sl 1 (.l 1) (.l 3))), (40, .c (.i .i64 (.l 3))), (41, .c (.i .i64 (.l 0)))]) [some ⟨true, 0, .lit [.f .f32 fun _ => 0, .f .f32 fun _ => 0, .f .f32 fun _ => 0, .sn]⟩, some ⟨true, 1, .lit [.sl 2 (.l 0) (.x fun _ => 3), .sl 3 (.l 0) (.x fun _ => 3), .sl 4 (.l 0) (.x fun _ => 3), .sl 5 (.l 0) (.x fun _ => 3)]⟩, some ⟨true, 1, .fl fun _ => numsOf (ln (t ()) 0)⟩, some ⟨true, 1, .fl fun _ => numsOf (ln (t ()) 1)⟩, some ⟨true, 1, .fl fun _ => numsOf (ln (t ()) 2)⟩, some ⟨true, 1, .fl fun _ => numsOf (ln (t ()) 3)⟩, some ⟨true, 0, .lit [.f .f32 fun _ => (numsOf (ln (t ()) 0)).getD 0 0, .f .f32 fun _ => (numsOf (ln (t ()) 0)).getD 1 0, .f .f32 fun _ => (numsOf (ln (t ()) 0)).getD 2 0, .sn]⟩] ?_
    cbv
    repeat' (refine Ob.mk ?_ ?_; (focus (exact rfl)); cbv)
    repeat' (refine Ob.mk ?_ ?_; (focus (first | exact rfl | exact y1a | exact y1b | exact y1c | exact ⟨by decide, by decide⟩ | exact ⟨by decide, by decide, by decide⟩)); cbv)
    refine Lex.pull [0, 2, 3, 4, 5, 6, 7, 8, 9, 10, 11] (by decide +kernel) ?_
    cbv
    repeat' (refine Ob.mk ?_ ?_; (focus (first | exact rfl | exact y1a | exact y1b | exact y1c | exact ⟨by decide, by decide⟩ | exact ⟨by decide, by decide, by decide⟩)); cbv)
    refine Both.mk ?_ ?_
    cbv
    repeat' (refine Ob.mk ?_ ?_; (focus (first | exact rfl | exact y1a | exact y1b | exact y1c | exact ⟨by decide, by decide⟩ | exact ⟨by decide, by decide, by decide⟩)); cbv)
    refine ?j1
    rotate_left
    cbv
    repeat' (refine Ob.mk ?_ ?_; (focus (first | exact rfl | exact y1a | exact y1b | exact y1c | exact ⟨by decide, by decide⟩ | exact ⟨by decide, by decide, by decide⟩)); cbv)
    exact ?j1
    refine Gen.ren [0, 1, 2, 3, 4, 5, 6, 8] (fr 66 [(2, .c (.p 0 (.l 0))), (6, .c (.p 6 (.l 0))), (39, .c (.sl 1 (.l 1) (.l 3))), (40, .c (.i .i64 (.l 3))), (41, .c (.i .i64 (.l 1)))]) [some ⟨true, 0, .lit [.f .f32 fun _ => 0, .f .f32 fun _ => 0, .f .f32 fun _ => 0, .sn]⟩, some ⟨true, 1, .lit [.sl 2 (.l 0) (.x fun _ => 3), .sl 3 (.l 0) (.x fun _ => 3), .sl 4 (.l 0) (.x fun _ => 3), .sl 5 (.l 0) (.x fun _ => 3)]⟩, some ⟨true, 1, .fl fun _ => numsOf (ln (t ()) 0)⟩, some ⟨true, 1, .fl fun _ => numsOf (ln (t ()) 1)⟩, some ⟨true, 1, .fl fun _ => numsOf (ln (t ()) 2)⟩, some ⟨true, 1, .fl fun _ => numsOf (ln (t ()) 3)⟩, some ⟨true, 0, .lit [.f .f32 fun _ => (numsOf (ln (t ()) 0)).getD 0 0, .f .f32 fun _ => (numsOf (ln (t ()) 0)).getD 1 0, .f .f32 fun _ => (numsOf (ln (t ()) 0)).getD 2 0, .sl 7 (.l 0) (.l 1)]⟩, some ⟨true, 3, .lit [.f .f32 fun _ => (numsOf (ln (t ()) 1)).getD 0 0, .f .f32 fun _ => (numsOf (ln (t ()) 1)).getD 1 0, .f .f32 fun _ => (numsOf (ln (t ()) 1)).getD 2 0]⟩] ?_
    cbv
    repeat' (refine Ob.mk ?_ ?_; (focus (exact rfl)); cbv)
    repeat' (refine Ob.mk ?_ ?_; (focus (first | exact rfl | exact y2a | exact y2b | exact y2c | exact ⟨by decide, by decide⟩ | exact ⟨by decide, by decide, by decide⟩)); cbv)
    refine Lex.pull [0, 2, 3, 4, 5, 6, 7, 8, 9, 10, 11] (by decide +kernel) ?_
    cbv
    repeat' (refine Ob.mk ?_ ?_; (focus (first | exact rfl | exact y2a | exact y2b | exact y2c | exact ⟨by decide, by decide⟩ | exact ⟨by decide, by decide, by decide⟩)); cbv)
    refine Both.mk ?_ ?_
    cbv
    repeat' (refine Ob.mk ?_ ?_; (focus (first | exact rfl | exact y2a | exact y2b | exact y2c | exact ⟨by decide, by decide⟩ | exact ⟨by decide, by decide, by decide⟩)); cbv)
    refine ?j2
    rotate_left
    cbv
    repeat' (refine Ob.mk ?_ ?_; (focus (first | exact rfl | exact y2a | exact y2b | exact y2c | exact ⟨by decide, by decide⟩ | exact ⟨by decide, by decide, by decide⟩)); cbv)
    exact ?j2
    refine Gen.ren [0, 1, 2, 3, 4, 5, 6, 9] (fr 66 [(2, .c (.p 0 (.l 0))), (6, .c (.p 6 (.l 0))), (39, .c (.sl 1 (.l 1) (.l 3))), (40, .c (.i .i64 (.l 3))), (41, .c (.i .i64 (.l 2)))]) [some ⟨true, 0, .lit [.f .f32 fun _ => 0, .f .f32 fun _ => 0, .f .f32 fun _ => 0, .sn]⟩, some ⟨true, 1, .lit [.sl 2 (.l 0) (.x fun _ => 3), .sl 3 (.l 0) (.x fun _ => 3), .sl 4 (.l 0) (.x fun _ => 3), .sl 5 (.l 0) (.x fun _ => 3)]⟩, some ⟨true, 1, .fl fun _ => numsOf (ln (t ()) 0)⟩, some ⟨true, 1, .fl fun _ => numsOf (ln (t ()) 1)⟩, some ⟨true, 1, .fl fun _ => numsOf (ln (t ()) 2)⟩, some ⟨true, 1, .fl fun _ => numsOf (ln (t ()) 3)⟩, some ⟨true, 0, .lit [.f .f32 fun _ => (numsOf (ln (t ()) 0)).getD 0 0, .f .f32 fun _ => (numsOf (ln (t ()) 0)).getD 1 0, .f .f32 fun _ => (numsOf (ln (t ()) 0)).getD 2 0, .sl 7 (.l 0) (.l 2)]⟩, some ⟨true, 3, .lit [.f .f32 fun _ => (numsOf (ln (t ()) 1)).getD 0 0, .f .f32 fun _ => (numsOf (ln (t ()) 1)).getD 1 0, .f .f32 fun _ => (numsOf (ln (t ()) 1)).getD 2 0, .f .f32 fun _ => (numsOf (ln (t ()) 2)).getD 0 0, .f .f32 fun _ => (numsOf (ln (t ()) 2)).getD 1 0, .f .f32 fun _ => (numsOf (ln (t ()) 2)).getD 2 0]⟩] ?_
    cbv
    repeat' (refine Ob.mk ?_ ?_; (focus (exact rfl)); cbv)
    repeat' (refine Ob.mk ?_ ?_; (focus (first | exact rfl | exact y3a | exact y3b | exact y3c | exact ⟨by decide, by decide⟩ | exact ⟨by decide, by decide, by decide⟩)); cbv)
    refine Lex.pull [0, 2, 3, 4, 5, 6, 7, 8, 9, 10, 11] (by decide +kernel) ?_
    cbv
    repeat' (refine Ob.mk ?_ ?_; (focus (first | exact rfl | exact y3a | exact y3b | exact y3c | exact ⟨by decide, by decide⟩ | exact ⟨by decide, by decide, by decide⟩)); cbv)
    refine Both.mk ?_ ?_
    cbv
    repeat' (refine Ob.mk ?_ ?_; (focus (first | exact rfl | exact y3a | exact y3b | exact y3c | exact ⟨by decide, by decide⟩ | exact ⟨by decide, by decide, by decide⟩)); cbv)
    refine ?j3
    rotate_left
    cbv
    repeat' (refine Ob.mk ?_ ?_; (focus (first | exact rfl | exact y3a | exact y3b | exact y3c | exact ⟨by decide, by decide⟩ | exact ⟨by decide, by decide, by decide⟩)); cbv)
    exact ?j3
    refine Gen.ren [0, 1, 2, 3, 4, 5, 6, 9] (fr 66 [(2, .c (.p 0 (.l 0))), (6, .c (.p 6 (.l 0))), (39, .c (.sl 1 (.l 1) (.l 3))), (40, .c (.i .i64 (.l 3))), (41, .c (.i .i64 (.l 3)))]) [some ⟨true, 0, .lit [.f .f32 fun _ => 0, .f .f32 fun _ => 0, .f .f32 fun _ => 0, .sn]⟩, some ⟨true, 1, .lit [.sl 2 (.l 0) (.x fun _ => 3), .sl 3 (.l 0) (.x fun _ => 3), .sl 4 (.l 0) (.x fun _ => 3), .sl 5 (.l 0) (.x fun _ => 3)]⟩, some ⟨true, 1, .fl fun _ => numsOf (ln (t ()) 0)⟩, some ⟨true, 1, .fl fun _ => numsOf (ln (t ()) 1)⟩, some ⟨true, 1, .fl fun _ => numsOf (ln (t ()) 2)⟩, some ⟨true, 1, .fl fun _ => numsOf (ln (t ()) 3)⟩, some ⟨true, 0, .lit [.f .f32 fun _ => (numsOf (ln (t ()) 0)).getD 0 0, .f .f32 fun _ => (numsOf (ln (t ()) 0)).getD 1 0, .f .f32 fun _ => (numsOf (ln (t ()) 0)).getD 2 0, .sl 7 (.l 0) (.l 3)]⟩, some ⟨true, 3, .lit [.f .f32 fun _ => (numsOf (ln (t ()) 1)).getD 0 0, .f .f32 fun _ => (numsOf (ln (t ()) 1)).getD 1 0, .f .f32 fun _ => (numsOf (ln (t ()) 1)).getD 2 0, .f .f32 fun _ => (numsOf (ln (t ()) 2)).getD 0 0, .f .f32 fun _ => (numsOf (ln (t ()) 2)).getD 1 0, .f .f32 fun _ => (numsOf (ln (t ()) 2)).getD 2 0, .f .f32 fun _ => (numsOf (ln (t ()) 3)).getD 0 0, .f .f32 fun _ => (numsOf (ln (t ()) 3)).getD 1 0, .f .f32 fun _ => (numsOf (ln (t ()) 3)).getD 2 0]⟩] ?_
    cbv
    repeat' (refine Ob.mk ?_ ?_; (focus (exact rfl)); cbv)
    repeat' first | (refine Ob.mk ?_ ?_; (focus (first | exact h21 | exact y0a | exact y0b | exact y0c | exact y1a | exact y1b | exact y1c | exact y2a | exact y2b | exact y2c | exact y3a | exact y3b | exact y3c | exact p0a | exact p0b | exact p0c | exact hS | exact hnn | exact ⟨rfl, rfl, by decide⟩ | exact ⟨by decide, by decide⟩ | exact ⟨by decide, by decide, by decide⟩ | exact rfl)); cbv) | (refine Br.f hb ?_; cbv) | (refine Br.f hw2 ?_; cbv)
  · cases hs
end Go.Proofs.YteifneielgnniaaGreatDoor.Sh
end
section
namespace Go.Proofs.YteifneielgnniaaGreatDoor.Sh
open Go Go.Proofs
attribute [local irreducible] wds tx rn rnC rnOk nrOk wAt n3 webOk spL tl nl wOk numsOf rwOk
def E9T5 : Env := fun g => envGetL [(56, ⟨true, sLT5 (fun t => t.size ≤ 243 ∧ nl t = 5 ∧ gdTo t 5 = true), none⟩), (12, ⟨true, s12, none⟩)] g
set_option maxRecDepth 100000 in
set_option maxHeartbeats 8000000 in
theorem ok9T5 : Ok Tryz.prog 8 (sRT fun t => t.size ≤ 243 ∧ nl t = 5 ∧ gdTo t 5 = true ∧ tl t = true ∧ wOk t = true) := ok_of_wpaH (E := E9T5) mixed tts (envOk_cons ok21K5 (envOk_cons ok12 (envOk_nil _))) fn8 fun args H v H' o hs ho => by
  split at hs
  · rename_i t
    cases hs
    have hsz : (t ⟨⟩).size ≤ 1048576 := ho.two.2
    have h1 := ho.two.1
    have hn : nl (t ⟨⟩) = 5 := h1.2.1
    have hg : gdTo (t ⟨⟩) 5 = true := h1.2.2.1
    have ht : tl (t ⟨⟩) = true := h1.2.2.2.1
    have h21 : ((t ⟨⟩).size ≤ 243 ∧ nl (t ⟨⟩) = 5 ∧ gdTo (t ⟨⟩) 5 = true) ∧ (t ⟨⟩).size ≤ 1048576 ∧ (3 : Int) = 3 ∧ (9 : Int) = 9 := ⟨⟨h1.1, h1.2.1, h1.2.2.1⟩, hsz, rfl, rfl⟩
    have hb : (!(tl (t ⟨⟩))) = false := ntf ht
    have gg0 : nrOk 3 (ln (t ⟨⟩) 0) = true := show gd (t ⟨⟩) 0 = true from allI_at hg (by omega)
    have l0 : (numsOf (ln (t ⟨⟩) 0)).length = 3 := by rw [nums_l, nr_num gg0]
    have y0a : 0 < (numsOf (ln (t ⟨⟩) 0)).length := by rw [l0]; decide
    have p0a : (numsOf (ln (t ⟨⟩) 0)).getD 0 0 = n3 (ln (t ⟨⟩) 0) 0 := nums_n3 (by rw [nr_num gg0]; decide)
    have y0b : 1 < (numsOf (ln (t ⟨⟩) 0)).length := by rw [l0]; decide
    have p0b : (numsOf (ln (t ⟨⟩) 0)).getD 1 0 = n3 (ln (t ⟨⟩) 0) 1 := nums_n3 (by rw [nr_num gg0]; decide)
    have y0c : 2 < (numsOf (ln (t ⟨⟩) 0)).length := by rw [l0]; decide
    have p0c : (numsOf (ln (t ⟨⟩) 0)).getD 2 0 = n3 (ln (t ⟨⟩) 0) 2 := nums_n3 (by rw [nr_num gg0]; decide)
    have gg1 : nrOk 3 (ln (t ⟨⟩) 1) = true := show gd (t ⟨⟩) 1 = true from allI_at hg (by omega)
    have l1 : (numsOf (ln (t ⟨⟩) 1)).length = 3 := by rw [nums_l, nr_num gg1]
    have y1a : 0 < (numsOf (ln (t ⟨⟩) 1)).length := by rw [l1]; decide
    have p1a : (numsOf (ln (t ⟨⟩) 1)).getD 0 0 = n3 (ln (t ⟨⟩) 1) 0 := nums_n3 (by rw [nr_num gg1]; decide)
    have y1b : 1 < (numsOf (ln (t ⟨⟩) 1)).length := by rw [l1]; decide
    have p1b : (numsOf (ln (t ⟨⟩) 1)).getD 1 0 = n3 (ln (t ⟨⟩) 1) 1 := nums_n3 (by rw [nr_num gg1]; decide)
    have y1c : 2 < (numsOf (ln (t ⟨⟩) 1)).length := by rw [l1]; decide
    have p1c : (numsOf (ln (t ⟨⟩) 1)).getD 2 0 = n3 (ln (t ⟨⟩) 1) 2 := nums_n3 (by rw [nr_num gg1]; decide)
    have gg2 : nrOk 3 (ln (t ⟨⟩) 2) = true := show gd (t ⟨⟩) 2 = true from allI_at hg (by omega)
    have l2 : (numsOf (ln (t ⟨⟩) 2)).length = 3 := by rw [nums_l, nr_num gg2]
    have y2a : 0 < (numsOf (ln (t ⟨⟩) 2)).length := by rw [l2]; decide
    have p2a : (numsOf (ln (t ⟨⟩) 2)).getD 0 0 = n3 (ln (t ⟨⟩) 2) 0 := nums_n3 (by rw [nr_num gg2]; decide)
    have y2b : 1 < (numsOf (ln (t ⟨⟩) 2)).length := by rw [l2]; decide
    have p2b : (numsOf (ln (t ⟨⟩) 2)).getD 1 0 = n3 (ln (t ⟨⟩) 2) 1 := nums_n3 (by rw [nr_num gg2]; decide)
    have y2c : 2 < (numsOf (ln (t ⟨⟩) 2)).length := by rw [l2]; decide
    have p2c : (numsOf (ln (t ⟨⟩) 2)).getD 2 0 = n3 (ln (t ⟨⟩) 2) 2 := nums_n3 (by rw [nr_num gg2]; decide)
    have gg3 : nrOk 3 (ln (t ⟨⟩) 3) = true := show gd (t ⟨⟩) 3 = true from allI_at hg (by omega)
    have l3 : (numsOf (ln (t ⟨⟩) 3)).length = 3 := by rw [nums_l, nr_num gg3]
    have y3a : 0 < (numsOf (ln (t ⟨⟩) 3)).length := by rw [l3]; decide
    have p3a : (numsOf (ln (t ⟨⟩) 3)).getD 0 0 = n3 (ln (t ⟨⟩) 3) 0 := nums_n3 (by rw [nr_num gg3]; decide)
    have y3b : 1 < (numsOf (ln (t ⟨⟩) 3)).length := by rw [l3]; decide
    have p3b : (numsOf (ln (t ⟨⟩) 3)).getD 1 0 = n3 (ln (t ⟨⟩) 3) 1 := nums_n3 (by rw [nr_num gg3]; decide)
    have y3c : 2 < (numsOf (ln (t ⟨⟩) 3)).length := by rw [l3]; decide
    have p3c : (numsOf (ln (t ⟨⟩) 3)).getD 2 0 = n3 (ln (t ⟨⟩) 3) 2 := nums_n3 (by rw [nr_num gg3]; decide)
    have gg4 : nrOk 3 (ln (t ⟨⟩) 4) = true := show gd (t ⟨⟩) 4 = true from allI_at hg (by omega)
    have l4 : (numsOf (ln (t ⟨⟩) 4)).length = 3 := by rw [nums_l, nr_num gg4]
    have y4a : 0 < (numsOf (ln (t ⟨⟩) 4)).length := by rw [l4]; decide
    have p4a : (numsOf (ln (t ⟨⟩) 4)).getD 0 0 = n3 (ln (t ⟨⟩) 4) 0 := nums_n3 (by rw [nr_num gg4]; decide)
    have y4b : 1 < (numsOf (ln (t ⟨⟩) 4)).length := by rw [l4]; decide
    have p4b : (numsOf (ln (t ⟨⟩) 4)).getD 1 0 = n3 (ln (t ⟨⟩) 4) 1 := nums_n3 (by rw [nr_num gg4]; decide)
    have y4c : 2 < (numsOf (ln (t ⟨⟩) 4)).length := by rw [l4]; decide
    have p4c : (numsOf (ln (t ⟨⟩) 4)).getD 2 0 = n3 (ln (t ⟨⟩) 4) 2 := nums_n3 (by rw [nr_num gg4]; decide)
    have hL : spL (t ⟨⟩) = [n3 (ln (t ⟨⟩) 1) 0, n3 (ln (t ⟨⟩) 1) 1, n3 (ln (t ⟨⟩) 1) 2, n3 (ln (t ⟨⟩) 2) 0, n3 (ln (t ⟨⟩) 2) 1, n3 (ln (t ⟨⟩) 2) 2, n3 (ln (t ⟨⟩) 3) 0, n3 (ln (t ⟨⟩) 3) 1, n3 (ln (t ⟨⟩) 3) 2, n3 (ln (t ⟨⟩) 4) 0, n3 (ln (t ⟨⟩) 4) 1, n3 (ln (t ⟨⟩) 4) 2] := by unfold spL; rw [hn]; rfl
    have hS : [(numsOf (ln (t ⟨⟩) 1)).getD 0 0, (numsOf (ln (t ⟨⟩) 1)).getD 1 0, (numsOf (ln (t ⟨⟩) 1)).getD 2 0, (numsOf (ln (t ⟨⟩) 2)).getD 0 0, (numsOf (ln (t ⟨⟩) 2)).getD 1 0, (numsOf (ln (t ⟨⟩) 2)).getD 2 0, (numsOf (ln (t ⟨⟩) 3)).getD 0 0, (numsOf (ln (t ⟨⟩) 3)).getD 1 0, (numsOf (ln (t ⟨⟩) 3)).getD 2 0, (numsOf (ln (t ⟨⟩) 4)).getD 0 0, (numsOf (ln (t ⟨⟩) 4)).getD 1 0, (numsOf (ln (t ⟨⟩) 4)).getD 2 0] = spL (t ⟨⟩) := by rw [hL, p1a, p1b, p1c, p2a, p2b, p2c, p3a, p3b, p3c, p4a, p4b, p4c]
    have hnn : 4 = nl (t ⟨⟩) - 1 := by omega
    have hW : webOk ((numsOf (ln (t ⟨⟩) 0)).getD 0 0) ((numsOf (ln (t ⟨⟩) 0)).getD 1 0) ((numsOf (ln (t ⟨⟩) 0)).getD 2 0) [(numsOf (ln (t ⟨⟩) 1)).getD 0 0, (numsOf (ln (t ⟨⟩) 1)).getD 1 0, (numsOf (ln (t ⟨⟩) 1)).getD 2 0, (numsOf (ln (t ⟨⟩) 2)).getD 0 0, (numsOf (ln (t ⟨⟩) 2)).getD 1 0, (numsOf (ln (t ⟨⟩) 2)).getD 2 0, (numsOf (ln (t ⟨⟩) 3)).getD 0 0, (numsOf (ln (t ⟨⟩) 3)).getD 1 0, (numsOf (ln (t ⟨⟩) 3)).getD 2 0, (numsOf (ln (t ⟨⟩) 4)).getD 0 0, (numsOf (ln (t ⟨⟩) 4)).getD 1 0, (numsOf (ln (t ⟨⟩) 4)).getD 2 0] 4 = wOk (t ⟨⟩) := by unfold wOk; rw [hS, p0a, p0b, p0c]; exact congrArg (webOk _ _ _ _) hnn
    have hw2 := congrArg not (hW.trans h1.2.2.2.2)
    refine ⟨_, HLe.refl _, ?_⟩
    cbv
    repeat' first | (refine Ob.mk ?_ ?_; (focus (first | exact h21 | exact y0a | exact y0b | exact y0c | exact y1a | exact y1b | exact y1c | exact y2a | exact y2b | exact y2c | exact y3a | exact y3b | exact y3c | exact y4a | exact y4b | exact y4c | exact p0a | exact p0b | exact p0c | exact hS | exact hnn | exact ⟨rfl, rfl, by decide⟩ | exact ⟨by decide, by decide⟩ | exact ⟨by decide, by decide, by decide⟩ | exact rfl)); cbv) | (refine Br.f hb ?_; cbv) | (refine Br.f hw2 ?_; cbv)
    (first | (refine Lex.tail 16 (by decide +kernel) ?_; cbv) | (refine Lex.pull [0, 1, 2, 3, 4, 5, 6, 7, 8, 9, 10, 11, 12, 13, 14, 15] (by decide +kernel) ?_; cbv))
    repeat' first | (refine Ob.mk ?_ ?_; (focus (first | exact h21 | exact y0a | exact y0b | exact y0c | exact y1a | exact y1b | exact y1c | exact y2a | exact y2b | exact y2c | exact y3a | exact y3b | exact y3c | exact y4a | exact y4b | exact y4c | exact p0a | exact p0b | exact p0c | exact hS | exact hnn | exact ⟨rfl, rfl, by decide⟩ | exact ⟨by decide, by decide⟩ | exact ⟨by decide, by decide, by decide⟩ | exact rfl)); cbv) | (refine Br.f hb ?_; cbv) | (refine Br.f hw2 ?_; cbv)
    refine Loop.mk 70 ?_
    cbv
    refine Gen.mk (fr 66 [(2, .c (.p 0 (.l 0))), (6, .c (.p 7 (.l 0))), (39, .c (.sl 1 (.l 1) (.l 4))), (40, .c (.i .i64 (.l 4))), (41, .c (.i .i64 (.l 0)))]) [some ⟨true, 0, .lit [.f .f32 fun _ => 0, .f .f32 fun _ => 0, .f .f32 fun _ => 0, .sn]⟩, some ⟨true, 1, .lit [.sl 2 (.l 0) (.x fun _ => 3), .sl 3 (.l 0) (.x fun _ => 3), .sl 4 (.l 0) (.x fun _ => 3), .sl 5 (.l 0) (.x fun _ => 3), .sl 6 (.l 0) (.x fun _ => 3)]⟩, some ⟨true, 1, .fl fun _ => numsOf (ln (t ()) 0)⟩, some ⟨true, 1, .fl fun _ => numsOf (ln (t ()) 1)⟩, some ⟨true, 1, .fl fun _ => numsOf (ln (t ()) 2)⟩, some ⟨true, 1, .fl fun _ => numsOf (ln (t ()) 3)⟩, some ⟨true, 1, .fl fun _ => numsOf (ln (t ()) 4)⟩, some ⟨true, 0, .lit [.f .f32 fun _ => (numsOf (ln (t ()) 0)).getD 0 0, .f .f32 fun _ => (numsOf (ln (t ()) 0)).getD 1 0, .f .f32 fun _ => (numsOf (ln (t ()) 0)).getD 2 0, .sn]⟩] ?_
    cbv
    repeat' (refine Ob.mk ?_ ?_; (focus (exact rfl)); cbv)
    repeat' (refine Ob.mk ?_ ?_; (focus (first | exact rfl | exact y1a | exact y1b | exact y1c | exact ⟨by decide, by decide⟩ | exact ⟨by decide, by decide, by decide⟩)); cbv)
    refine Lex.pull [0, 2, 3, 4, 5, 6, 7, 8, 9, 10, 11] (by decide +kernel) ?_
    cbv
    repeat' (refine Ob.mk ?_ ?_; (focus (first | exact rfl | exact y1a | exact y1b | exact y1c | exact ⟨by decide, by decide⟩ | exact ⟨by decide, by decide, by decide⟩)); cbv)
    refine Both.mk ?_ ?_
    cbv
    repeat' (refine Ob.mk ?_ ?_; (focus (first | exact rfl | exact y1a | exact y1b | exact y1c | exact ⟨by decide, by decide⟩ | exact ⟨by decide, by decide, by decide⟩)); cbv)
    refine ?j1
    rotate_left
    cbv
    repeat' (refine Ob.mk ?_ ?_; (focus (first | exact rfl | exact y1a | exact y1b | exact y1c | exact ⟨by decide, by decide⟩ | exact ⟨by decide, by decide, by decide⟩)); cbv)
    exact ?j1
    refine Gen.ren [0, 1, 2, 3, 4, 5, 6, 7, 9] (fr 66 [(2, .c (.p 0 (.l 0))), (6, .c (.p 7 (.l 0))), (39, .c (.sl 1 (.l 1) (.l 4))), (40, .c (.i .i64 (.l 4))), (41, .c (.i .i64 (.l 1)))]) [some ⟨true, 0, .lit [.f .f32 fun _ => 0, .f .f32 fun _ => 0, .f .f32 fun _ => 0, .sn]⟩, some ⟨true, 1, .lit [.sl 2 (.l 0) (.x fun _ => 3), .sl 3 (.l 0) (.x fun _ => 3), .sl 4 (.l 0) (.x fun _ => 3), .sl 5 (.l 0) (.x fun _ => 3), .sl 6 (.l 0) (.x fun _ => 3)]⟩, some ⟨true, 1, .fl fun _ => numsOf (ln (t ()) 0)⟩, some ⟨true, 1, .fl fun _ => numsOf (ln (t ()) 1)⟩, some ⟨true, 1, .fl fun _ => numsOf (ln (t ()) 2)⟩, some ⟨true, 1, .fl fun _ => numsOf (ln (t ()) 3)⟩, some ⟨true, 1, .fl fun _ => numsOf (ln (t ()) 4)⟩, some ⟨true, 0, .lit [.f .f32 fun _ => (numsOf (ln (t ()) 0)).getD 0 0, .f .f32 fun _ => (numsOf (ln (t ()) 0)).getD 1 0, .f .f32 fun _ => (numsOf (ln (t ()) 0)).getD 2 0, .sl 8 (.l 0) (.l 1)]⟩, some ⟨true, 3, .lit [.f .f32 fun _ => (numsOf (ln (t ()) 1)).getD 0 0, .f .f32 fun _ => (numsOf (ln (t ()) 1)).getD 1 0, .f .f32 fun _ => (numsOf (ln (t ()) 1)).getD 2 0]⟩] ?_
    cbv
    repeat' (refine Ob.mk ?_ ?_; (focus (exact rfl)); cbv)
    repeat' (refine Ob.mk ?_ ?_; (focus (first | exact rfl | exact y2a | exact y2b | exact y2c | exact ⟨by decide, by decide⟩ | exact ⟨by decide, by decide, by decide⟩)); cbv)
    refine Lex.pull [0, 2, 3, 4, 5, 6, 7, 8, 9, 10, 11] (by decide +kernel) ?_
    cbv
    repeat' (refine Ob.mk ?_ ?_; (focus (first | exact rfl | exact y2a | exact y2b | exact y2c | exact ⟨by decide, by decide⟩ | exact ⟨by decide, by decide, by decide⟩)); cbv)
    refine Both.mk ?_ ?_
    cbv
    repeat' (refine Ob.mk ?_ ?_; (focus (first | exact rfl | exact y2a | exact y2b | exact y2c | exact ⟨by decide, by decide⟩ | exact ⟨by decide, by decide, by decide⟩)); cbv)
    refine ?j2
    rotate_left
    cbv
    repeat' (refine Ob.mk ?_ ?_; (focus (first | exact rfl | exact y2a | exact y2b | exact y2c | exact ⟨by decide, by decide⟩ | exact ⟨by decide, by decide, by decide⟩)); cbv)
    exact ?j2
    refine Gen.ren [0, 1, 2, 3, 4, 5, 6, 7, 10] (fr 66 [(2, .c (.p 0 (.l 0))), (6, .c (.p 7 (.l 0))), (39, .c (.sl 1 (.l 1) (.l 4))), (40, .c (.i .i64 (.l 4))), (41, .c (.i .i64 (.l 2)))]) [some ⟨true, 0, .lit [.f .f32 fun _ => 0, .f .f32 fun _ => 0, .f .f32 fun _ => 0, .sn]⟩, some ⟨true, 1, .lit [.sl 2 (.l 0) (.x fun _ => 3), .sl 3 (.l 0) (.x fun _ => 3), .sl 4 (.l 0) (.x fun _ => 3), .sl 5 (.l 0) (.x fun _ => 3), .sl 6 (.l 0) (.x fun _ => 3)]⟩, some ⟨true, 1, .fl fun _ => numsOf (ln (t ()) 0)⟩, some ⟨true, 1, .fl fun _ => numsOf (ln (t ()) 1)⟩, some ⟨true, 1, .fl fun _ => numsOf (ln (t ()) 2)⟩, some ⟨true, 1, .fl fun _ => numsOf (ln (t ()) 3)⟩, some ⟨true, 1, .fl fun _ => numsOf (ln (t ()) 4)⟩, some ⟨true, 0, .lit [.f .f32 fun _ => (numsOf (ln (t ()) 0)).getD 0 0, .f .f32 fun _ => (numsOf (ln (t ()) 0)).getD 1 0, .f .f32 fun _ => (numsOf (ln (t ()) 0)).getD 2 0, .sl 8 (.l 0) (.l 2)]⟩, some ⟨true, 3, .lit [.f .f32 fun _ => (numsOf (ln (t ()) 1)).getD 0 0, .f .f32 fun _ => (numsOf (ln (t ()) 1)).getD 1 0, .f .f32 fun _ => (numsOf (ln (t ()) 1)).getD 2 0, .f .f32 fun _ => (numsOf (ln (t ()) 2)).getD 0 0, .f .f32 fun _ => (numsOf (ln (t ()) 2)).getD 1 0, .f .f32 fun _ => (numsOf (ln (t ()) 2)).getD 2 0]⟩] ?_
    cbv
    repeat' (refine Ob.mk ?_ ?_; (focus (exact rfl)); cbv)
    repeat' (refine Ob.mk ?_ ?_; (focus (first | exact rfl | exact y3a | exact y3b | exact y3c | exact ⟨by decide, by decide⟩ | exact ⟨by decide, by decide, by decide⟩)); cbv)
    refine Lex.pull [0, 2, 3, 4, 5, 6, 7, 8, 9, 10, 11] (by decide +kernel) ?_
    cbv
    repeat' (refine Ob.mk ?_ ?_; (focus (first | exact rfl | exact y3a | exact y3b | exact y3c | exact ⟨by decide, by decide⟩ | exact ⟨by decide, by decide, by decide⟩)); cbv)
    refine Both.mk ?_ ?_
    cbv
    repeat' (refine Ob.mk ?_ ?_; (focus (first | exact rfl | exact y3a | exact y3b | exact y3c | exact ⟨by decide, by decide⟩ | exact ⟨by decide, by decide, by decide⟩)); cbv)
    refine ?j3
    rotate_left
    cbv
    repeat' (refine Ob.mk ?_ ?_; (focus (first | exact rfl | exact y3a | exact y3b | exact y3c | exact ⟨by decide, by decide⟩ | exact ⟨by decide, by decide, by decide⟩)); cbv)
    exact ?j3
    refine Gen.ren [0, 1, 2, 3, 4, 5, 6, 7, 10] (fr 66 [(2, .c (.p 0 (.l 0))), (6, .c (.p 7 (.l 0))), (39, .c (.sl 1 (.l 1) (.l 4))), (40, .c (.i .i64 (.l 4))), (41, .c (.i .i64 (.l 3)))]) [some ⟨true, 0, .lit [.f .f32 fun _ => 0, .f .f32 fun _ => 0, .f .f32 fun _ => 0, .sn]⟩, some ⟨true, 1, .lit [.sl 2 (.l 0) (.x fun _ => 3), .sl 3 (.l 0) (.x fun _ => 3), .sl 4 (.l 0) (.x fun _ => 3), .sl 5 (.l 0) (.x fun _ => 3), .sl 6 (.l 0) (.x fun _ => 3)]⟩, some ⟨true, 1, .fl fun _ => numsOf (ln (t ()) 0)⟩, some ⟨true, 1, .fl fun _ => numsOf (ln (t ()) 1)⟩, some ⟨true, 1, .fl fun _ => numsOf (ln (t ()) 2)⟩, some ⟨true, 1, .fl fun _ => numsOf (ln (t ()) 3)⟩, some ⟨true, 1, .fl fun _ => numsOf (ln (t ()) 4)⟩, some ⟨true, 0, .lit [.f .f32 fun _ => (numsOf (ln (t ()) 0)).getD 0 0, .f .f32 fun _ => (numsOf (ln (t ()) 0)).getD 1 0, .f .f32 fun _ => (numsOf (ln (t ()) 0)).getD 2 0, .sl 8 (.l 0) (.l 3)]⟩, some ⟨true, 3, .lit [.f .f32 fun _ => (numsOf (ln (t ()) 1)).getD 0 0, .f .f32 fun _ => (numsOf (ln (t ()) 1)).getD 1 0, .f .f32 fun _ => (numsOf (ln (t ()) 1)).getD 2 0, .f .f32 fun _ => (numsOf (ln (t ()) 2)).getD 0 0, .f .f32 fun _ => (numsOf (ln (t ()) 2)).getD 1 0, .f .f32 fun _ => (numsOf (ln (t ()) 2)).getD 2 0, .f .f32 fun _ => (numsOf (ln (t ()) 3)).getD 0 0, .f .f32 fun _ => (numsOf (ln (t ()) 3)).getD 1 0, .f .f32 fun _ => (numsOf (ln (t ()) 3)).getD 2 0]⟩] ?_
    cbv
    repeat' (refine Ob.mk ?_ ?_; (focus (exact rfl)); cbv)
    repeat' (refine Ob.mk ?_ ?_; (focus (first | exact rfl | exact y4a | exact y4b | exact y4c | exact ⟨by decide, by decide⟩ | exact ⟨by decide, by decide, by decide⟩)); cbv)
    refine Lex.pull [0, 2, 3, 4, 5, 6, 7, 8, 9, 10, 11] (by decide +kernel) ?_
    cbv
    repeat' (refine Ob.mk ?_ ?_; (focus (first | exact rfl | exact y4a | exact y4b | exact y4c | exact ⟨by decide, by decide⟩ | exact ⟨by decide, by decide, by decide⟩)); cbv)
    refine Both.mk ?_ ?_
    cbv
    repeat' (refine Ob.mk ?_ ?_; (focus (first | exact rfl | exact y4a | exact y4b | exact y4c | exact ⟨by decide, by decide⟩ | exact ⟨by decide, by decide, by decide⟩)); cbv)
    refine ?j4
    rotate_left
    cbv
    repeat' (refine Ob.mk ?_ ?_; (focus (first | exact rfl | exact y4a | exact y4b | exact y4c | exact ⟨by decide, by decide⟩ | exact ⟨by decide, by decide, by decide⟩)); cbv)
    exact ?j4
    refine Gen.ren [0, 1, 2, 3, 4, 5, 6, 7, 10] (fr 66 [(2, .c (.p 0 (.l 0))), (6, .c (.p 7 (.l 0))), (39, .c (.sl 1 (.l 1) (.l 4))), (40, .c (.i .i64 (.l 4))), (41, .c (.i .i64 (.l 4)))]) [some ⟨true, 0, .lit [.f .f32 fun _ => 0, .f .f32 fun _ => 0, .f .f32 fun _ => 0, .sn]⟩, some ⟨true, 1, .lit [.sl 2 (.l 0) (.x fun _ => 3), .sl 3 (.l 0) (.x fun _ => 3), .sl 4 (.l 0) (.x fun _ => 3), .sl 5 (.l 0) (.x fun _ => 3), .sl 6 (.l 0) (.x fun _ => 3)]⟩, some ⟨true, 1, .fl fun _ => numsOf (ln (t ()) 0)⟩, some ⟨true, 1, .fl fun _ => numsOf (ln (t ()) 1)⟩, some ⟨true, 1, .fl fun _ => numsOf (ln (t ()) 2)⟩, some ⟨true, 1, .fl fun _ => numsOf (ln (t ()) 3)⟩, some ⟨true, 1, .fl fun _ => numsOf (ln (t ()) 4)⟩, some ⟨true, 0, .lit [.f .f32 fun _ => (numsOf (ln (t ()) 0)).getD 0 0, .f .f32 fun _ => (numsOf (ln (t ()) 0)).getD 1 0, .f .f32 fun _ => (numsOf (ln (t ()) 0)).getD 2 0, .sl 8 (.l 0) (.l 4)]⟩, some ⟨true, 3, .lit [.f .f32 fun _ => (numsOf (ln (t ()) 1)).getD 0 0, .f .f32 fun _ => (numsOf (ln (t ()) 1)).getD 1 0, .f .f32 fun _ => (numsOf (ln (t ()) 1)).getD 2 0, .f .f32 fun _ => (numsOf (ln (t ()) 2)).getD 0 0, .f .f32 fun _ => (numsOf (ln (t ()) 2)).getD 1 0, .f .f32 fun _ => (numsOf (ln (t ()) 2)).getD 2 0, .f .f32 fun _ => (numsOf (ln (t ()) 3)).getD 0 0, .f .f32 fun _ => (numsOf (ln (t ()) 3)).getD 1 0, .f .f32 fun _ => (numsOf (ln (t ()) 3)).getD 2 0, .f .f32 fun _ => (numsOf (ln (t ()) 4)).getD 0 0, .f .f32 fun _ => (numsOf (ln (t ()) 4)).getD 1 0, .f .f32 fun _ => (numsOf (ln (t ()) 4)).getD 2 0]⟩] ?_
    cbv
    repeat' (refine Ob.mk ?_ ?_; (focus (exact rfl)); cbv)
    repeat' first | (refine Ob.mk ?_ ?_; (focus (first | exact h21 | exact y0a | exact y0b | exact y0c | exact y1a | exact y1b | exact y1c | exact y2a | exact y2b | exact y2c | exact y3a | exact y3b | exact y3c | exact y4a | exact y4b | exact y4c | exact p0a | exact p0b | exact p0c | exact hS | exact hnn | exact ⟨rfl, rfl, by decide⟩ | exact ⟨by decide, by decide⟩ | exact ⟨by decide, by decide, by decide⟩ | exact rfl)); cbv) | (refine Br.f hb ?_; cbv) | (refine Br.f hw2 ?_; cbv)
  · cases hs
end Go.Proofs.YteifneielgnniaaGreatDoor.Sh
end
section
namespace Go.Proofs.YteifneielgnniaaGreatDoor.Sh
open Go Go.Proofs
theorem gd_tot {t : ByteArray} (hg : gdTo t (nl t) = true) (h : tl t = true) : t.size = 27 * nl t := by
  have h3 : sumL (wds 10 t) = t.size + 1 := by
    show sumL (splA 10 [] (bl t)) = _
    rw [splA_tot, bl_len]; simp
  have hlen : ∀ i, (ln t i).size = ((wds 10 t).getD i []).length := fun i => by
    unfold ln
    rw [← bl_len, getD_map tx _ i [] _ tx_e]; rfl
  have key : ∀ (ws : List (List UInt8)) (k : Nat), ws.length = k + 1 → (∀ i, i < k → (ws.getD i []).length = 26) → (ws.getD k []).length = 0 → sumL ws = 27 * k + 1 := by
    intro ws
    induction ws with
    | nil => intro k hk; simp at hk
    | cons w ws ih =>
      intro k hk h h0
      cases k with
      | zero =>
        have : ws = [] := List.length_eq_zero_iff.1 (by simpa using hk)
        subst this
        simp only [List.getD_cons_zero] at h0
        simp [sumL, h0]
      | succ k =>
        have h1 := h 0 (by omega)
        have := ih k (by simpa using hk) (fun i hi => by simpa using h (i + 1) (by omega)) (by simpa using h0)
        simp only [List.getD_cons_zero] at h1
        simp only [sumL]; omega
  have hpos := wds_pos 10 t
  have := key (wds 10 t) (nl t) (by unfold nl; omega) (fun i hi => by rw [← hlen]; exact gd_size (allI_at hg hi)) (by
    rw [← hlen]
    unfold tl at h
    have : (ln t (nl t)).data.toList = [] := by simpa using h
    rw [← bl_len]; unfold bl; rw [this]; rfl)
  omega
theorem ok8T : Ok Tryz.prog 8 (sRT fun t => rwOk t = true ∧ nl t ≤ 5) := okRT_of fun t h hz => by
  obtain ⟨h, h5⟩ := h
  obtain ⟨hA, hg, hv⟩ := rw_t h
  obtain ⟨ht, h2, h9⟩ := okA_t hA
  have hs := gd_tot hg ht
  have hs : t.size ≤ 243 := by omega
  have : nl t = 2 ∨ nl t = 3 ∨ nl t = 4 ∨ nl t = 5 := by omega
  rcases this with e | e | e | e
  · exact ⟨_, ⟨hs, e, by rw [← e]; exact hg, ht, hv⟩, ok9T2⟩
  · exact ⟨_, ⟨hs, e, by rw [← e]; exact hg, ht, hv⟩, ok9T3⟩
  · exact ⟨_, ⟨hs, e, by rw [← e]; exact hg, ht, hv⟩, ok9T4⟩
  · exact ⟨_, ⟨hs, e, by rw [← e]; exact hg, ht, hv⟩, ok9T5⟩
end Go.Proofs.YteifneielgnniaaGreatDoor.Sh
end
