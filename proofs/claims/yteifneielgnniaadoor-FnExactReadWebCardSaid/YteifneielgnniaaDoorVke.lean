/- The program reads a web: so many lines, all good. No condition. -/
import Derived.Test.YteifneielgnniaaDoorVi
set_option linter.unusedVariables false
set_option linter.unusedSimpArgs false
set_option linter.unusedSectionVars false
section
namespace Go.Proofs.YteifneielgnniaaDoor.Sh
open Go Go.Proofs
attribute [local irreducible] wds tx rn rnC rnOk nrOk v3a v3b v3c wAt n3 webOk spL tl nl wOk numsOf rwOk
def E9T6 : Env := fun g => envGetL [(21, ⟨true, sLT6 (fun t => t.size ≤ 243 ∧ nl t = 6 ∧ gdTo t 6 = true), none⟩), (22, ⟨true, s22, none⟩)] g
set_option maxRecDepth 100000 in
set_option maxHeartbeats 8000000 in
theorem ok9T6 : Ok Tryd.prog 9 (sRT fun t => t.size ≤ 243 ∧ nl t = 6 ∧ gdTo t 6 = true ∧ tl t = true ∧ wOk t = true) := ok_of_wpaH (E := E9T6) mixed tts (envOk_cons ok21K6 (envOk_cons ok22 (envOk_nil _))) fn9 fun args H v H' o hs ho => by
  split at hs
  · rename_i t
    cases hs
    have hsz : (t ⟨⟩).size ≤ 1048576 := ho.two.2
    have h1 := ho.two.1
    have hn : nl (t ⟨⟩) = 6 := h1.2.1
    have hg : gdTo (t ⟨⟩) 6 = true := h1.2.2.1
    have ht : tl (t ⟨⟩) = true := h1.2.2.2.1
    have h21 : ((t ⟨⟩).size ≤ 243 ∧ nl (t ⟨⟩) = 6 ∧ gdTo (t ⟨⟩) 6 = true) ∧ (t ⟨⟩).size ≤ 1048576 ∧ (3 : Int) = 3 ∧ (9 : Int) = 9 := ⟨⟨h1.1, h1.2.1, h1.2.2.1⟩, hsz, rfl, rfl⟩
    have hb : (!(tl (t ⟨⟩))) = false := ntf ht
    have gg0 : nrOk 3 (ln (t ⟨⟩) 0) = true := show gd (t ⟨⟩) 0 = true from allI_at hg (by omega)
    have l0 : (numsOf (ln (t ⟨⟩) 0)).length = 3 := by rw [nums_l, nr_num gg0]
    have y0a : 0 < (numsOf (ln (t ⟨⟩) 0)).length := by rw [l0]; decide
    have p0a : (numsOf (ln (t ⟨⟩) 0)).getD 0 0 = n3 (ln (t ⟨⟩) 0) 0 := nums_n3 (by rw [nr_num gg0]; decide)
    have y0b : 1 < (numsOf (ln (t ⟨⟩) 0)).length := by rw [l0]; decide
    have p0b : (numsOf (ln (t ⟨⟩) 0)).getD 1 0 = n3 (ln (t ⟨⟩) 0) 1 := nums_n3 (by rw [nr_num gg0]; decide)
    have y0c : 2 < (numsOf (ln (t ⟨⟩) 0)).length := by rw [l0]; decide
    have p0c : (numsOf (ln (t ⟨⟩) 0)).getD 2 0 = n3 (ln (t ⟨⟩) 0) 2 := nums_n3 (by rw [nr_num gg0]; decide)
    have gg1 : nrOk 3 (ln (t ⟨⟩) 1) = true := show gd (t ⟨⟩) 1 = true from allI_at hg (by omega)
    have l1 : (numsOf (ln (t ⟨⟩) 1)).length = 3 := by rw [nums_l, nr_num gg1]
    have y1a : 0 < (numsOf (ln (t ⟨⟩) 1)).length := by rw [l1]; decide
    have p1a : (numsOf (ln (t ⟨⟩) 1)).getD 0 0 = n3 (ln (t ⟨⟩) 1) 0 := nums_n3 (by rw [nr_num gg1]; decide)
    have y1b : 1 < (numsOf (ln (t ⟨⟩) 1)).length := by rw [l1]; decide
    have p1b : (numsOf (ln (t ⟨⟩) 1)).getD 1 0 = n3 (ln (t ⟨⟩) 1) 1 := nums_n3 (by rw [nr_num gg1]; decide)
    have y1c : 2 < (numsOf (ln (t ⟨⟩) 1)).length := by rw [l1]; decide
    have p1c : (numsOf (ln (t ⟨⟩) 1)).getD 2 0 = n3 (ln (t ⟨⟩) 1) 2 := nums_n3 (by rw [nr_num gg1]; decide)
    have gg2 : nrOk 3 (ln (t ⟨⟩) 2) = true := show gd (t ⟨⟩) 2 = true from allI_at hg (by omega)
    have l2 : (numsOf (ln (t ⟨⟩) 2)).length = 3 := by rw [nums_l, nr_num gg2]
    have y2a : 0 < (numsOf (ln (t ⟨⟩) 2)).length := by rw [l2]; decide
    have p2a : (numsOf (ln (t ⟨⟩) 2)).getD 0 0 = n3 (ln (t ⟨⟩) 2) 0 := nums_n3 (by rw [nr_num gg2]; decide)
    have y2b : 1 < (numsOf (ln (t ⟨⟩) 2)).length := by rw [l2]; decide
    have p2b : (numsOf (ln (t ⟨⟩) 2)).getD 1 0 = n3 (ln (t ⟨⟩) 2) 1 := nums_n3 (by rw [nr_num gg2]; decide)
    have y2c : 2 < (numsOf (ln (t ⟨⟩) 2)).length := by rw [l2]; decide
    have p2c : (numsOf (ln (t ⟨⟩) 2)).getD 2 0 = n3 (ln (t ⟨⟩) 2) 2 := nums_n3 (by rw [nr_num gg2]; decide)
    have gg3 : nrOk 3 (ln (t ⟨⟩) 3) = true := show gd (t ⟨⟩) 3 = true from allI_at hg (by omega)
    have l3 : (numsOf (ln (t ⟨⟩) 3)).length = 3 := by rw [nums_l, nr_num gg3]
    have y3a : 0 < (numsOf (ln (t ⟨⟩) 3)).length := by rw [l3]; decide
    have p3a : (numsOf (ln (t ⟨⟩) 3)).getD 0 0 = n3 (ln (t ⟨⟩) 3) 0 := nums_n3 (by rw [nr_num gg3]; decide)
    have y3b : 1 < (numsOf (ln (t ⟨⟩) 3)).length := by rw [l3]; decide
    have p3b : (numsOf (ln (t ⟨⟩) 3)).getD 1 0 = n3 (ln (t ⟨⟩) 3) 1 := nums_n3 (by rw [nr_num gg3]; decide)
    have y3c : 2 < (numsOf (ln (t ⟨⟩) 3)).length := by rw [l3]; decide
    have p3c : (numsOf (ln (t ⟨⟩) 3)).getD 2 0 = n3 (ln (t ⟨⟩) 3) 2 := nums_n3 (by rw [nr_num gg3]; decide)
    have gg4 : nrOk 3 (ln (t ⟨⟩) 4) = true := show gd (t ⟨⟩) 4 = true from allI_at hg (by omega)
    have l4 : (numsOf (ln (t ⟨⟩) 4)).length = 3 := by rw [nums_l, nr_num gg4]
    have y4a : 0 < (numsOf (ln (t ⟨⟩) 4)).length := by rw [l4]; decide
    have p4a : (numsOf (ln (t ⟨⟩) 4)).getD 0 0 = n3 (ln (t ⟨⟩) 4) 0 := nums_n3 (by rw [nr_num gg4]; decide)
    have y4b : 1 < (numsOf (ln (t ⟨⟩) 4)).length := by rw [l4]; decide
    have p4b : (numsOf (ln (t ⟨⟩) 4)).getD 1 0 = n3 (ln (t ⟨⟩) 4) 1 := nums_n3 (by rw [nr_num gg4]; decide)
    have y4c : 2 < (numsOf (ln (t ⟨⟩) 4)).length := by rw [l4]; decide
    have p4c : (numsOf (ln (t ⟨⟩) 4)).getD 2 0 = n3 (ln (t ⟨⟩) 4) 2 := nums_n3 (by rw [nr_num gg4]; decide)
    have gg5 : nrOk 3 (ln (t ⟨⟩) 5) = true := show gd (t ⟨⟩) 5 = true from allI_at hg (by omega)
    have l5 : (numsOf (ln (t ⟨⟩) 5)).length = 3 := by rw [nums_l, nr_num gg5]
    have y5a : 0 < (numsOf (ln (t ⟨⟩) 5)).length := by rw [l5]; decide
    have p5a : (numsOf (ln (t ⟨⟩) 5)).getD 0 0 = n3 (ln (t ⟨⟩) 5) 0 := nums_n3 (by rw [nr_num gg5]; decide)
    have y5b : 1 < (numsOf (ln (t ⟨⟩) 5)).length := by rw [l5]; decide
    have p5b : (numsOf (ln (t ⟨⟩) 5)).getD 1 0 = n3 (ln (t ⟨⟩) 5) 1 := nums_n3 (by rw [nr_num gg5]; decide)
    have y5c : 2 < (numsOf (ln (t ⟨⟩) 5)).length := by rw [l5]; decide
    have p5c : (numsOf (ln (t ⟨⟩) 5)).getD 2 0 = n3 (ln (t ⟨⟩) 5) 2 := nums_n3 (by rw [nr_num gg5]; decide)
    have hL : spL (t ⟨⟩) = [n3 (ln (t ⟨⟩) 1) 0, n3 (ln (t ⟨⟩) 1) 1, n3 (ln (t ⟨⟩) 1) 2, n3 (ln (t ⟨⟩) 2) 0, n3 (ln (t ⟨⟩) 2) 1, n3 (ln (t ⟨⟩) 2) 2, n3 (ln (t ⟨⟩) 3) 0, n3 (ln (t ⟨⟩) 3) 1, n3 (ln (t ⟨⟩) 3) 2, n3 (ln (t ⟨⟩) 4) 0, n3 (ln (t ⟨⟩) 4) 1, n3 (ln (t ⟨⟩) 4) 2, n3 (ln (t ⟨⟩) 5) 0, n3 (ln (t ⟨⟩) 5) 1, n3 (ln (t ⟨⟩) 5) 2] := by unfold spL; rw [hn]; rfl
    have hS : [(numsOf (ln (t ⟨⟩) 1)).getD 0 0, (numsOf (ln (t ⟨⟩) 1)).getD 1 0, (numsOf (ln (t ⟨⟩) 1)).getD 2 0, (numsOf (ln (t ⟨⟩) 2)).getD 0 0, (numsOf (ln (t ⟨⟩) 2)).getD 1 0, (numsOf (ln (t ⟨⟩) 2)).getD 2 0, (numsOf (ln (t ⟨⟩) 3)).getD 0 0, (numsOf (ln (t ⟨⟩) 3)).getD 1 0, (numsOf (ln (t ⟨⟩) 3)).getD 2 0, (numsOf (ln (t ⟨⟩) 4)).getD 0 0, (numsOf (ln (t ⟨⟩) 4)).getD 1 0, (numsOf (ln (t ⟨⟩) 4)).getD 2 0, (numsOf (ln (t ⟨⟩) 5)).getD 0 0, (numsOf (ln (t ⟨⟩) 5)).getD 1 0, (numsOf (ln (t ⟨⟩) 5)).getD 2 0] = spL (t ⟨⟩) := by rw [hL, p1a, p1b, p1c, p2a, p2b, p2c, p3a, p3b, p3c, p4a, p4b, p4c, p5a, p5b, p5c]
    have hnn : 5 = nl (t ⟨⟩) - 1 := by omega
    have hW : webOk ((numsOf (ln (t ⟨⟩) 0)).getD 0 0) ((numsOf (ln (t ⟨⟩) 0)).getD 1 0) ((numsOf (ln (t ⟨⟩) 0)).getD 2 0) [(numsOf (ln (t ⟨⟩) 1)).getD 0 0, (numsOf (ln (t ⟨⟩) 1)).getD 1 0, (numsOf (ln (t ⟨⟩) 1)).getD 2 0, (numsOf (ln (t ⟨⟩) 2)).getD 0 0, (numsOf (ln (t ⟨⟩) 2)).getD 1 0, (numsOf (ln (t ⟨⟩) 2)).getD 2 0, (numsOf (ln (t ⟨⟩) 3)).getD 0 0, (numsOf (ln (t ⟨⟩) 3)).getD 1 0, (numsOf (ln (t ⟨⟩) 3)).getD 2 0, (numsOf (ln (t ⟨⟩) 4)).getD 0 0, (numsOf (ln (t ⟨⟩) 4)).getD 1 0, (numsOf (ln (t ⟨⟩) 4)).getD 2 0, (numsOf (ln (t ⟨⟩) 5)).getD 0 0, (numsOf (ln (t ⟨⟩) 5)).getD 1 0, (numsOf (ln (t ⟨⟩) 5)).getD 2 0] 5 = wOk (t ⟨⟩) := by unfold wOk; rw [hS, p0a, p0b, p0c]; exact congrArg (webOk _ _ _ _) hnn
    have hw2 := congrArg not (hW.trans h1.2.2.2.2)
    refine ⟨_, HLe.refl _, ?_⟩
    cbv
    repeat' first | (refine Ob.mk ?_ ?_; (focus (first | exact h21 | exact y0a | exact y0b | exact y0c | exact y1a | exact y1b | exact y1c | exact y2a | exact y2b | exact y2c | exact y3a | exact y3b | exact y3c | exact y4a | exact y4b | exact y4c | exact y5a | exact y5b | exact y5c | exact p0a | exact p0b | exact p0c | exact hS | exact hnn | exact ⟨rfl, rfl, by decide⟩ | exact ⟨by decide, by decide⟩ | exact ⟨by decide, by decide, by decide⟩ | exact rfl)); cbv) | (refine Br.f hb ?_; cbv) | (refine Br.f hw2 ?_; cbv)
    (first | (refine Lex.tail 16 (by decide +kernel) ?_; cbv) | (refine Lex.pull [0, 1, 2, 3, 4, 5, 6, 7, 8, 9, 10, 11, 12, 13, 14, 15] (by decide +kernel) ?_; cbv))
    repeat' first | (refine Ob.mk ?_ ?_; (focus (first | exact h21 | exact y0a | exact y0b | exact y0c | exact y1a | exact y1b | exact y1c | exact y2a | exact y2b | exact y2c | exact y3a | exact y3b | exact y3c | exact y4a | exact y4b | exact y4c | exact y5a | exact y5b | exact y5c | exact p0a | exact p0b | exact p0c | exact hS | exact hnn | exact ⟨rfl, rfl, by decide⟩ | exact ⟨by decide, by decide⟩ | exact ⟨by decide, by decide, by decide⟩ | exact rfl)); cbv) | (refine Br.f hb ?_; cbv) | (refine Br.f hw2 ?_; cbv)
    refine Loop.mk 70 ?_
    cbv
    refine Gen.mk (fr 66 [(2, .c (.p 0 (.l 0))), (6, .c (.p 8 (.l 0))), (39, .c (.sl 1 (.l 1) (.l 5))), (40, .c (.i .i64 (.l 5))), (41, .c (.i .i64 (.l 0)))]) [some ⟨true, 0, .lit [.f .f32 fun _ => 0, .f .f32 fun _ => 0, .f .f32 fun _ => 0, .sn]⟩, some ⟨true, 1, .lit [.sl 2 (.l 0) (.x fun _ => 3), .sl 3 (.l 0) (.x fun _ => 3), .sl 4 (.l 0) (.x fun _ => 3), .sl 5 (.l 0) (.x fun _ => 3), .sl 6 (.l 0) (.x fun _ => 3), .sl 7 (.l 0) (.x fun _ => 3)]⟩, some ⟨true, 1, .fl fun _ => numsOf (ln (t ()) 0)⟩, some ⟨true, 1, .fl fun _ => numsOf (ln (t ()) 1)⟩, some ⟨true, 1, .fl fun _ => numsOf (ln (t ()) 2)⟩, some ⟨true, 1, .fl fun _ => numsOf (ln (t ()) 3)⟩, some ⟨true, 1, .fl fun _ => numsOf (ln (t ()) 4)⟩, some ⟨true, 1, .fl fun _ => numsOf (ln (t ()) 5)⟩, some ⟨true, 0, .lit [.f .f32 fun _ => (numsOf (ln (t ()) 0)).getD 0 0, .f .f32 fun _ => (numsOf (ln (t ()) 0)).getD 1 0, .f .f32 fun _ => (numsOf (ln (t ()) 0)).getD 2 0, .sn]⟩] ?_
    cbv
    repeat' (refine Ob.mk ?_ ?_; (focus (exact rfl)); cbv)
    repeat' (refine Ob.mk ?_ ?_; (focus (first | exact rfl | exact y1a | exact y1b | exact y1c | exact ⟨by decide, by decide⟩ | exact ⟨by decide, by decide, by decide⟩)); cbv)
    refine Lex.pull [0, 2, 3, 4, 5, 6, 7, 8, 9, 10, 11] (by decide +kernel) ?_
    cbv
    repeat' (refine Ob.mk ?_ ?_; (focus (first | exact rfl | exact y1a | exact y1b | exact y1c | exact ⟨by decide, by decide⟩ | exact ⟨by decide, by decide, by decide⟩)); cbv)
    refine Both.mk ?_ ?_
    cbv
    repeat' (refine Ob.mk ?_ ?_; (focus (first | exact rfl | exact y1a | exact y1b | exact y1c | exact ⟨by decide, by decide⟩ | exact ⟨by decide, by decide, by decide⟩)); cbv)
    refine ?j1
    rotate_left
    cbv
    repeat' (refine Ob.mk ?_ ?_; (focus (first | exact rfl | exact y1a | exact y1b | exact y1c | exact ⟨by decide, by decide⟩ | exact ⟨by decide, by decide, by decide⟩)); cbv)
    exact ?j1
    refine Gen.ren [0, 1, 2, 3, 4, 5, 6, 7, 8, 10] (fr 66 [(2, .c (.p 0 (.l 0))), (6, .c (.p 8 (.l 0))), (39, .c (.sl 1 (.l 1) (.l 5))), (40, .c (.i .i64 (.l 5))), (41, .c (.i .i64 (.l 1)))]) [some ⟨true, 0, .lit [.f .f32 fun _ => 0, .f .f32 fun _ => 0, .f .f32 fun _ => 0, .sn]⟩, some ⟨true, 1, .lit [.sl 2 (.l 0) (.x fun _ => 3), .sl 3 (.l 0) (.x fun _ => 3), .sl 4 (.l 0) (.x fun _ => 3), .sl 5 (.l 0) (.x fun _ => 3), .sl 6 (.l 0) (.x fun _ => 3), .sl 7 (.l 0) (.x fun _ => 3)]⟩, some ⟨true, 1, .fl fun _ => numsOf (ln (t ()) 0)⟩, some ⟨true, 1, .fl fun _ => numsOf (ln (t ()) 1)⟩, some ⟨true, 1, .fl fun _ => numsOf (ln (t ()) 2)⟩, some ⟨true, 1, .fl fun _ => numsOf (ln (t ()) 3)⟩, some ⟨true, 1, .fl fun _ => numsOf (ln (t ()) 4)⟩, some ⟨true, 1, .fl fun _ => numsOf (ln (t ()) 5)⟩, some ⟨true, 0, .lit [.f .f32 fun _ => (numsOf (ln (t ()) 0)).getD 0 0, .f .f32 fun _ => (numsOf (ln (t ()) 0)).getD 1 0, .f .f32 fun _ => (numsOf (ln (t ()) 0)).getD 2 0, .sl 9 (.l 0) (.l 1)]⟩, some ⟨true, 3, .lit [.f .f32 fun _ => (numsOf (ln (t ()) 1)).getD 0 0, .f .f32 fun _ => (numsOf (ln (t ()) 1)).getD 1 0, .f .f32 fun _ => (numsOf (ln (t ()) 1)).getD 2 0]⟩] ?_
    cbv
    repeat' (refine Ob.mk ?_ ?_; (focus (exact rfl)); cbv)
    repeat' (refine Ob.mk ?_ ?_; (focus (first | exact rfl | exact y2a | exact y2b | exact y2c | exact ⟨by decide, by decide⟩ | exact ⟨by decide, by decide, by decide⟩)); cbv)
    refine Lex.pull [0, 2, 3, 4, 5, 6, 7, 8, 9, 10, 11] (by decide +kernel) ?_
    cbv
    repeat' (refine Ob.mk ?_ ?_; (focus (first | exact rfl | exact y2a | exact y2b | exact y2c | exact ⟨by decide, by decide⟩ | exact ⟨by decide, by decide, by decide⟩)); cbv)
    refine Both.mk ?_ ?_
    cbv
    repeat' (refine Ob.mk ?_ ?_; (focus (first | exact rfl | exact y2a | exact y2b | exact y2c | exact ⟨by decide, by decide⟩ | exact ⟨by decide, by decide, by decide⟩)); cbv)
    refine ?j2
    rotate_left
    cbv
    repeat' (refine Ob.mk ?_ ?_; (focus (first | exact rfl | exact y2a | exact y2b | exact y2c | exact ⟨by decide, by decide⟩ | exact ⟨by decide, by decide, by decide⟩)); cbv)
    exact ?j2
    refine Gen.ren [0, 1, 2, 3, 4, 5, 6, 7, 8, 11] (fr 66 [(2, .c (.p 0 (.l 0))), (6, .c (.p 8 (.l 0))), (39, .c (.sl 1 (.l 1) (.l 5))), (40, .c (.i .i64 (.l 5))), (41, .c (.i .i64 (.l 2)))]) [some ⟨true, 0, .lit [.f .f32 fun _ => 0, .f .f32 fun _ => 0, .f .f32 fun _ => 0, .sn]⟩, some ⟨true, 1, .lit [.sl 2 (.l 0) (.x fun _ => 3), .sl 3 (.l 0) (.x fun _ => 3), .sl 4 (.l 0) (.x fun _ => 3), .sl 5 (.l 0) (.x fun _ => 3), .sl 6 (.l 0) (.x fun _ => 3), .sl 7 (.l 0) (.x fun _ => 3)]⟩, some ⟨true, 1, .fl fun _ => numsOf (ln (t ()) 0)⟩, some ⟨true, 1, .fl fun _ => numsOf (ln (t ()) 1)⟩, some ⟨true, 1, .fl fun _ => numsOf (ln (t ()) 2)⟩, some ⟨true, 1, .fl fun _ => numsOf (ln (t ()) 3)⟩, some ⟨true, 1, .fl fun _ => numsOf (ln (t ()) 4)⟩, some ⟨true, 1, .fl fun _ => numsOf (ln (t ()) 5)⟩, some ⟨true, 0, .lit [.f .f32 fun _ => (numsOf (ln (t ()) 0)).getD 0 0, .f .f32 fun _ => (numsOf (ln (t ()) 0)).getD 1 0, .f .f32 fun _ => (numsOf (ln (t ()) 0)).getD 2 0, .sl 9 (.l 0) (.l 2)]⟩, some ⟨true, 3, .lit [.f .f32 fun _ => (numsOf (ln (t ()) 1)).getD 0 0, .f .f32 fun _ => (numsOf (ln (t ()) 1)).getD 1 0, .f .f32 fun _ => (numsOf (ln (t ()) 1)).getD 2 0, .f .f32 fun _ => (numsOf (ln (t ()) 2)).getD 0 0, .f .f32 fun _ => (numsOf (ln (t ()) 2)).getD 1 0, .f .f32 fun _ => (numsOf (ln (t ()) 2)).getD 2 0]⟩] ?_
    cbv
    repeat' (refine Ob.mk ?_ ?_; (focus (exact rfl)); cbv)
    repeat' (refine Ob.mk ?_ ?_; (focus (first | exact rfl | exact y3a | exact y3b | exact y3c | exact ⟨by decide, by decide⟩ | exact ⟨by decide, by decide, by decide⟩)); cbv)
    refine Lex.pull [0, 2, 3, 4, 5, 6, 7, 8, 9, 10, 11] (by decide +kernel) ?_
    cbv
    repeat' (refine Ob.mk ?_ ?_; (focus (first | exact rfl | exact y3a | exact y3b | exact y3c | exact ⟨by decide, by decide⟩ | exact ⟨by decide, by decide, by decide⟩)); cbv)
    refine Both.mk ?_ ?_
    cbv
    repeat' (refine Ob.mk ?_ ?_; (focus (first | exact rfl | exact y3a | exact y3b | exact y3c | exact ⟨by decide, by decide⟩ | exact ⟨by decide, by decide, by decide⟩)); cbv)
    refine ?j3
    rotate_left
    cbv
    repeat' (refine Ob.mk ?_ ?_; (focus (first | exact rfl | exact y3a | exact y3b | exact y3c | exact ⟨by decide, by decide⟩ | exact ⟨by decide, by decide, by decide⟩)); cbv)
    exact ?j3
    refine Gen.ren [0, 1, 2, 3, 4, 5, 6, 7, 8, 11] (fr 66 [(2, .c (.p 0 (.l 0))), (6, .c (.p 8 (.l 0))), (39, .c (.sl 1 (.l 1) (.l 5))), (40, .c (.i .i64 (.l 5))), (41, .c (.i .i64 (.l 3)))]) [some ⟨true, 0, .lit [.f .f32 fun _ => 0, .f .f32 fun _ => 0, .f .f32 fun _ => 0, .sn]⟩, some ⟨true, 1, .lit [.sl 2 (.l 0) (.x fun _ => 3), .sl 3 (.l 0) (.x fun _ => 3), .sl 4 (.l 0) (.x fun _ => 3), .sl 5 (.l 0) (.x fun _ => 3), .sl 6 (.l 0) (.x fun _ => 3), .sl 7 (.l 0) (.x fun _ => 3)]⟩, some ⟨true, 1, .fl fun _ => numsOf (ln (t ()) 0)⟩, some ⟨true, 1, .fl fun _ => numsOf (ln (t ()) 1)⟩, some ⟨true, 1, .fl fun _ => numsOf (ln (t ()) 2)⟩, some ⟨true, 1, .fl fun _ => numsOf (ln (t ()) 3)⟩, some ⟨true, 1, .fl fun _ => numsOf (ln (t ()) 4)⟩, some ⟨true, 1, .fl fun _ => numsOf (ln (t ()) 5)⟩, some ⟨true, 0, .lit [.f .f32 fun _ => (numsOf (ln (t ()) 0)).getD 0 0, .f .f32 fun _ => (numsOf (ln (t ()) 0)).getD 1 0, .f .f32 fun _ => (numsOf (ln (t ()) 0)).getD 2 0, .sl 9 (.l 0) (.l 3)]⟩, some ⟨true, 3, .lit [.f .f32 fun _ => (numsOf (ln (t ()) 1)).getD 0 0, .f .f32 fun _ => (numsOf (ln (t ()) 1)).getD 1 0, .f .f32 fun _ => (numsOf (ln (t ()) 1)).getD 2 0, .f .f32 fun _ => (numsOf (ln (t ()) 2)).getD 0 0, .f .f32 fun _ => (numsOf (ln (t ()) 2)).getD 1 0, .f .f32 fun _ => (numsOf (ln (t ()) 2)).getD 2 0, .f .f32 fun _ => (numsOf (ln (t ()) 3)).getD 0 0, .f .f32 fun _ => (numsOf (ln (t ()) 3)).getD 1 0, .f .f32 fun _ => (numsOf (ln (t ()) 3)).getD 2 0]⟩] ?_
    cbv
    repeat' (refine Ob.mk ?_ ?_; (focus (exact rfl)); cbv)
    repeat' (refine Ob.mk ?_ ?_; (focus (first | exact rfl | exact y4a | exact y4b | exact y4c | exact ⟨by decide, by decide⟩ | exact ⟨by decide, by decide, by decide⟩)); cbv)
    refine Lex.pull [0, 2, 3, 4, 5, 6, 7, 8, 9, 10, 11] (by decide +kernel) ?_
    cbv
    repeat' (refine Ob.mk ?_ ?_; (focus (first | exact rfl | exact y4a | exact y4b | exact y4c | exact ⟨by decide, by decide⟩ | exact ⟨by decide, by decide, by decide⟩)); cbv)
    refine Both.mk ?_ ?_
    cbv
    repeat' (refine Ob.mk ?_ ?_; (focus (first | exact rfl | exact y4a | exact y4b | exact y4c | exact ⟨by decide, by decide⟩ | exact ⟨by decide, by decide, by decide⟩)); cbv)
    refine ?j4
    rotate_left
    cbv
    repeat' (refine Ob.mk ?_ ?_; (focus (first | exact rfl | exact y4a | exact y4b | exact y4c | exact ⟨by decide, by decide⟩ | exact ⟨by decide, by decide, by decide⟩)); cbv)
    exact ?j4
    refine Gen.ren [0, 1, 2, 3, 4, 5, 6, 7, 8, 11] (fr 66 [(2, .c (.p 0 (.l 0))), (6, .c (.p 8 (.l 0))), (39, .c (.sl 1 (.l 1) (.l 5))), (40, .c (.i .i64 (.l 5))), (41, .c (.i .i64 (.l 4)))]) [some ⟨true, 0, .lit [.f .f32 fun _ => 0, .f .f32 fun _ => 0, .f .f32 fun _ => 0, .sn]⟩, some ⟨true, 1, .lit [.sl 2 (.l 0) (.x fun _ => 3), .sl 3 (.l 0) (.x fun _ => 3), .sl 4 (.l 0) (.x fun _ => 3), .sl 5 (.l 0) (.x fun _ => 3), .sl 6 (.l 0) (.x fun _ => 3), .sl 7 (.l 0) (.x fun _ => 3)]⟩, some ⟨true, 1, .fl fun _ => numsOf (ln (t ()) 0)⟩, some ⟨true, 1, .fl fun _ => numsOf (ln (t ()) 1)⟩, some ⟨true, 1, .fl fun _ => numsOf (ln (t ()) 2)⟩, some ⟨true, 1, .fl fun _ => numsOf (ln (t ()) 3)⟩, some ⟨true, 1, .fl fun _ => numsOf (ln (t ()) 4)⟩, some ⟨true, 1, .fl fun _ => numsOf (ln (t ()) 5)⟩, some ⟨true, 0, .lit [.f .f32 fun _ => (numsOf (ln (t ()) 0)).getD 0 0, .f .f32 fun _ => (numsOf (ln (t ()) 0)).getD 1 0, .f .f32 fun _ => (numsOf (ln (t ()) 0)).getD 2 0, .sl 9 (.l 0) (.l 4)]⟩, some ⟨true, 3, .lit [.f .f32 fun _ => (numsOf (ln (t ()) 1)).getD 0 0, .f .f32 fun _ => (numsOf (ln (t ()) 1)).getD 1 0, .f .f32 fun _ => (numsOf (ln (t ()) 1)).getD 2 0, .f .f32 fun _ => (numsOf (ln (t ()) 2)).getD 0 0, .f .f32 fun _ => (numsOf (ln (t ()) 2)).getD 1 0, .f .f32 fun _ => (numsOf (ln (t ()) 2)).getD 2 0, .f .f32 fun _ => (numsOf (ln (t ()) 3)).getD 0 0, .f .f32 fun _ => (numsOf (ln (t ()) 3)).getD 1 0, .f .f32 fun _ => (numsOf (ln (t ()) 3)).getD 2 0, .f .f32 fun _ => (numsOf (ln (t ()) 4)).getD 0 0, .f .f32 fun _ => (numsOf (ln (t ()) 4)).getD 1 0, .f .f32 fun _ => (numsOf (ln (t ()) 4)).getD 2 0]⟩] ?_
    cbv
    repeat' (refine Ob.mk ?_ ?_; (focus (exact rfl)); cbv)
    repeat' (refine Ob.mk ?_ ?_; (focus (first | exact rfl | exact y5a | exact y5b | exact y5c | exact ⟨by decide, by decide⟩ | exact ⟨by decide, by decide, by decide⟩)); cbv)
    refine Lex.pull [0, 2, 3, 4, 5, 6, 7, 8, 9, 10, 11] (by decide +kernel) ?_
    cbv
    repeat' (refine Ob.mk ?_ ?_; (focus (first | exact rfl | exact y5a | exact y5b | exact y5c | exact ⟨by decide, by decide⟩ | exact ⟨by decide, by decide, by decide⟩)); cbv)
    refine Both.mk ?_ ?_
    cbv
    repeat' (refine Ob.mk ?_ ?_; (focus (first | exact rfl | exact y5a | exact y5b | exact y5c | exact ⟨by decide, by decide⟩ | exact ⟨by decide, by decide, by decide⟩)); cbv)
    refine ?j5
    rotate_left
    cbv
    repeat' (refine Ob.mk ?_ ?_; (focus (first | exact rfl | exact y5a | exact y5b | exact y5c | exact ⟨by decide, by decide⟩ | exact ⟨by decide, by decide, by decide⟩)); cbv)
    exact ?j5
    refine Gen.ren [0, 1, 2, 3, 4, 5, 6, 7, 8, 11] (fr 66 [(2, .c (.p 0 (.l 0))), (6, .c (.p 8 (.l 0))), (39, .c (.sl 1 (.l 1) (.l 5))), (40, .c (.i .i64 (.l 5))), (41, .c (.i .i64 (.l 5)))]) [some ⟨true, 0, .lit [.f .f32 fun _ => 0, .f .f32 fun _ => 0, .f .f32 fun _ => 0, .sn]⟩, some ⟨true, 1, .lit [.sl 2 (.l 0) (.x fun _ => 3), .sl 3 (.l 0) (.x fun _ => 3), .sl 4 (.l 0) (.x fun _ => 3), .sl 5 (.l 0) (.x fun _ => 3), .sl 6 (.l 0) (.x fun _ => 3), .sl 7 (.l 0) (.x fun _ => 3)]⟩, some ⟨true, 1, .fl fun _ => numsOf (ln (t ()) 0)⟩, some ⟨true, 1, .fl fun _ => numsOf (ln (t ()) 1)⟩, some ⟨true, 1, .fl fun _ => numsOf (ln (t ()) 2)⟩, some ⟨true, 1, .fl fun _ => numsOf (ln (t ()) 3)⟩, some ⟨true, 1, .fl fun _ => numsOf (ln (t ()) 4)⟩, some ⟨true, 1, .fl fun _ => numsOf (ln (t ()) 5)⟩, some ⟨true, 0, .lit [.f .f32 fun _ => (numsOf (ln (t ()) 0)).getD 0 0, .f .f32 fun _ => (numsOf (ln (t ()) 0)).getD 1 0, .f .f32 fun _ => (numsOf (ln (t ()) 0)).getD 2 0, .sl 9 (.l 0) (.l 5)]⟩, some ⟨true, 3, .lit [.f .f32 fun _ => (numsOf (ln (t ()) 1)).getD 0 0, .f .f32 fun _ => (numsOf (ln (t ()) 1)).getD 1 0, .f .f32 fun _ => (numsOf (ln (t ()) 1)).getD 2 0, .f .f32 fun _ => (numsOf (ln (t ()) 2)).getD 0 0, .f .f32 fun _ => (numsOf (ln (t ()) 2)).getD 1 0, .f .f32 fun _ => (numsOf (ln (t ()) 2)).getD 2 0, .f .f32 fun _ => (numsOf (ln (t ()) 3)).getD 0 0, .f .f32 fun _ => (numsOf (ln (t ()) 3)).getD 1 0, .f .f32 fun _ => (numsOf (ln (t ()) 3)).getD 2 0, .f .f32 fun _ => (numsOf (ln (t ()) 4)).getD 0 0, .f .f32 fun _ => (numsOf (ln (t ()) 4)).getD 1 0, .f .f32 fun _ => (numsOf (ln (t ()) 4)).getD 2 0, .f .f32 fun _ => (numsOf (ln (t ()) 5)).getD 0 0, .f .f32 fun _ => (numsOf (ln (t ()) 5)).getD 1 0, .f .f32 fun _ => (numsOf (ln (t ()) 5)).getD 2 0]⟩] ?_
    cbv
    repeat' (refine Ob.mk ?_ ?_; (focus (exact rfl)); cbv)
    repeat' first | (refine Ob.mk ?_ ?_; (focus (first | exact h21 | exact y0a | exact y0b | exact y0c | exact y1a | exact y1b | exact y1c | exact y2a | exact y2b | exact y2c | exact y3a | exact y3b | exact y3c | exact y4a | exact y4b | exact y4c | exact y5a | exact y5b | exact y5c | exact p0a | exact p0b | exact p0c | exact hS | exact hnn | exact ⟨rfl, rfl, by decide⟩ | exact ⟨by decide, by decide⟩ | exact ⟨by decide, by decide, by decide⟩ | exact rfl)); cbv) | (refine Br.f hb ?_; cbv) | (refine Br.f hw2 ?_; cbv)
  · cases hs
def E9F6 : Env := fun g => envGetL [(21, ⟨true, sLT6 (fun t => t.size ≤ 243 ∧ nl t = 6 ∧ gdTo t 6 = true), none⟩), (22, ⟨true, s22, none⟩)] g
set_option maxRecDepth 100000 in
set_option maxHeartbeats 8000000 in
theorem ok9F6 : Ok Tryd.prog 9 (sRF fun t => t.size ≤ 243 ∧ nl t = 6 ∧ gdTo t 6 = true ∧ tl t = true ∧ wOk t = false) := ok_of_wpaH (E := E9F6) mixed tts (envOk_cons ok21K6 (envOk_cons ok22 (envOk_nil _))) fn9 fun args H v H' o hs ho => by
  split at hs
  · rename_i t
    cases hs
    have hsz : (t ⟨⟩).size ≤ 1048576 := ho.two.2
    have h1 := ho.two.1
    have hn : nl (t ⟨⟩) = 6 := h1.2.1
    have hg : gdTo (t ⟨⟩) 6 = true := h1.2.2.1
    have ht : tl (t ⟨⟩) = true := h1.2.2.2.1
    have h21 : ((t ⟨⟩).size ≤ 243 ∧ nl (t ⟨⟩) = 6 ∧ gdTo (t ⟨⟩) 6 = true) ∧ (t ⟨⟩).size ≤ 1048576 ∧ (3 : Int) = 3 ∧ (9 : Int) = 9 := ⟨⟨h1.1, h1.2.1, h1.2.2.1⟩, hsz, rfl, rfl⟩
    have hb : (!(tl (t ⟨⟩))) = false := ntf ht
    have gg0 : nrOk 3 (ln (t ⟨⟩) 0) = true := show gd (t ⟨⟩) 0 = true from allI_at hg (by omega)
    have l0 : (numsOf (ln (t ⟨⟩) 0)).length = 3 := by rw [nums_l, nr_num gg0]
    have y0a : 0 < (numsOf (ln (t ⟨⟩) 0)).length := by rw [l0]; decide
    have p0a : (numsOf (ln (t ⟨⟩) 0)).getD 0 0 = n3 (ln (t ⟨⟩) 0) 0 := nums_n3 (by rw [nr_num gg0]; decide)
    have y0b : 1 < (numsOf (ln (t ⟨⟩) 0)).length := by rw [l0]; decide
    have p0b : (numsOf (ln (t ⟨⟩) 0)).getD 1 0 = n3 (ln (t ⟨⟩) 0) 1 := nums_n3 (by rw [nr_num gg0]; decide)
    have y0c : 2 < (numsOf (ln (t ⟨⟩) 0)).length := by rw [l0]; decide
    have p0c : (numsOf (ln (t ⟨⟩) 0)).getD 2 0 = n3 (ln (t ⟨⟩) 0) 2 := nums_n3 (by rw [nr_num gg0]; decide)
    have gg1 : nrOk 3 (ln (t ⟨⟩) 1) = true := show gd (t ⟨⟩) 1 = true from allI_at hg (by omega)
    have l1 : (numsOf (ln (t ⟨⟩) 1)).length = 3 := by rw [nums_l, nr_num gg1]
    have y1a : 0 < (numsOf (ln (t ⟨⟩) 1)).length := by rw [l1]; decide
    have p1a : (numsOf (ln (t ⟨⟩) 1)).getD 0 0 = n3 (ln (t ⟨⟩) 1) 0 := nums_n3 (by rw [nr_num gg1]; decide)
    have y1b : 1 < (numsOf (ln (t ⟨⟩) 1)).length := by rw [l1]; decide
    have p1b : (numsOf (ln (t ⟨⟩) 1)).getD 1 0 = n3 (ln (t ⟨⟩) 1) 1 := nums_n3 (by rw [nr_num gg1]; decide)
    have y1c : 2 < (numsOf (ln (t ⟨⟩) 1)).length := by rw [l1]; decide
    have p1c : (numsOf (ln (t ⟨⟩) 1)).getD 2 0 = n3 (ln (t ⟨⟩) 1) 2 := nums_n3 (by rw [nr_num gg1]; decide)
    have gg2 : nrOk 3 (ln (t ⟨⟩) 2) = true := show gd (t ⟨⟩) 2 = true from allI_at hg (by omega)
    have l2 : (numsOf (ln (t ⟨⟩) 2)).length = 3 := by rw [nums_l, nr_num gg2]
    have y2a : 0 < (numsOf (ln (t ⟨⟩) 2)).length := by rw [l2]; decide
    have p2a : (numsOf (ln (t ⟨⟩) 2)).getD 0 0 = n3 (ln (t ⟨⟩) 2) 0 := nums_n3 (by rw [nr_num gg2]; decide)
    have y2b : 1 < (numsOf (ln (t ⟨⟩) 2)).length := by rw [l2]; decide
    have p2b : (numsOf (ln (t ⟨⟩) 2)).getD 1 0 = n3 (ln (t ⟨⟩) 2) 1 := nums_n3 (by rw [nr_num gg2]; decide)
    have y2c : 2 < (numsOf (ln (t ⟨⟩) 2)).length := by rw [l2]; decide
    have p2c : (numsOf (ln (t ⟨⟩) 2)).getD 2 0 = n3 (ln (t ⟨⟩) 2) 2 := nums_n3 (by rw [nr_num gg2]; decide)
    have gg3 : nrOk 3 (ln (t ⟨⟩) 3) = true := show gd (t ⟨⟩) 3 = true from allI_at hg (by omega)
    have l3 : (numsOf (ln (t ⟨⟩) 3)).length = 3 := by rw [nums_l, nr_num gg3]
    have y3a : 0 < (numsOf (ln (t ⟨⟩) 3)).length := by rw [l3]; decide
    have p3a : (numsOf (ln (t ⟨⟩) 3)).getD 0 0 = n3 (ln (t ⟨⟩) 3) 0 := nums_n3 (by rw [nr_num gg3]; decide)
    have y3b : 1 < (numsOf (ln (t ⟨⟩) 3)).length := by rw [l3]; decide
    have p3b : (numsOf (ln (t ⟨⟩) 3)).getD 1 0 = n3 (ln (t ⟨⟩) 3) 1 := nums_n3 (by rw [nr_num gg3]; decide)
    have y3c : 2 < (numsOf (ln (t ⟨⟩) 3)).length := by rw [l3]; decide
    have p3c : (numsOf (ln (t ⟨⟩) 3)).getD 2 0 = n3 (ln (t ⟨⟩) 3) 2 := nums_n3 (by rw [nr_num gg3]; decide)
    have gg4 : nrOk 3 (ln (t ⟨⟩) 4) = true := show gd (t ⟨⟩) 4 = true from allI_at hg (by omega)
    have l4 : (numsOf (ln (t ⟨⟩) 4)).length = 3 := by rw [nums_l, nr_num gg4]
    have y4a : 0 < (numsOf (ln (t ⟨⟩) 4)).length := by rw [l4]; decide
    have p4a : (numsOf (ln (t ⟨⟩) 4)).getD 0 0 = n3 (ln (t ⟨⟩) 4) 0 := nums_n3 (by rw [nr_num gg4]; decide)
    have y4b : 1 < (numsOf (ln (t ⟨⟩) 4)).length := by rw [l4]; decide
    have p4b : (numsOf (ln (t ⟨⟩) 4)).getD 1 0 = n3 (ln (t ⟨⟩) 4) 1 := nums_n3 (by rw [nr_num gg4]; decide)
    have y4c : 2 < (numsOf (ln (t ⟨⟩) 4)).length := by rw [l4]; decide
    have p4c : (numsOf (ln (t ⟨⟩) 4)).getD 2 0 = n3 (ln (t ⟨⟩) 4) 2 := nums_n3 (by rw [nr_num gg4]; decide)
    have gg5 : nrOk 3 (ln (t ⟨⟩) 5) = true := show gd (t ⟨⟩) 5 = true from allI_at hg (by omega)
    have l5 : (numsOf (ln (t ⟨⟩) 5)).length = 3 := by rw [nums_l, nr_num gg5]
    have y5a : 0 < (numsOf (ln (t ⟨⟩) 5)).length := by rw [l5]; decide
    have p5a : (numsOf (ln (t ⟨⟩) 5)).getD 0 0 = n3 (ln (t ⟨⟩) 5) 0 := nums_n3 (by rw [nr_num gg5]; decide)
    have y5b : 1 < (numsOf (ln (t ⟨⟩) 5)).length := by rw [l5]; decide
    have p5b : (numsOf (ln (t ⟨⟩) 5)).getD 1 0 = n3 (ln (t ⟨⟩) 5) 1 := nums_n3 (by rw [nr_num gg5]; decide)
    have y5c : 2 < (numsOf (ln (t ⟨⟩) 5)).length := by rw [l5]; decide
    have p5c : (numsOf (ln (t ⟨⟩) 5)).getD 2 0 = n3 (ln (t ⟨⟩) 5) 2 := nums_n3 (by rw [nr_num gg5]; decide)
    have hL : spL (t ⟨⟩) = [n3 (ln (t ⟨⟩) 1) 0, n3 (ln (t ⟨⟩) 1) 1, n3 (ln (t ⟨⟩) 1) 2, n3 (ln (t ⟨⟩) 2) 0, n3 (ln (t ⟨⟩) 2) 1, n3 (ln (t ⟨⟩) 2) 2, n3 (ln (t ⟨⟩) 3) 0, n3 (ln (t ⟨⟩) 3) 1, n3 (ln (t ⟨⟩) 3) 2, n3 (ln (t ⟨⟩) 4) 0, n3 (ln (t ⟨⟩) 4) 1, n3 (ln (t ⟨⟩) 4) 2, n3 (ln (t ⟨⟩) 5) 0, n3 (ln (t ⟨⟩) 5) 1, n3 (ln (t ⟨⟩) 5) 2] := by unfold spL; rw [hn]; rfl
    have hS : [(numsOf (ln (t ⟨⟩) 1)).getD 0 0, (numsOf (ln (t ⟨⟩) 1)).getD 1 0, (numsOf (ln (t ⟨⟩) 1)).getD 2 0, (numsOf (ln (t ⟨⟩) 2)).getD 0 0, (numsOf (ln (t ⟨⟩) 2)).getD 1 0, (numsOf (ln (t ⟨⟩) 2)).getD 2 0, (numsOf (ln (t ⟨⟩) 3)).getD 0 0, (numsOf (ln (t ⟨⟩) 3)).getD 1 0, (numsOf (ln (t ⟨⟩) 3)).getD 2 0, (numsOf (ln (t ⟨⟩) 4)).getD 0 0, (numsOf (ln (t ⟨⟩) 4)).getD 1 0, (numsOf (ln (t ⟨⟩) 4)).getD 2 0, (numsOf (ln (t ⟨⟩) 5)).getD 0 0, (numsOf (ln (t ⟨⟩) 5)).getD 1 0, (numsOf (ln (t ⟨⟩) 5)).getD 2 0] = spL (t ⟨⟩) := by rw [hL, p1a, p1b, p1c, p2a, p2b, p2c, p3a, p3b, p3c, p4a, p4b, p4c, p5a, p5b, p5c]
    have hnn : 5 = nl (t ⟨⟩) - 1 := by omega
    have hW : webOk ((numsOf (ln (t ⟨⟩) 0)).getD 0 0) ((numsOf (ln (t ⟨⟩) 0)).getD 1 0) ((numsOf (ln (t ⟨⟩) 0)).getD 2 0) [(numsOf (ln (t ⟨⟩) 1)).getD 0 0, (numsOf (ln (t ⟨⟩) 1)).getD 1 0, (numsOf (ln (t ⟨⟩) 1)).getD 2 0, (numsOf (ln (t ⟨⟩) 2)).getD 0 0, (numsOf (ln (t ⟨⟩) 2)).getD 1 0, (numsOf (ln (t ⟨⟩) 2)).getD 2 0, (numsOf (ln (t ⟨⟩) 3)).getD 0 0, (numsOf (ln (t ⟨⟩) 3)).getD 1 0, (numsOf (ln (t ⟨⟩) 3)).getD 2 0, (numsOf (ln (t ⟨⟩) 4)).getD 0 0, (numsOf (ln (t ⟨⟩) 4)).getD 1 0, (numsOf (ln (t ⟨⟩) 4)).getD 2 0, (numsOf (ln (t ⟨⟩) 5)).getD 0 0, (numsOf (ln (t ⟨⟩) 5)).getD 1 0, (numsOf (ln (t ⟨⟩) 5)).getD 2 0] 5 = wOk (t ⟨⟩) := by unfold wOk; rw [hS, p0a, p0b, p0c]; exact congrArg (webOk _ _ _ _) hnn
    have hw2 := congrArg not (hW.trans h1.2.2.2.2)
    refine ⟨_, HLe.refl _, ?_⟩
    cbv
    repeat' first | (refine Ob.mk ?_ ?_; (focus (first | exact h21 | exact y0a | exact y0b | exact y0c | exact y1a | exact y1b | exact y1c | exact y2a | exact y2b | exact y2c | exact y3a | exact y3b | exact y3c | exact y4a | exact y4b | exact y4c | exact y5a | exact y5b | exact y5c | exact p0a | exact p0b | exact p0c | exact hS | exact hnn | exact ⟨rfl, rfl, by decide⟩ | exact ⟨by decide, by decide⟩ | exact ⟨by decide, by decide, by decide⟩ | exact rfl)); cbv) | (refine Br.f hb ?_; cbv) | (refine Br.t hw2 ?_; cbv)
    (first | (refine Lex.tail 16 (by decide +kernel) ?_; cbv) | (refine Lex.pull [0, 1, 2, 3, 4, 5, 6, 7, 8, 9, 10, 11, 12, 13, 14, 15] (by decide +kernel) ?_; cbv))
    repeat' first | (refine Ob.mk ?_ ?_; (focus (first | exact h21 | exact y0a | exact y0b | exact y0c | exact y1a | exact y1b | exact y1c | exact y2a | exact y2b | exact y2c | exact y3a | exact y3b | exact y3c | exact y4a | exact y4b | exact y4c | exact y5a | exact y5b | exact y5c | exact p0a | exact p0b | exact p0c | exact hS | exact hnn | exact ⟨rfl, rfl, by decide⟩ | exact ⟨by decide, by decide⟩ | exact ⟨by decide, by decide, by decide⟩ | exact rfl)); cbv) | (refine Br.f hb ?_; cbv) | (refine Br.t hw2 ?_; cbv)
    refine Loop.mk 70 ?_
    cbv
    refine Gen.mk (fr 66 [(2, .c (.p 0 (.l 0))), (6, .c (.p 8 (.l 0))), (39, .c (.sl 1 (.l 1) (.l 5))), (40, .c (.i .i64 (.l 5))), (41, .c (.i .i64 (.l 0)))]) [some ⟨true, 0, .lit [.f .f32 fun _ => 0, .f .f32 fun _ => 0, .f .f32 fun _ => 0, .sn]⟩, some ⟨true, 1, .lit [.sl 2 (.l 0) (.x fun _ => 3), .sl 3 (.l 0) (.x fun _ => 3), .sl 4 (.l 0) (.x fun _ => 3), .sl 5 (.l 0) (.x fun _ => 3), .sl 6 (.l 0) (.x fun _ => 3), .sl 7 (.l 0) (.x fun _ => 3)]⟩, some ⟨true, 1, .fl fun _ => numsOf (ln (t ()) 0)⟩, some ⟨true, 1, .fl fun _ => numsOf (ln (t ()) 1)⟩, some ⟨true, 1, .fl fun _ => numsOf (ln (t ()) 2)⟩, some ⟨true, 1, .fl fun _ => numsOf (ln (t ()) 3)⟩, some ⟨true, 1, .fl fun _ => numsOf (ln (t ()) 4)⟩, some ⟨true, 1, .fl fun _ => numsOf (ln (t ()) 5)⟩, some ⟨true, 0, .lit [.f .f32 fun _ => (numsOf (ln (t ()) 0)).getD 0 0, .f .f32 fun _ => (numsOf (ln (t ()) 0)).getD 1 0, .f .f32 fun _ => (numsOf (ln (t ()) 0)).getD 2 0, .sn]⟩] ?_
    cbv
    repeat' (refine Ob.mk ?_ ?_; (focus (exact rfl)); cbv)
    repeat' (refine Ob.mk ?_ ?_; (focus (first | exact rfl | exact y1a | exact y1b | exact y1c | exact ⟨by decide, by decide⟩ | exact ⟨by decide, by decide, by decide⟩)); cbv)
    refine Lex.pull [0, 2, 3, 4, 5, 6, 7, 8, 9, 10, 11] (by decide +kernel) ?_
    cbv
    repeat' (refine Ob.mk ?_ ?_; (focus (first | exact rfl | exact y1a | exact y1b | exact y1c | exact ⟨by decide, by decide⟩ | exact ⟨by decide, by decide, by decide⟩)); cbv)
    refine Both.mk ?_ ?_
    cbv
    repeat' (refine Ob.mk ?_ ?_; (focus (first | exact rfl | exact y1a | exact y1b | exact y1c | exact ⟨by decide, by decide⟩ | exact ⟨by decide, by decide, by decide⟩)); cbv)
    refine ?j1
    rotate_left
    cbv
    repeat' (refine Ob.mk ?_ ?_; (focus (first | exact rfl | exact y1a | exact y1b | exact y1c | exact ⟨by decide, by decide⟩ | exact ⟨by decide, by decide, by decide⟩)); cbv)
    exact ?j1
    refine Gen.ren [0, 1, 2, 3, 4, 5, 6, 7, 8, 10] (fr 66 [(2, .c (.p 0 (.l 0))), (6, .c (.p 8 (.l 0))), (39, .c (.sl 1 (.l 1) (.l 5))), (40, .c (.i .i64 (.l 5))), (41, .c (.i .i64 (.l 1)))]) [some ⟨true, 0, .lit [.f .f32 fun _ => 0, .f .f32 fun _ => 0, .f .f32 fun _ => 0, .sn]⟩, some ⟨true, 1, .lit [.sl 2 (.l 0) (.x fun _ => 3), .sl 3 (.l 0) (.x fun _ => 3), .sl 4 (.l 0) (.x fun _ => 3), .sl 5 (.l 0) (.x fun _ => 3), .sl 6 (.l 0) (.x fun _ => 3), .sl 7 (.l 0) (.x fun _ => 3)]⟩, some ⟨true, 1, .fl fun _ => numsOf (ln (t ()) 0)⟩, some ⟨true, 1, .fl fun _ => numsOf (ln (t ()) 1)⟩, some ⟨true, 1, .fl fun _ => numsOf (ln (t ()) 2)⟩, some ⟨true, 1, .fl fun _ => numsOf (ln (t ()) 3)⟩, some ⟨true, 1, .fl fun _ => numsOf (ln (t ()) 4)⟩, some ⟨true, 1, .fl fun _ => numsOf (ln (t ()) 5)⟩, some ⟨true, 0, .lit [.f .f32 fun _ => (numsOf (ln (t ()) 0)).getD 0 0, .f .f32 fun _ => (numsOf (ln (t ()) 0)).getD 1 0, .f .f32 fun _ => (numsOf (ln (t ()) 0)).getD 2 0, .sl 9 (.l 0) (.l 1)]⟩, some ⟨true, 3, .lit [.f .f32 fun _ => (numsOf (ln (t ()) 1)).getD 0 0, .f .f32 fun _ => (numsOf (ln (t ()) 1)).getD 1 0, .f .f32 fun _ => (numsOf (ln (t ()) 1)).getD 2 0]⟩] ?_
    cbv
    repeat' (refine Ob.mk ?_ ?_; (focus (exact rfl)); cbv)
    repeat' (refine Ob.mk ?_ ?_; (focus (first | exact rfl | exact y2a | exact y2b | exact y2c | exact ⟨by decide, by decide⟩ | exact ⟨by decide, by decide, by decide⟩)); cbv)
    refine Lex.pull [0, 2, 3, 4, 5, 6, 7, 8, 9, 10, 11] (by decide +kernel) ?_
    cbv
    repeat' (refine Ob.mk ?_ ?_; (focus (first | exact rfl | exact y2a | exact y2b | exact y2c | exact ⟨by decide, by decide⟩ | exact ⟨by decide, by decide, by decide⟩)); cbv)
    refine Both.mk ?_ ?_
    cbv
    repeat' (refine Ob.mk ?_ ?_; (focus (first | exact rfl | exact y2a | exact y2b | exact y2c | exact ⟨by decide, by decide⟩ | exact ⟨by decide, by decide, by decide⟩)); cbv)
    refine ?j2
    rotate_left
    cbv
    repeat' (refine Ob.mk ?_ ?_; (focus (first | exact rfl | exact y2a | exact y2b | exact y2c | exact ⟨by decide, by decide⟩ | exact ⟨by decide, by decide, by decide⟩)); cbv)
    exact ?j2
    refine Gen.ren [0, 1, 2, 3, 4, 5, 6, 7, 8, 11] (fr 66 [(2, .c (.p 0 (.l 0))), (6, .c (.p 8 (.l 0))), (39, .c (.sl 1 (.l 1) (.l 5))), (40, .c (.i .i64 (.l 5))), (41, .c (.i .i64 (.l 2)))]) [some ⟨true, 0, .lit [.f .f32 fun _ => 0, .f .f32 fun _ => 0, .f .f32 fun _ => 0, .sn]⟩, some ⟨true, 1, .lit [.sl 2 (.l 0) (.x fun _ => 3), .sl 3 (.l 0) (.x fun _ => 3), .sl 4 (.l 0) (.x fun _ => 3), .sl 5 (.l 0) (.x fun _ => 3), .sl 6 (.l 0) (.x fun _ => 3), .sl 7 (.l 0) (.x fun _ => 3)]⟩, some ⟨true, 1, .fl fun _ => numsOf (ln (t ()) 0)⟩, some ⟨true, 1, .fl fun _ => numsOf (ln (t ()) 1)⟩, some ⟨true, 1, .fl fun _ => numsOf (ln (t ()) 2)⟩, some ⟨true, 1, .fl fun _ => numsOf (ln (t ()) 3)⟩, some ⟨true, 1, .fl fun _ => numsOf (ln (t ()) 4)⟩, some ⟨true, 1, .fl fun _ => numsOf (ln (t ()) 5)⟩, some ⟨true, 0, .lit [.f .f32 fun _ => (numsOf (ln (t ()) 0)).getD 0 0, .f .f32 fun _ => (numsOf (ln (t ()) 0)).getD 1 0, .f .f32 fun _ => (numsOf (ln (t ()) 0)).getD 2 0, .sl 9 (.l 0) (.l 2)]⟩, some ⟨true, 3, .lit [.f .f32 fun _ => (numsOf (ln (t ()) 1)).getD 0 0, .f .f32 fun _ => (numsOf (ln (t ()) 1)).getD 1 0, .f .f32 fun _ => (numsOf (ln (t ()) 1)).getD 2 0, .f .f32 fun _ => (numsOf (ln (t ()) 2)).getD 0 0, .f .f32 fun _ => (numsOf (ln (t ()) 2)).getD 1 0, .f .f32 fun _ => (numsOf (ln (t ()) 2)).getD 2 0]⟩] ?_
    cbv
    repeat' (refine Ob.mk ?_ ?_; (focus (exact rfl)); cbv)
    repeat' (refine Ob.mk ?_ ?_; (focus (first | exact rfl | exact y3a | exact y3b | exact y3c | exact ⟨by decide, by decide⟩ | exact ⟨by decide, by decide, by decide⟩)); cbv)
    refine Lex.pull [0, 2, 3, 4, 5, 6, 7, 8, 9, 10, 11] (by decide +kernel) ?_
    cbv
    repeat' (refine Ob.mk ?_ ?_; (focus (first | exact rfl | exact y3a | exact y3b | exact y3c | exact ⟨by decide, by decide⟩ | exact ⟨by decide, by decide, by decide⟩)); cbv)
    refine Both.mk ?_ ?_
    cbv
    repeat' (refine Ob.mk ?_ ?_; (focus (first | exact rfl | exact y3a | exact y3b | exact y3c | exact ⟨by decide, by decide⟩ | exact ⟨by decide, by decide, by decide⟩)); cbv)
    refine ?j3
    rotate_left
    cbv
    repeat' (refine Ob.mk ?_ ?_; (focus (first | exact rfl | exact y3a | exact y3b | exact y3c | exact ⟨by decide, by decide⟩ | exact ⟨by decide, by decide, by decide⟩)); cbv)
    exact ?j3
    refine Gen.ren [0, 1, 2, 3, 4, 5, 6, 7, 8, 11] (fr 66 [(2, .c (.p 0 (.l 0))), (6, .c (.p 8 (.l 0))), (39, .c (.sl 1 (.l 1) (.l 5))), (40, .c (.i .i64 (.l 5))), (41, .c (.i .i64 (.l 3)))]) [some ⟨true, 0, .lit [.f .f32 fun _ => 0, .f .f32 fun _ => 0, .f .f32 fun _ => 0, .sn]⟩, some ⟨true, 1, .lit [.sl 2 (.l 0) (.x fun _ => 3), .sl 3 (.l 0) (.x fun _ => 3), .sl 4 (.l 0) (.x fun _ => 3), .sl 5 (.l 0) (.x fun _ => 3), .sl 6 (.l 0) (.x fun _ => 3), .sl 7 (.l 0) (.x fun _ => 3)]⟩, some ⟨true, 1, .fl fun _ => numsOf (ln (t ()) 0)⟩, some ⟨true, 1, .fl fun _ => numsOf (ln (t ()) 1)⟩, some ⟨true, 1, .fl fun _ => numsOf (ln (t ()) 2)⟩, some ⟨true, 1, .fl fun _ => numsOf (ln (t ()) 3)⟩, some ⟨true, 1, .fl fun _ => numsOf (ln (t ()) 4)⟩, some ⟨true, 1, .fl fun _ => numsOf (ln (t ()) 5)⟩, some ⟨true, 0, .lit [.f .f32 fun _ => (numsOf (ln (t ()) 0)).getD 0 0, .f .f32 fun _ => (numsOf (ln (t ()) 0)).getD 1 0, .f .f32 fun _ => (numsOf (ln (t ()) 0)).getD 2 0, .sl 9 (.l 0) (.l 3)]⟩, some ⟨true, 3, .lit [.f .f32 fun _ => (numsOf (ln (t ()) 1)).getD 0 0, .f .f32 fun _ => (numsOf (ln (t ()) 1)).getD 1 0, .f .f32 fun _ => (numsOf (ln (t ()) 1)).getD 2 0, .f .f32 fun _ => (numsOf (ln (t ()) 2)).getD 0 0, .f .f32 fun _ => (numsOf (ln (t ()) 2)).getD 1 0, .f .f32 fun _ => (numsOf (ln (t ()) 2)).getD 2 0, .f .f32 fun _ => (numsOf (ln (t ()) 3)).getD 0 0, .f .f32 fun _ => (numsOf (ln (t ()) 3)).getD 1 0, .f .f32 fun _ => (numsOf (ln (t ()) 3)).getD 2 0]⟩] ?_
    cbv
    repeat' (refine Ob.mk ?_ ?_; (focus (exact rfl)); cbv)
    repeat' (refine Ob.mk ?_ ?_; (focus (first | exact rfl | exact y4a | exact y4b | exact y4c | exact ⟨by decide, by decide⟩ | exact ⟨by decide, by decide, by decide⟩)); cbv)
    refine Lex.pull [0, 2, 3, 4, 5, 6, 7, 8, 9, 10, 11] (by decide +kernel) ?_
    cbv
    repeat' (refine Ob.mk ?_ ?_; (focus (first | exact rfl | exact y4a | exact y4b | exact y4c | exact ⟨by decide, by decide⟩ | exact ⟨by decide, by decide, by decide⟩)); cbv)
    refine Both.mk ?_ ?_
    cbv
    repeat' (refine Ob.mk ?_ ?_; (focus (first | exact rfl | exact y4a | exact y4b | exact y4c | exact ⟨by decide, by decide⟩ | exact ⟨by decide, by decide, by decide⟩)); cbv)
    refine ?j4
    rotate_left
    cbv
    repeat' (refine Ob.mk ?_ ?_; (focus (first | exact rfl | exact y4a | exact y4b | exact y4c | exact ⟨by decide, by decide⟩ | exact ⟨by decide, by decide, by decide⟩)); cbv)
    exact ?j4
    refine Gen.ren [0, 1, 2, 3, 4, 5, 6, 7, 8, 11] (fr 66 [(2, .c (.p 0 (.l 0))), (6, .c (.p 8 (.l 0))), (39, .c (.sl 1 (.l 1) (.l 5))), (40, .c (.i .i64 (.l 5))), (41, .c (.i .i64 (.l 4)))]) [some ⟨true, 0, .lit [.f .f32 fun _ => 0, .f .f32 fun _ => 0, .f .f32 fun _ => 0, .sn]⟩, some ⟨true, 1, .lit [.sl 2 (.l 0) (.x fun _ => 3), .sl 3 (.l 0) (.x fun _ => 3), .sl 4 (.l 0) (.x fun _ => 3), .sl 5 (.l 0) (.x fun _ => 3), .sl 6 (.l 0) (.x fun _ => 3), .sl 7 (.l 0) (.x fun _ => 3)]⟩, some ⟨true, 1, .fl fun _ => numsOf (ln (t ()) 0)⟩, some ⟨true, 1, .fl fun _ => numsOf (ln (t ()) 1)⟩, some ⟨true, 1, .fl fun _ => numsOf (ln (t ()) 2)⟩, some ⟨true, 1, .fl fun _ => numsOf (ln (t ()) 3)⟩, some ⟨true, 1, .fl fun _ => numsOf (ln (t ()) 4)⟩, some ⟨true, 1, .fl fun _ => numsOf (ln (t ()) 5)⟩, some ⟨true, 0, .lit [.f .f32 fun _ => (numsOf (ln (t ()) 0)).getD 0 0, .f .f32 fun _ => (numsOf (ln (t ()) 0)).getD 1 0, .f .f32 fun _ => (numsOf (ln (t ()) 0)).getD 2 0, .sl 9 (.l 0) (.l 4)]⟩, some ⟨true, 3, .lit [.f .f32 fun _ => (numsOf (ln (t ()) 1)).getD 0 0, .f .f32 fun _ => (numsOf (ln (t ()) 1)).getD 1 0, .f .f32 fun _ => (numsOf (ln (t ()) 1)).getD 2 0, .f .f32 fun _ => (numsOf (ln (t ()) 2)).getD 0 0, .f .f32 fun _ => (numsOf (ln (t ()) 2)).getD 1 0, .f .f32 fun _ => (numsOf (ln (t ()) 2)).getD 2 0, .f .f32 fun _ => (numsOf (ln (t ()) 3)).getD 0 0, .f .f32 fun _ => (numsOf (ln (t ()) 3)).getD 1 0, .f .f32 fun _ => (numsOf (ln (t ()) 3)).getD 2 0, .f .f32 fun _ => (numsOf (ln (t ()) 4)).getD 0 0, .f .f32 fun _ => (numsOf (ln (t ()) 4)).getD 1 0, .f .f32 fun _ => (numsOf (ln (t ()) 4)).getD 2 0]⟩] ?_
    cbv
    repeat' (refine Ob.mk ?_ ?_; (focus (exact rfl)); cbv)
    repeat' (refine Ob.mk ?_ ?_; (focus (first | exact rfl | exact y5a | exact y5b | exact y5c | exact ⟨by decide, by decide⟩ | exact ⟨by decide, by decide, by decide⟩)); cbv)
    refine Lex.pull [0, 2, 3, 4, 5, 6, 7, 8, 9, 10, 11] (by decide +kernel) ?_
    cbv
    repeat' (refine Ob.mk ?_ ?_; (focus (first | exact rfl | exact y5a | exact y5b | exact y5c | exact ⟨by decide, by decide⟩ | exact ⟨by decide, by decide, by decide⟩)); cbv)
    refine Both.mk ?_ ?_
    cbv
    repeat' (refine Ob.mk ?_ ?_; (focus (first | exact rfl | exact y5a | exact y5b | exact y5c | exact ⟨by decide, by decide⟩ | exact ⟨by decide, by decide, by decide⟩)); cbv)
    refine ?j5
    rotate_left
    cbv
    repeat' (refine Ob.mk ?_ ?_; (focus (first | exact rfl | exact y5a | exact y5b | exact y5c | exact ⟨by decide, by decide⟩ | exact ⟨by decide, by decide, by decide⟩)); cbv)
    exact ?j5
    refine Gen.ren [0, 1, 2, 3, 4, 5, 6, 7, 8, 11] (fr 66 [(2, .c (.p 0 (.l 0))), (6, .c (.p 8 (.l 0))), (39, .c (.sl 1 (.l 1) (.l 5))), (40, .c (.i .i64 (.l 5))), (41, .c (.i .i64 (.l 5)))]) [some ⟨true, 0, .lit [.f .f32 fun _ => 0, .f .f32 fun _ => 0, .f .f32 fun _ => 0, .sn]⟩, some ⟨true, 1, .lit [.sl 2 (.l 0) (.x fun _ => 3), .sl 3 (.l 0) (.x fun _ => 3), .sl 4 (.l 0) (.x fun _ => 3), .sl 5 (.l 0) (.x fun _ => 3), .sl 6 (.l 0) (.x fun _ => 3), .sl 7 (.l 0) (.x fun _ => 3)]⟩, some ⟨true, 1, .fl fun _ => numsOf (ln (t ()) 0)⟩, some ⟨true, 1, .fl fun _ => numsOf (ln (t ()) 1)⟩, some ⟨true, 1, .fl fun _ => numsOf (ln (t ()) 2)⟩, some ⟨true, 1, .fl fun _ => numsOf (ln (t ()) 3)⟩, some ⟨true, 1, .fl fun _ => numsOf (ln (t ()) 4)⟩, some ⟨true, 1, .fl fun _ => numsOf (ln (t ()) 5)⟩, some ⟨true, 0, .lit [.f .f32 fun _ => (numsOf (ln (t ()) 0)).getD 0 0, .f .f32 fun _ => (numsOf (ln (t ()) 0)).getD 1 0, .f .f32 fun _ => (numsOf (ln (t ()) 0)).getD 2 0, .sl 9 (.l 0) (.l 5)]⟩, some ⟨true, 3, .lit [.f .f32 fun _ => (numsOf (ln (t ()) 1)).getD 0 0, .f .f32 fun _ => (numsOf (ln (t ()) 1)).getD 1 0, .f .f32 fun _ => (numsOf (ln (t ()) 1)).getD 2 0, .f .f32 fun _ => (numsOf (ln (t ()) 2)).getD 0 0, .f .f32 fun _ => (numsOf (ln (t ()) 2)).getD 1 0, .f .f32 fun _ => (numsOf (ln (t ()) 2)).getD 2 0, .f .f32 fun _ => (numsOf (ln (t ()) 3)).getD 0 0, .f .f32 fun _ => (numsOf (ln (t ()) 3)).getD 1 0, .f .f32 fun _ => (numsOf (ln (t ()) 3)).getD 2 0, .f .f32 fun _ => (numsOf (ln (t ()) 4)).getD 0 0, .f .f32 fun _ => (numsOf (ln (t ()) 4)).getD 1 0, .f .f32 fun _ => (numsOf (ln (t ()) 4)).getD 2 0, .f .f32 fun _ => (numsOf (ln (t ()) 5)).getD 0 0, .f .f32 fun _ => (numsOf (ln (t ()) 5)).getD 1 0, .f .f32 fun _ => (numsOf (ln (t ()) 5)).getD 2 0]⟩] ?_
    cbv
    repeat' (refine Ob.mk ?_ ?_; (focus (exact rfl)); cbv)
    repeat' first | (refine Ob.mk ?_ ?_; (focus (first | exact h21 | exact y0a | exact y0b | exact y0c | exact y1a | exact y1b | exact y1c | exact y2a | exact y2b | exact y2c | exact y3a | exact y3b | exact y3c | exact y4a | exact y4b | exact y4c | exact y5a | exact y5b | exact y5c | exact p0a | exact p0b | exact p0c | exact hS | exact hnn | exact ⟨rfl, rfl, by decide⟩ | exact ⟨by decide, by decide⟩ | exact ⟨by decide, by decide, by decide⟩ | exact rfl)); cbv) | (refine Br.f hb ?_; cbv) | (refine Br.t hw2 ?_; cbv)
  · cases hs
end Go.Proofs.YteifneielgnniaaDoor.Sh
end
