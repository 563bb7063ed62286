/- What the adjustments that are fitted, by the reference of this seat compute, each shown once. No condition. -/
import Derived.Test.YtanndlifpojenaaVk
set_option linter.unusedVariables false
set_option linter.unusedSimpArgs false
set_option linter.unusedSectionVars false
namespace Go.Proofs.Ytanndlifpojenaa.Sh
open Go Go.Proofs
section
theorem fn21 : FnOk Try.prog 21 Try.f21 (bodyOf Try.f21) := ⟨Try.func21, rfl, by rfl⟩
def s21 : Spec := hspec fun args H => match args, H with
  | [.a cs, .c (.i .i64 (.x c))], [] => match cxsOf cs with
    | some q => some (.t [.a [.z .f32 (fun _ => (fitR (forced q) (c ()).toNat).1.1.1) (fun _ => (fitR (forced q) (c ()).toNat).1.1.2), .z .f32 (fun _ => (fitR (forced q) (c ()).toNat).1.2.1) (fun _ => (fitR (forced q) (c ()).toNat).1.2.2)], vI (fitR (forced q) (c ()).toNat).2], [], [fun _ => q.length = 16 ∧ okS (forced q) = true ∧ 0 ≤ c () ∧ c () ≤ 3])
    | none => none
  | _, _ => none
def E21 : Env := fun g => envGetL [(53, ⟨true, s53, none⟩), (74, ⟨true, s74, none⟩), (71, ⟨true, s71, none⟩), (75, ⟨true, s75, none⟩), (56, ⟨true, s56, none⟩), (57, ⟨true, s57, none⟩), (38, ⟨true, s38, none⟩), (76, ⟨true, s76, none⟩), (77, ⟨true, s77, none⟩), (78, ⟨true, s78, none⟩), (79, ⟨true, s79, none⟩)] g
theorem E21ok : EnvOk Try.prog E21 := envOk_cons ok53 (envOk_cons ok74 (envOk_cons ok71 (envOk_cons ok75 (envOk_cons ok56 (envOk_cons ok57 (envOk_cons ok38 (envOk_cons ok76 (envOk_cons ok77 (envOk_cons ok78 (envOk_cons ok79 (envOk_nil _)))))))))))
set_option maxRecDepth 100000 in
set_option maxHeartbeats 4000000 in
theorem ok21 : Ok Try.prog 21 (s21) := ok_of_wpaH (E := E21) mixed tts E21ok fn21 fun args H v H' o hs ho => by
  split at hs
  · rename_i cs c
    split at hs
    · rename_i q hq
      cases hs
      obtain ⟨hlen, hok, hc⟩ := ho.one
      obtain ⟨e, m, rfl, rfl⟩ := cx16 hq hlen
      clear hq hlen
      have hok : okS [(e 0 ⟨⟩, m 0 ⟨⟩), (e 1 ⟨⟩, m 1 ⟨⟩), (e 2 ⟨⟩, m 2 ⟨⟩), (e 3 ⟨⟩, m 3 ⟨⟩), (e 4 ⟨⟩, m 4 ⟨⟩), (e 5 ⟨⟩, m 5 ⟨⟩), (e 6 ⟨⟩, m 6 ⟨⟩), (e 7 ⟨⟩, m 7 ⟨⟩), (e 8 ⟨⟩, m 8 ⟨⟩), (e 9 ⟨⟩, m 9 ⟨⟩), (e 10 ⟨⟩, m 10 ⟨⟩), (e 11 ⟨⟩, m 11 ⟨⟩), (e 12 ⟨⟩, m 12 ⟨⟩), (e 13 ⟨⟩, m 13 ⟨⟩), (e 14 ⟨⟩, m 14 ⟨⟩), (e 15 ⟨⟩, m 15 ⟨⟩)] = true := hok
      have hc : 0 ≤ c ⟨⟩ ∧ c ⟨⟩ ≤ 3 := hc
      have hc4 : 0 ≤ c ⟨⟩ ∧ c ⟨⟩ < ((4 : Nat) : Int) := by omega
      have hc3 : inI (c ⟨⟩) 0 3 = true := inI_iff.2 hc
      have hcode : ((if okS [(e 0 ⟨⟩, m 0 ⟨⟩), (e 1 ⟨⟩, m 1 ⟨⟩), (e 2 ⟨⟩, m 2 ⟨⟩), (e 3 ⟨⟩, m 3 ⟨⟩), (e 4 ⟨⟩, m 4 ⟨⟩), (e 5 ⟨⟩, m 5 ⟨⟩), (e 6 ⟨⟩, m 6 ⟨⟩), (e 7 ⟨⟩, m 7 ⟨⟩), (e 8 ⟨⟩, m 8 ⟨⟩), (e 9 ⟨⟩, m 9 ⟨⟩), (e 10 ⟨⟩, m 10 ⟨⟩), (e 11 ⟨⟩, m 11 ⟨⟩), (e 12 ⟨⟩, m 12 ⟨⟩), (e 13 ⟨⟩, m 13 ⟨⟩), (e 14 ⟨⟩, m 14 ⟨⟩), (e 15 ⟨⟩, m 15 ⟨⟩)] = true then if inI (c ⟨⟩) 0 3 = true ∧ true = true then (0 : Int) else 2 else 1) != 0) = false := by rw [if_pos hok, if_pos ⟨hc3, rfl⟩]; rfl
      obtain ⟨cn, hcn⟩ : ∃ cn : Nat, cn = (c ⟨⟩).toNat := ⟨_, rfl⟩
      obtain ⟨L0, hL0⟩ : ∃ L0 : List M, L0 = [(e 0 ⟨⟩, m 0 ⟨⟩), (e 1 ⟨⟩, m 1 ⟨⟩), (e 2 ⟨⟩, m 2 ⟨⟩), (e 3 ⟨⟩, m 3 ⟨⟩), (e 4 ⟨⟩, m 4 ⟨⟩), (e 5 ⟨⟩, m 5 ⟨⟩), (e 6 ⟨⟩, m 6 ⟨⟩), (e 7 ⟨⟩, m 7 ⟨⟩), (e 8 ⟨⟩, m 8 ⟨⟩), (e 9 ⟨⟩, m 9 ⟨⟩), (e 10 ⟨⟩, m 10 ⟨⟩), (e 11 ⟨⟩, m 11 ⟨⟩), (e 12 ⟨⟩, m 12 ⟨⟩), (e 13 ⟨⟩, m 13 ⟨⟩), (e 14 ⟨⟩, m 14 ⟨⟩), (e 15 ⟨⟩, m 15 ⟨⟩)] := ⟨_, rfl⟩
      have hl0 : L0.length = 16 := by rw [hL0]; rfl
      have hcn3 : cn ≤ 3 := by omega
      have hF : (fitR [(e 0 ⟨⟩, m 0 ⟨⟩), (e 1 ⟨⟩, m 1 ⟨⟩), (e 2 ⟨⟩, m 2 ⟨⟩), (e 3 ⟨⟩, m 3 ⟨⟩), (e 4 ⟨⟩, m 4 ⟨⟩), (e 5 ⟨⟩, m 5 ⟨⟩), (e 6 ⟨⟩, m 6 ⟨⟩), (e 7 ⟨⟩, m 7 ⟨⟩), (e 8 ⟨⟩, m 8 ⟨⟩), (e 9 ⟨⟩, m 9 ⟨⟩), (e 10 ⟨⟩, m 10 ⟨⟩), (e 11 ⟨⟩, m 11 ⟨⟩), (e 12 ⟨⟩, m 12 ⟨⟩), (e 13 ⟨⟩, m 13 ⟨⟩), (e 14 ⟨⟩, m 14 ⟨⟩), (e 15 ⟨⟩, m 15 ⟨⟩)] (c ⟨⟩).toNat) = fitR L0 cn := by rw [hL0, hcn]
      clear ho
      refine ⟨_, HLe.refl _, ?_⟩
      cbv
      repeat' (refine Ob.mk ?_ ?_; (focus (first | exact rfl)); cbv)
      refine Br.f hcode ?_
      cbv
      repeat' (refine Ob.mk ?_ ?_; (focus (first | exact rfl | exact hc4 | exact ⟨by decide, by decide⟩ | (rw [hL0, hcn]; rfl) | (rw [hL0]; rfl) | (subst hcn; exact rfl) | (dsimp only [IE.val, NE.val, IE.nat]; omega) | (dsimp only [IE.val, NE.val, IE.nat, forced, List.length_cons, List.length_nil]; omega) | decide)); cbv)
      refine Loop.mk 70 ?_
      cbv
      refine Gen.mk (fr 105 [(1, .c (.i .i64 (.x c))), (2, .c (.p 0 (.l 0))), (4, .c (.p 1 (.l 0))), (7, Zm (fzP L0 cn)), (8, Zm (fzP L0 0)), (9, Zm (0, 0)), (10, F 0), (11, .c (.i .i64 (.l 0)))]) [some ⟨true, 0, .cx fun _ => L0⟩, some ⟨true, 0, .lit [.z .f32 (fun _ => 0) (fun _ => 0), .z .f32 (fun _ => 0) (fun _ => 0)]⟩] ?_
      cbv
      repeat' (refine Ob.mk ?_ ?_; (focus (first | exact rfl | exact hc4 | exact ⟨by decide, by decide⟩ | (rw [hL0, hcn]; rfl) | (rw [hL0]; rfl) | (subst hcn; exact rfl) | (dsimp only [IE.val, NE.val, IE.nat]; omega) | (dsimp only [IE.val, NE.val, IE.nat, forced, List.length_cons, List.length_nil]; omega) | decide)); cbv)
      repeat' (refine Ob.mk ?_ ?_; (focus (first | exact rfl | exact hc4 | exact ⟨by decide, by decide⟩ | (rw [hL0, hcn]; rfl) | (rw [hL0]; rfl) | (subst hcn; exact rfl) | (dsimp only [IE.val, NE.val, IE.nat]; omega) | (dsimp only [IE.val, NE.val, IE.nat, forced, List.length_cons, List.length_nil]; omega) | decide)); cbv)
      refine Gen.mk (fr 105 [(1, .c (.i .i64 (.x c))), (2, .c (.p 0 (.l 0))), (4, .c (.p 1 (.l 0))), (7, Zm (fzP L0 cn)), (8, Zm (fzP L0 0)), (9, Zm (fN L0 cn 0)), (10, F (fD L0 cn 0)), (11, .c (.i .i64 (.l 1)))]) [some ⟨true, 0, .cx fun _ => L0⟩, some ⟨true, 0, .lit [.z .f32 (fun _ => 0) (fun _ => 0), .z .f32 (fun _ => 0) (fun _ => 0)]⟩] ?_
      cbv
      repeat' (refine Ob.mk ?_ ?_; (focus (first | exact rfl | exact hc4 | exact ⟨by decide, by decide⟩ | (rw [hL0, hcn]; rfl) | (rw [hL0]; rfl) | (subst hcn; exact rfl) | (dsimp only [IE.val, NE.val, IE.nat]; omega) | (dsimp only [IE.val, NE.val, IE.nat, forced, List.length_cons, List.length_nil]; omega) | decide)); cbv)
      repeat' (refine Ob.mk ?_ ?_; (focus (first | exact rfl | exact hc4 | exact ⟨by decide, by decide⟩ | (rw [hL0, hcn]; rfl) | (rw [hL0]; rfl) | (subst hcn; exact rfl) | (dsimp only [IE.val, NE.val, IE.nat]; omega) | (dsimp only [IE.val, NE.val, IE.nat, forced, List.length_cons, List.length_nil]; omega) | decide)); cbv)
      refine Gen.mk (fr 105 [(1, .c (.i .i64 (.x c))), (2, .c (.p 0 (.l 0))), (4, .c (.p 1 (.l 0))), (7, Zm (fzP L0 cn)), (8, Zm (fzP L0 0)), (9, Zm (fN L0 cn 1)), (10, F (fD L0 cn 1)), (11, .c (.i .i64 (.l 2)))]) [some ⟨true, 0, .cx fun _ => L0⟩, some ⟨true, 0, .lit [.z .f32 (fun _ => 0) (fun _ => 0), .z .f32 (fun _ => 0) (fun _ => 0)]⟩] ?_
      cbv
      repeat' (refine Ob.mk ?_ ?_; (focus (first | exact rfl | exact hc4 | exact ⟨by decide, by decide⟩ | (rw [hL0, hcn]; rfl) | (rw [hL0]; rfl) | (subst hcn; exact rfl) | (dsimp only [IE.val, NE.val, IE.nat]; omega) | (dsimp only [IE.val, NE.val, IE.nat, forced, List.length_cons, List.length_nil]; omega) | decide)); cbv)
      repeat' (refine Ob.mk ?_ ?_; (focus (first | exact rfl | exact hc4 | exact ⟨by decide, by decide⟩ | (rw [hL0, hcn]; rfl) | (rw [hL0]; rfl) | (subst hcn; exact rfl) | (dsimp only [IE.val, NE.val, IE.nat]; omega) | (dsimp only [IE.val, NE.val, IE.nat, forced, List.length_cons, List.length_nil]; omega) | decide)); cbv)
      refine Gen.mk (fr 105 [(1, .c (.i .i64 (.x c))), (2, .c (.p 0 (.l 0))), (4, .c (.p 1 (.l 0))), (7, Zm (fzP L0 cn)), (8, Zm (fzP L0 0)), (9, Zm (fN L0 cn 2)), (10, F (fD L0 cn 2)), (11, .c (.i .i64 (.l 3)))]) [some ⟨true, 0, .cx fun _ => L0⟩, some ⟨true, 0, .lit [.z .f32 (fun _ => 0) (fun _ => 0), .z .f32 (fun _ => 0) (fun _ => 0)]⟩] ?_
      cbv
      repeat' (refine Ob.mk ?_ ?_; (focus (first | exact rfl | exact hc4 | exact ⟨by decide, by decide⟩ | (rw [hL0, hcn]; rfl) | (rw [hL0]; rfl) | (subst hcn; exact rfl) | (dsimp only [IE.val, NE.val, IE.nat]; omega) | (dsimp only [IE.val, NE.val, IE.nat, forced, List.length_cons, List.length_nil]; omega) | decide)); cbv)
      repeat' (refine Ob.mk ?_ ?_; (focus (first | exact rfl | exact hc4 | exact ⟨by decide, by decide⟩ | (rw [hL0, hcn]; rfl) | (rw [hL0]; rfl) | (subst hcn; exact rfl) | (dsimp only [IE.val, NE.val, IE.nat]; omega) | (dsimp only [IE.val, NE.val, IE.nat, forced, List.length_cons, List.length_nil]; omega) | decide)); cbv)
      refine Gen.mk (fr 105 [(1, .c (.i .i64 (.x c))), (2, .c (.p 0 (.l 0))), (4, .c (.p 1 (.l 0))), (7, Zm (fzP L0 cn)), (8, Zm (fzP L0 0)), (9, Zm (fN L0 cn 3)), (10, F (fD L0 cn 3)), (11, .c (.i .i64 (.l 4)))]) [some ⟨true, 0, .cx fun _ => L0⟩, some ⟨true, 0, .lit [.z .f32 (fun _ => 0) (fun _ => 0), .z .f32 (fun _ => 0) (fun _ => 0)]⟩] ?_
      cbv
      repeat' (refine Ob.mk ?_ ?_; (focus (first | exact rfl | exact hc4 | exact ⟨by decide, by decide⟩ | (rw [hL0, hcn]; rfl) | (rw [hL0]; rfl) | (subst hcn; exact rfl) | (dsimp only [IE.val, NE.val, IE.nat]; omega) | (dsimp only [IE.val, NE.val, IE.nat, forced, List.length_cons, List.length_nil]; omega) | decide)); cbv)
      repeat' (refine Ob.mk ?_ ?_; (focus (first | exact rfl | exact hc4 | exact ⟨by decide, by decide⟩ | (rw [hL0, hcn]; rfl) | (rw [hL0]; rfl) | (subst hcn; exact rfl) | (dsimp only [IE.val, NE.val, IE.nat]; omega) | (dsimp only [IE.val, NE.val, IE.nat, forced, List.length_cons, List.length_nil]; omega) | decide)); cbv)
      repeat' (refine Ob.mk ?_ ?_; (focus (first | exact rfl | exact hc4 | exact ⟨by decide, by decide⟩ | (rw [hL0, hcn]; rfl) | (rw [hL0]; rfl) | (subst hcn; exact rfl) | (dsimp only [IE.val, NE.val, IE.nat]; omega) | (dsimp only [IE.val, NE.val, IE.nat, forced, List.length_cons, List.length_nil]; omega) | decide)); cbv)
      rcases bool_ft (finX (fTurn L0 cn).1) with h0 | h0
      · refine Br.f h0 ?_
        cbv
        repeat' (refine Ob.mk ?_ ?_; (focus (first | exact rfl | exact hc4 | exact ⟨by decide, by decide⟩ | (rw [hL0, hcn]; rfl) | (rw [hL0]; rfl) | (subst hcn; exact rfl) | (dsimp only [IE.val, NE.val, IE.nat]; omega) | (dsimp only [IE.val, NE.val, IE.nat, forced, List.length_cons, List.length_nil]; omega) | decide)); cbv)
        rcases bool_ft (fcmp .gtr .f32 (fD L0 cn 3) 0) with hd | hd
        · have hval := fit_no hd
          have e0 : (0 : Nat) = (fitR [(e 0 ⟨⟩, m 0 ⟨⟩), (e 1 ⟨⟩, m 1 ⟨⟩), (e 2 ⟨⟩, m 2 ⟨⟩), (e 3 ⟨⟩, m 3 ⟨⟩), (e 4 ⟨⟩, m 4 ⟨⟩), (e 5 ⟨⟩, m 5 ⟨⟩), (e 6 ⟨⟩, m 6 ⟨⟩), (e 7 ⟨⟩, m 7 ⟨⟩), (e 8 ⟨⟩, m 8 ⟨⟩), (e 9 ⟨⟩, m 9 ⟨⟩), (e 10 ⟨⟩, m 10 ⟨⟩), (e 11 ⟨⟩, m 11 ⟨⟩), (e 12 ⟨⟩, m 12 ⟨⟩), (e 13 ⟨⟩, m 13 ⟨⟩), (e 14 ⟨⟩, m 14 ⟨⟩), (e 15 ⟨⟩, m 15 ⟨⟩)] (c ⟨⟩).toNat).1.1.1 := by rw [hF, hval]
          have e1 : (0 : Nat) = (fitR [(e 0 ⟨⟩, m 0 ⟨⟩), (e 1 ⟨⟩, m 1 ⟨⟩), (e 2 ⟨⟩, m 2 ⟨⟩), (e 3 ⟨⟩, m 3 ⟨⟩), (e 4 ⟨⟩, m 4 ⟨⟩), (e 5 ⟨⟩, m 5 ⟨⟩), (e 6 ⟨⟩, m 6 ⟨⟩), (e 7 ⟨⟩, m 7 ⟨⟩), (e 8 ⟨⟩, m 8 ⟨⟩), (e 9 ⟨⟩, m 9 ⟨⟩), (e 10 ⟨⟩, m 10 ⟨⟩), (e 11 ⟨⟩, m 11 ⟨⟩), (e 12 ⟨⟩, m 12 ⟨⟩), (e 13 ⟨⟩, m 13 ⟨⟩), (e 14 ⟨⟩, m 14 ⟨⟩), (e 15 ⟨⟩, m 15 ⟨⟩)] (c ⟨⟩).toNat).1.1.2 := by rw [hF, hval]
          have e2 : (0 : Nat) = (fitR [(e 0 ⟨⟩, m 0 ⟨⟩), (e 1 ⟨⟩, m 1 ⟨⟩), (e 2 ⟨⟩, m 2 ⟨⟩), (e 3 ⟨⟩, m 3 ⟨⟩), (e 4 ⟨⟩, m 4 ⟨⟩), (e 5 ⟨⟩, m 5 ⟨⟩), (e 6 ⟨⟩, m 6 ⟨⟩), (e 7 ⟨⟩, m 7 ⟨⟩), (e 8 ⟨⟩, m 8 ⟨⟩), (e 9 ⟨⟩, m 9 ⟨⟩), (e 10 ⟨⟩, m 10 ⟨⟩), (e 11 ⟨⟩, m 11 ⟨⟩), (e 12 ⟨⟩, m 12 ⟨⟩), (e 13 ⟨⟩, m 13 ⟨⟩), (e 14 ⟨⟩, m 14 ⟨⟩), (e 15 ⟨⟩, m 15 ⟨⟩)] (c ⟨⟩).toNat).1.2.1 := by rw [hF, hval]
          have e3 : (0 : Nat) = (fitR [(e 0 ⟨⟩, m 0 ⟨⟩), (e 1 ⟨⟩, m 1 ⟨⟩), (e 2 ⟨⟩, m 2 ⟨⟩), (e 3 ⟨⟩, m 3 ⟨⟩), (e 4 ⟨⟩, m 4 ⟨⟩), (e 5 ⟨⟩, m 5 ⟨⟩), (e 6 ⟨⟩, m 6 ⟨⟩), (e 7 ⟨⟩, m 7 ⟨⟩), (e 8 ⟨⟩, m 8 ⟨⟩), (e 9 ⟨⟩, m 9 ⟨⟩), (e 10 ⟨⟩, m 10 ⟨⟩), (e 11 ⟨⟩, m 11 ⟨⟩), (e 12 ⟨⟩, m 12 ⟨⟩), (e 13 ⟨⟩, m 13 ⟨⟩), (e 14 ⟨⟩, m 14 ⟨⟩), (e 15 ⟨⟩, m 15 ⟨⟩)] (c ⟨⟩).toNat).1.2.2 := by rw [hF, hval]
          have e4 : (4 : Int) = (fitR [(e 0 ⟨⟩, m 0 ⟨⟩), (e 1 ⟨⟩, m 1 ⟨⟩), (e 2 ⟨⟩, m 2 ⟨⟩), (e 3 ⟨⟩, m 3 ⟨⟩), (e 4 ⟨⟩, m 4 ⟨⟩), (e 5 ⟨⟩, m 5 ⟨⟩), (e 6 ⟨⟩, m 6 ⟨⟩), (e 7 ⟨⟩, m 7 ⟨⟩), (e 8 ⟨⟩, m 8 ⟨⟩), (e 9 ⟨⟩, m 9 ⟨⟩), (e 10 ⟨⟩, m 10 ⟨⟩), (e 11 ⟨⟩, m 11 ⟨⟩), (e 12 ⟨⟩, m 12 ⟨⟩), (e 13 ⟨⟩, m 13 ⟨⟩), (e 14 ⟨⟩, m 14 ⟨⟩), (e 15 ⟨⟩, m 15 ⟨⟩)] (c ⟨⟩).toNat).2 := by rw [hF, hval]
          refine Br.t (nft hd) ?_
          cbv
          repeat' (refine Ob.mk ?_ ?_; (focus (first | exact e0 | exact e1 | exact e2 | exact e3 | exact e4 | exact rfl)); cbv)
        · have hval := fit_inf (fin_1 h0)
          have e0 : (0 : Nat) = (fitR [(e 0 ⟨⟩, m 0 ⟨⟩), (e 1 ⟨⟩, m 1 ⟨⟩), (e 2 ⟨⟩, m 2 ⟨⟩), (e 3 ⟨⟩, m 3 ⟨⟩), (e 4 ⟨⟩, m 4 ⟨⟩), (e 5 ⟨⟩, m 5 ⟨⟩), (e 6 ⟨⟩, m 6 ⟨⟩), (e 7 ⟨⟩, m 7 ⟨⟩), (e 8 ⟨⟩, m 8 ⟨⟩), (e 9 ⟨⟩, m 9 ⟨⟩), (e 10 ⟨⟩, m 10 ⟨⟩), (e 11 ⟨⟩, m 11 ⟨⟩), (e 12 ⟨⟩, m 12 ⟨⟩), (e 13 ⟨⟩, m 13 ⟨⟩), (e 14 ⟨⟩, m 14 ⟨⟩), (e 15 ⟨⟩, m 15 ⟨⟩)] (c ⟨⟩).toNat).1.1.1 := by rw [hF, hval]
          have e1 : (0 : Nat) = (fitR [(e 0 ⟨⟩, m 0 ⟨⟩), (e 1 ⟨⟩, m 1 ⟨⟩), (e 2 ⟨⟩, m 2 ⟨⟩), (e 3 ⟨⟩, m 3 ⟨⟩), (e 4 ⟨⟩, m 4 ⟨⟩), (e 5 ⟨⟩, m 5 ⟨⟩), (e 6 ⟨⟩, m 6 ⟨⟩), (e 7 ⟨⟩, m 7 ⟨⟩), (e 8 ⟨⟩, m 8 ⟨⟩), (e 9 ⟨⟩, m 9 ⟨⟩), (e 10 ⟨⟩, m 10 ⟨⟩), (e 11 ⟨⟩, m 11 ⟨⟩), (e 12 ⟨⟩, m 12 ⟨⟩), (e 13 ⟨⟩, m 13 ⟨⟩), (e 14 ⟨⟩, m 14 ⟨⟩), (e 15 ⟨⟩, m 15 ⟨⟩)] (c ⟨⟩).toNat).1.1.2 := by rw [hF, hval]
          have e2 : (0 : Nat) = (fitR [(e 0 ⟨⟩, m 0 ⟨⟩), (e 1 ⟨⟩, m 1 ⟨⟩), (e 2 ⟨⟩, m 2 ⟨⟩), (e 3 ⟨⟩, m 3 ⟨⟩), (e 4 ⟨⟩, m 4 ⟨⟩), (e 5 ⟨⟩, m 5 ⟨⟩), (e 6 ⟨⟩, m 6 ⟨⟩), (e 7 ⟨⟩, m 7 ⟨⟩), (e 8 ⟨⟩, m 8 ⟨⟩), (e 9 ⟨⟩, m 9 ⟨⟩), (e 10 ⟨⟩, m 10 ⟨⟩), (e 11 ⟨⟩, m 11 ⟨⟩), (e 12 ⟨⟩, m 12 ⟨⟩), (e 13 ⟨⟩, m 13 ⟨⟩), (e 14 ⟨⟩, m 14 ⟨⟩), (e 15 ⟨⟩, m 15 ⟨⟩)] (c ⟨⟩).toNat).1.2.1 := by rw [hF, hval]
          have e3 : (0 : Nat) = (fitR [(e 0 ⟨⟩, m 0 ⟨⟩), (e 1 ⟨⟩, m 1 ⟨⟩), (e 2 ⟨⟩, m 2 ⟨⟩), (e 3 ⟨⟩, m 3 ⟨⟩), (e 4 ⟨⟩, m 4 ⟨⟩), (e 5 ⟨⟩, m 5 ⟨⟩), (e 6 ⟨⟩, m 6 ⟨⟩), (e 7 ⟨⟩, m 7 ⟨⟩), (e 8 ⟨⟩, m 8 ⟨⟩), (e 9 ⟨⟩, m 9 ⟨⟩), (e 10 ⟨⟩, m 10 ⟨⟩), (e 11 ⟨⟩, m 11 ⟨⟩), (e 12 ⟨⟩, m 12 ⟨⟩), (e 13 ⟨⟩, m 13 ⟨⟩), (e 14 ⟨⟩, m 14 ⟨⟩), (e 15 ⟨⟩, m 15 ⟨⟩)] (c ⟨⟩).toNat).1.2.2 := by rw [hF, hval]
          have e4 : (4 : Int) = (fitR [(e 0 ⟨⟩, m 0 ⟨⟩), (e 1 ⟨⟩, m 1 ⟨⟩), (e 2 ⟨⟩, m 2 ⟨⟩), (e 3 ⟨⟩, m 3 ⟨⟩), (e 4 ⟨⟩, m 4 ⟨⟩), (e 5 ⟨⟩, m 5 ⟨⟩), (e 6 ⟨⟩, m 6 ⟨⟩), (e 7 ⟨⟩, m 7 ⟨⟩), (e 8 ⟨⟩, m 8 ⟨⟩), (e 9 ⟨⟩, m 9 ⟨⟩), (e 10 ⟨⟩, m 10 ⟨⟩), (e 11 ⟨⟩, m 11 ⟨⟩), (e 12 ⟨⟩, m 12 ⟨⟩), (e 13 ⟨⟩, m 13 ⟨⟩), (e 14 ⟨⟩, m 14 ⟨⟩), (e 15 ⟨⟩, m 15 ⟨⟩)] (c ⟨⟩).toNat).2 := by rw [hF, hval]
          refine Br.f (ntf hd) ?_
          cbv
          repeat' (refine Ob.mk ?_ ?_; (focus (first | exact e0 | exact e1 | exact e2 | exact e3 | exact e4 | exact rfl)); cbv)
      · refine Br.t h0 ?_
        cbv
        repeat' (refine Ob.mk ?_ ?_; (focus (first | exact rfl | exact hc4 | exact ⟨by decide, by decide⟩ | (rw [hL0, hcn]; rfl) | (rw [hL0]; rfl) | (subst hcn; exact rfl) | (dsimp only [IE.val, NE.val, IE.nat]; omega) | (dsimp only [IE.val, NE.val, IE.nat, forced, List.length_cons, List.length_nil]; omega) | decide)); cbv)
        rcases bool_ft (finX (fTurn L0 cn).2) with h1 | h1
        · refine Br.f h1 ?_
          cbv
          repeat' (refine Ob.mk ?_ ?_; (focus (first | exact rfl | exact hc4 | exact ⟨by decide, by decide⟩ | (rw [hL0, hcn]; rfl) | (rw [hL0]; rfl) | (subst hcn; exact rfl) | (dsimp only [IE.val, NE.val, IE.nat]; omega) | (dsimp only [IE.val, NE.val, IE.nat, forced, List.length_cons, List.length_nil]; omega) | decide)); cbv)
          rcases bool_ft (fcmp .gtr .f32 (fD L0 cn 3) 0) with hd | hd
          · have hval := fit_no hd
            have e0 : (0 : Nat) = (fitR [(e 0 ⟨⟩, m 0 ⟨⟩), (e 1 ⟨⟩, m 1 ⟨⟩), (e 2 ⟨⟩, m 2 ⟨⟩), (e 3 ⟨⟩, m 3 ⟨⟩), (e 4 ⟨⟩, m 4 ⟨⟩), (e 5 ⟨⟩, m 5 ⟨⟩), (e 6 ⟨⟩, m 6 ⟨⟩), (e 7 ⟨⟩, m 7 ⟨⟩), (e 8 ⟨⟩, m 8 ⟨⟩), (e 9 ⟨⟩, m 9 ⟨⟩), (e 10 ⟨⟩, m 10 ⟨⟩), (e 11 ⟨⟩, m 11 ⟨⟩), (e 12 ⟨⟩, m 12 ⟨⟩), (e 13 ⟨⟩, m 13 ⟨⟩), (e 14 ⟨⟩, m 14 ⟨⟩), (e 15 ⟨⟩, m 15 ⟨⟩)] (c ⟨⟩).toNat).1.1.1 := by rw [hF, hval]
            have e1 : (0 : Nat) = (fitR [(e 0 ⟨⟩, m 0 ⟨⟩), (e 1 ⟨⟩, m 1 ⟨⟩), (e 2 ⟨⟩, m 2 ⟨⟩), (e 3 ⟨⟩, m 3 ⟨⟩), (e 4 ⟨⟩, m 4 ⟨⟩), (e 5 ⟨⟩, m 5 ⟨⟩), (e 6 ⟨⟩, m 6 ⟨⟩), (e 7 ⟨⟩, m 7 ⟨⟩), (e 8 ⟨⟩, m 8 ⟨⟩), (e 9 ⟨⟩, m 9 ⟨⟩), (e 10 ⟨⟩, m 10 ⟨⟩), (e 11 ⟨⟩, m 11 ⟨⟩), (e 12 ⟨⟩, m 12 ⟨⟩), (e 13 ⟨⟩, m 13 ⟨⟩), (e 14 ⟨⟩, m 14 ⟨⟩), (e 15 ⟨⟩, m 15 ⟨⟩)] (c ⟨⟩).toNat).1.1.2 := by rw [hF, hval]
            have e2 : (0 : Nat) = (fitR [(e 0 ⟨⟩, m 0 ⟨⟩), (e 1 ⟨⟩, m 1 ⟨⟩), (e 2 ⟨⟩, m 2 ⟨⟩), (e 3 ⟨⟩, m 3 ⟨⟩), (e 4 ⟨⟩, m 4 ⟨⟩), (e 5 ⟨⟩, m 5 ⟨⟩), (e 6 ⟨⟩, m 6 ⟨⟩), (e 7 ⟨⟩, m 7 ⟨⟩), (e 8 ⟨⟩, m 8 ⟨⟩), (e 9 ⟨⟩, m 9 ⟨⟩), (e 10 ⟨⟩, m 10 ⟨⟩), (e 11 ⟨⟩, m 11 ⟨⟩), (e 12 ⟨⟩, m 12 ⟨⟩), (e 13 ⟨⟩, m 13 ⟨⟩), (e 14 ⟨⟩, m 14 ⟨⟩), (e 15 ⟨⟩, m 15 ⟨⟩)] (c ⟨⟩).toNat).1.2.1 := by rw [hF, hval]
            have e3 : (0 : Nat) = (fitR [(e 0 ⟨⟩, m 0 ⟨⟩), (e 1 ⟨⟩, m 1 ⟨⟩), (e 2 ⟨⟩, m 2 ⟨⟩), (e 3 ⟨⟩, m 3 ⟨⟩), (e 4 ⟨⟩, m 4 ⟨⟩), (e 5 ⟨⟩, m 5 ⟨⟩), (e 6 ⟨⟩, m 6 ⟨⟩), (e 7 ⟨⟩, m 7 ⟨⟩), (e 8 ⟨⟩, m 8 ⟨⟩), (e 9 ⟨⟩, m 9 ⟨⟩), (e 10 ⟨⟩, m 10 ⟨⟩), (e 11 ⟨⟩, m 11 ⟨⟩), (e 12 ⟨⟩, m 12 ⟨⟩), (e 13 ⟨⟩, m 13 ⟨⟩), (e 14 ⟨⟩, m 14 ⟨⟩), (e 15 ⟨⟩, m 15 ⟨⟩)] (c ⟨⟩).toNat).1.2.2 := by rw [hF, hval]
            have e4 : (4 : Int) = (fitR [(e 0 ⟨⟩, m 0 ⟨⟩), (e 1 ⟨⟩, m 1 ⟨⟩), (e 2 ⟨⟩, m 2 ⟨⟩), (e 3 ⟨⟩, m 3 ⟨⟩), (e 4 ⟨⟩, m 4 ⟨⟩), (e 5 ⟨⟩, m 5 ⟨⟩), (e 6 ⟨⟩, m 6 ⟨⟩), (e 7 ⟨⟩, m 7 ⟨⟩), (e 8 ⟨⟩, m 8 ⟨⟩), (e 9 ⟨⟩, m 9 ⟨⟩), (e 10 ⟨⟩, m 10 ⟨⟩), (e 11 ⟨⟩, m 11 ⟨⟩), (e 12 ⟨⟩, m 12 ⟨⟩), (e 13 ⟨⟩, m 13 ⟨⟩), (e 14 ⟨⟩, m 14 ⟨⟩), (e 15 ⟨⟩, m 15 ⟨⟩)] (c ⟨⟩).toNat).2 := by rw [hF, hval]
            refine Br.t (nft hd) ?_
            cbv
            repeat' (refine Ob.mk ?_ ?_; (focus (first | exact e0 | exact e1 | exact e2 | exact e3 | exact e4 | exact rfl)); cbv)
          · have hval := fit_inf (fin_2 h1)
            have e0 : (0 : Nat) = (fitR [(e 0 ⟨⟩, m 0 ⟨⟩), (e 1 ⟨⟩, m 1 ⟨⟩), (e 2 ⟨⟩, m 2 ⟨⟩), (e 3 ⟨⟩, m 3 ⟨⟩), (e 4 ⟨⟩, m 4 ⟨⟩), (e 5 ⟨⟩, m 5 ⟨⟩), (e 6 ⟨⟩, m 6 ⟨⟩), (e 7 ⟨⟩, m 7 ⟨⟩), (e 8 ⟨⟩, m 8 ⟨⟩), (e 9 ⟨⟩, m 9 ⟨⟩), (e 10 ⟨⟩, m 10 ⟨⟩), (e 11 ⟨⟩, m 11 ⟨⟩), (e 12 ⟨⟩, m 12 ⟨⟩), (e 13 ⟨⟩, m 13 ⟨⟩), (e 14 ⟨⟩, m 14 ⟨⟩), (e 15 ⟨⟩, m 15 ⟨⟩)] (c ⟨⟩).toNat).1.1.1 := by rw [hF, hval]
            have e1 : (0 : Nat) = (fitR [(e 0 ⟨⟩, m 0 ⟨⟩), (e 1 ⟨⟩, m 1 ⟨⟩), (e 2 ⟨⟩, m 2 ⟨⟩), (e 3 ⟨⟩, m 3 ⟨⟩), (e 4 ⟨⟩, m 4 ⟨⟩), (e 5 ⟨⟩, m 5 ⟨⟩), (e 6 ⟨⟩, m 6 ⟨⟩), (e 7 ⟨⟩, m 7 ⟨⟩), (e 8 ⟨⟩, m 8 ⟨⟩), (e 9 ⟨⟩, m 9 ⟨⟩), (e 10 ⟨⟩, m 10 ⟨⟩), (e 11 ⟨⟩, m 11 ⟨⟩), (e 12 ⟨⟩, m 12 ⟨⟩), (e 13 ⟨⟩, m 13 ⟨⟩), (e 14 ⟨⟩, m 14 ⟨⟩), (e 15 ⟨⟩, m 15 ⟨⟩)] (c ⟨⟩).toNat).1.1.2 := by rw [hF, hval]
            have e2 : (0 : Nat) = (fitR [(e 0 ⟨⟩, m 0 ⟨⟩), (e 1 ⟨⟩, m 1 ⟨⟩), (e 2 ⟨⟩, m 2 ⟨⟩), (e 3 ⟨⟩, m 3 ⟨⟩), (e 4 ⟨⟩, m 4 ⟨⟩), (e 5 ⟨⟩, m 5 ⟨⟩), (e 6 ⟨⟩, m 6 ⟨⟩), (e 7 ⟨⟩, m 7 ⟨⟩), (e 8 ⟨⟩, m 8 ⟨⟩), (e 9 ⟨⟩, m 9 ⟨⟩), (e 10 ⟨⟩, m 10 ⟨⟩), (e 11 ⟨⟩, m 11 ⟨⟩), (e 12 ⟨⟩, m 12 ⟨⟩), (e 13 ⟨⟩, m 13 ⟨⟩), (e 14 ⟨⟩, m 14 ⟨⟩), (e 15 ⟨⟩, m 15 ⟨⟩)] (c ⟨⟩).toNat).1.2.1 := by rw [hF, hval]
            have e3 : (0 : Nat) = (fitR [(e 0 ⟨⟩, m 0 ⟨⟩), (e 1 ⟨⟩, m 1 ⟨⟩), (e 2 ⟨⟩, m 2 ⟨⟩), (e 3 ⟨⟩, m 3 ⟨⟩), (e 4 ⟨⟩, m 4 ⟨⟩), (e 5 ⟨⟩, m 5 ⟨⟩), (e 6 ⟨⟩, m 6 ⟨⟩), (e 7 ⟨⟩, m 7 ⟨⟩), (e 8 ⟨⟩, m 8 ⟨⟩), (e 9 ⟨⟩, m 9 ⟨⟩), (e 10 ⟨⟩, m 10 ⟨⟩), (e 11 ⟨⟩, m 11 ⟨⟩), (e 12 ⟨⟩, m 12 ⟨⟩), (e 13 ⟨⟩, m 13 ⟨⟩), (e 14 ⟨⟩, m 14 ⟨⟩), (e 15 ⟨⟩, m 15 ⟨⟩)] (c ⟨⟩).toNat).1.2.2 := by rw [hF, hval]
            have e4 : (4 : Int) = (fitR [(e 0 ⟨⟩, m 0 ⟨⟩), (e 1 ⟨⟩, m 1 ⟨⟩), (e 2 ⟨⟩, m 2 ⟨⟩), (e 3 ⟨⟩, m 3 ⟨⟩), (e 4 ⟨⟩, m 4 ⟨⟩), (e 5 ⟨⟩, m 5 ⟨⟩), (e 6 ⟨⟩, m 6 ⟨⟩), (e 7 ⟨⟩, m 7 ⟨⟩), (e 8 ⟨⟩, m 8 ⟨⟩), (e 9 ⟨⟩, m 9 ⟨⟩), (e 10 ⟨⟩, m 10 ⟨⟩), (e 11 ⟨⟩, m 11 ⟨⟩), (e 12 ⟨⟩, m 12 ⟨⟩), (e 13 ⟨⟩, m 13 ⟨⟩), (e 14 ⟨⟩, m 14 ⟨⟩), (e 15 ⟨⟩, m 15 ⟨⟩)] (c ⟨⟩).toNat).2 := by rw [hF, hval]
            refine Br.f (ntf hd) ?_
            cbv
            repeat' (refine Ob.mk ?_ ?_; (focus (first | exact e0 | exact e1 | exact e2 | exact e3 | exact e4 | exact rfl)); cbv)
        · refine Br.t h1 ?_
          cbv
          repeat' (refine Ob.mk ?_ ?_; (focus (first | exact rfl | exact hc4 | exact ⟨by decide, by decide⟩ | (rw [hL0, hcn]; rfl) | (rw [hL0]; rfl) | (subst hcn; exact rfl) | (dsimp only [IE.val, NE.val, IE.nat]; omega) | (dsimp only [IE.val, NE.val, IE.nat, forced, List.length_cons, List.length_nil]; omega) | decide)); cbv)
          rcases bool_ft (finX (fMove L0 cn).1) with h2 | h2
          · refine Br.f h2 ?_
            cbv
            repeat' (refine Ob.mk ?_ ?_; (focus (first | exact rfl | exact hc4 | exact ⟨by decide, by decide⟩ | (rw [hL0, hcn]; rfl) | (rw [hL0]; rfl) | (subst hcn; exact rfl) | (dsimp only [IE.val, NE.val, IE.nat]; omega) | (dsimp only [IE.val, NE.val, IE.nat, forced, List.length_cons, List.length_nil]; omega) | decide)); cbv)
            rcases bool_ft (fcmp .gtr .f32 (fD L0 cn 3) 0) with hd | hd
            · have hval := fit_no hd
              have e0 : (0 : Nat) = (fitR [(e 0 ⟨⟩, m 0 ⟨⟩), (e 1 ⟨⟩, m 1 ⟨⟩), (e 2 ⟨⟩, m 2 ⟨⟩), (e 3 ⟨⟩, m 3 ⟨⟩), (e 4 ⟨⟩, m 4 ⟨⟩), (e 5 ⟨⟩, m 5 ⟨⟩), (e 6 ⟨⟩, m 6 ⟨⟩), (e 7 ⟨⟩, m 7 ⟨⟩), (e 8 ⟨⟩, m 8 ⟨⟩), (e 9 ⟨⟩, m 9 ⟨⟩), (e 10 ⟨⟩, m 10 ⟨⟩), (e 11 ⟨⟩, m 11 ⟨⟩), (e 12 ⟨⟩, m 12 ⟨⟩), (e 13 ⟨⟩, m 13 ⟨⟩), (e 14 ⟨⟩, m 14 ⟨⟩), (e 15 ⟨⟩, m 15 ⟨⟩)] (c ⟨⟩).toNat).1.1.1 := by rw [hF, hval]
              have e1 : (0 : Nat) = (fitR [(e 0 ⟨⟩, m 0 ⟨⟩), (e 1 ⟨⟩, m 1 ⟨⟩), (e 2 ⟨⟩, m 2 ⟨⟩), (e 3 ⟨⟩, m 3 ⟨⟩), (e 4 ⟨⟩, m 4 ⟨⟩), (e 5 ⟨⟩, m 5 ⟨⟩), (e 6 ⟨⟩, m 6 ⟨⟩), (e 7 ⟨⟩, m 7 ⟨⟩), (e 8 ⟨⟩, m 8 ⟨⟩), (e 9 ⟨⟩, m 9 ⟨⟩), (e 10 ⟨⟩, m 10 ⟨⟩), (e 11 ⟨⟩, m 11 ⟨⟩), (e 12 ⟨⟩, m 12 ⟨⟩), (e 13 ⟨⟩, m 13 ⟨⟩), (e 14 ⟨⟩, m 14 ⟨⟩), (e 15 ⟨⟩, m 15 ⟨⟩)] (c ⟨⟩).toNat).1.1.2 := by rw [hF, hval]
              have e2 : (0 : Nat) = (fitR [(e 0 ⟨⟩, m 0 ⟨⟩), (e 1 ⟨⟩, m 1 ⟨⟩), (e 2 ⟨⟩, m 2 ⟨⟩), (e 3 ⟨⟩, m 3 ⟨⟩), (e 4 ⟨⟩, m 4 ⟨⟩), (e 5 ⟨⟩, m 5 ⟨⟩), (e 6 ⟨⟩, m 6 ⟨⟩), (e 7 ⟨⟩, m 7 ⟨⟩), (e 8 ⟨⟩, m 8 ⟨⟩), (e 9 ⟨⟩, m 9 ⟨⟩), (e 10 ⟨⟩, m 10 ⟨⟩), (e 11 ⟨⟩, m 11 ⟨⟩), (e 12 ⟨⟩, m 12 ⟨⟩), (e 13 ⟨⟩, m 13 ⟨⟩), (e 14 ⟨⟩, m 14 ⟨⟩), (e 15 ⟨⟩, m 15 ⟨⟩)] (c ⟨⟩).toNat).1.2.1 := by rw [hF, hval]
              have e3 : (0 : Nat) = (fitR [(e 0 ⟨⟩, m 0 ⟨⟩), (e 1 ⟨⟩, m 1 ⟨⟩), (e 2 ⟨⟩, m 2 ⟨⟩), (e 3 ⟨⟩, m 3 ⟨⟩), (e 4 ⟨⟩, m 4 ⟨⟩), (e 5 ⟨⟩, m 5 ⟨⟩), (e 6 ⟨⟩, m 6 ⟨⟩), (e 7 ⟨⟩, m 7 ⟨⟩), (e 8 ⟨⟩, m 8 ⟨⟩), (e 9 ⟨⟩, m 9 ⟨⟩), (e 10 ⟨⟩, m 10 ⟨⟩), (e 11 ⟨⟩, m 11 ⟨⟩), (e 12 ⟨⟩, m 12 ⟨⟩), (e 13 ⟨⟩, m 13 ⟨⟩), (e 14 ⟨⟩, m 14 ⟨⟩), (e 15 ⟨⟩, m 15 ⟨⟩)] (c ⟨⟩).toNat).1.2.2 := by rw [hF, hval]
              have e4 : (4 : Int) = (fitR [(e 0 ⟨⟩, m 0 ⟨⟩), (e 1 ⟨⟩, m 1 ⟨⟩), (e 2 ⟨⟩, m 2 ⟨⟩), (e 3 ⟨⟩, m 3 ⟨⟩), (e 4 ⟨⟩, m 4 ⟨⟩), (e 5 ⟨⟩, m 5 ⟨⟩), (e 6 ⟨⟩, m 6 ⟨⟩), (e 7 ⟨⟩, m 7 ⟨⟩), (e 8 ⟨⟩, m 8 ⟨⟩), (e 9 ⟨⟩, m 9 ⟨⟩), (e 10 ⟨⟩, m 10 ⟨⟩), (e 11 ⟨⟩, m 11 ⟨⟩), (e 12 ⟨⟩, m 12 ⟨⟩), (e 13 ⟨⟩, m 13 ⟨⟩), (e 14 ⟨⟩, m 14 ⟨⟩), (e 15 ⟨⟩, m 15 ⟨⟩)] (c ⟨⟩).toNat).2 := by rw [hF, hval]
              refine Br.t (nft hd) ?_
              cbv
              repeat' (refine Ob.mk ?_ ?_; (focus (first | exact e0 | exact e1 | exact e2 | exact e3 | exact e4 | exact rfl)); cbv)
            · have hval := fit_inf (fin_3 h2)
              have e0 : (0 : Nat) = (fitR [(e 0 ⟨⟩, m 0 ⟨⟩), (e 1 ⟨⟩, m 1 ⟨⟩), (e 2 ⟨⟩, m 2 ⟨⟩), (e 3 ⟨⟩, m 3 ⟨⟩), (e 4 ⟨⟩, m 4 ⟨⟩), (e 5 ⟨⟩, m 5 ⟨⟩), (e 6 ⟨⟩, m 6 ⟨⟩), (e 7 ⟨⟩, m 7 ⟨⟩), (e 8 ⟨⟩, m 8 ⟨⟩), (e 9 ⟨⟩, m 9 ⟨⟩), (e 10 ⟨⟩, m 10 ⟨⟩), (e 11 ⟨⟩, m 11 ⟨⟩), (e 12 ⟨⟩, m 12 ⟨⟩), (e 13 ⟨⟩, m 13 ⟨⟩), (e 14 ⟨⟩, m 14 ⟨⟩), (e 15 ⟨⟩, m 15 ⟨⟩)] (c ⟨⟩).toNat).1.1.1 := by rw [hF, hval]
              have e1 : (0 : Nat) = (fitR [(e 0 ⟨⟩, m 0 ⟨⟩), (e 1 ⟨⟩, m 1 ⟨⟩), (e 2 ⟨⟩, m 2 ⟨⟩), (e 3 ⟨⟩, m 3 ⟨⟩), (e 4 ⟨⟩, m 4 ⟨⟩), (e 5 ⟨⟩, m 5 ⟨⟩), (e 6 ⟨⟩, m 6 ⟨⟩), (e 7 ⟨⟩, m 7 ⟨⟩), (e 8 ⟨⟩, m 8 ⟨⟩), (e 9 ⟨⟩, m 9 ⟨⟩), (e 10 ⟨⟩, m 10 ⟨⟩), (e 11 ⟨⟩, m 11 ⟨⟩), (e 12 ⟨⟩, m 12 ⟨⟩), (e 13 ⟨⟩, m 13 ⟨⟩), (e 14 ⟨⟩, m 14 ⟨⟩), (e 15 ⟨⟩, m 15 ⟨⟩)] (c ⟨⟩).toNat).1.1.2 := by rw [hF, hval]
              have e2 : (0 : Nat) = (fitR [(e 0 ⟨⟩, m 0 ⟨⟩), (e 1 ⟨⟩, m 1 ⟨⟩), (e 2 ⟨⟩, m 2 ⟨⟩), (e 3 ⟨⟩, m 3 ⟨⟩), (e 4 ⟨⟩, m 4 ⟨⟩), (e 5 ⟨⟩, m 5 ⟨⟩), (e 6 ⟨⟩, m 6 ⟨⟩), (e 7 ⟨⟩, m 7 ⟨⟩), (e 8 ⟨⟩, m 8 ⟨⟩), (e 9 ⟨⟩, m 9 ⟨⟩), (e 10 ⟨⟩, m 10 ⟨⟩), (e 11 ⟨⟩, m 11 ⟨⟩), (e 12 ⟨⟩, m 12 ⟨⟩), (e 13 ⟨⟩, m 13 ⟨⟩), (e 14 ⟨⟩, m 14 ⟨⟩), (e 15 ⟨⟩, m 15 ⟨⟩)] (c ⟨⟩).toNat).1.2.1 := by rw [hF, hval]
              have e3 : (0 : Nat) = (fitR [(e 0 ⟨⟩, m 0 ⟨⟩), (e 1 ⟨⟩, m 1 ⟨⟩), (e 2 ⟨⟩, m 2 ⟨⟩), (e 3 ⟨⟩, m 3 ⟨⟩), (e 4 ⟨⟩, m 4 ⟨⟩), (e 5 ⟨⟩, m 5 ⟨⟩), (e 6 ⟨⟩, m 6 ⟨⟩), (e 7 ⟨⟩, m 7 ⟨⟩), (e 8 ⟨⟩, m 8 ⟨⟩), (e 9 ⟨⟩, m 9 ⟨⟩), (e 10 ⟨⟩, m 10 ⟨⟩), (e 11 ⟨⟩, m 11 ⟨⟩), (e 12 ⟨⟩, m 12 ⟨⟩), (e 13 ⟨⟩, m 13 ⟨⟩), (e 14 ⟨⟩, m 14 ⟨⟩), (e 15 ⟨⟩, m 15 ⟨⟩)] (c ⟨⟩).toNat).1.2.2 := by rw [hF, hval]
              have e4 : (4 : Int) = (fitR [(e 0 ⟨⟩, m 0 ⟨⟩), (e 1 ⟨⟩, m 1 ⟨⟩), (e 2 ⟨⟩, m 2 ⟨⟩), (e 3 ⟨⟩, m 3 ⟨⟩), (e 4 ⟨⟩, m 4 ⟨⟩), (e 5 ⟨⟩, m 5 ⟨⟩), (e 6 ⟨⟩, m 6 ⟨⟩), (e 7 ⟨⟩, m 7 ⟨⟩), (e 8 ⟨⟩, m 8 ⟨⟩), (e 9 ⟨⟩, m 9 ⟨⟩), (e 10 ⟨⟩, m 10 ⟨⟩), (e 11 ⟨⟩, m 11 ⟨⟩), (e 12 ⟨⟩, m 12 ⟨⟩), (e 13 ⟨⟩, m 13 ⟨⟩), (e 14 ⟨⟩, m 14 ⟨⟩), (e 15 ⟨⟩, m 15 ⟨⟩)] (c ⟨⟩).toNat).2 := by rw [hF, hval]
              refine Br.f (ntf hd) ?_
              cbv
              repeat' (refine Ob.mk ?_ ?_; (focus (first | exact e0 | exact e1 | exact e2 | exact e3 | exact e4 | exact rfl)); cbv)
          · refine Br.t h2 ?_
            cbv
            repeat' (refine Ob.mk ?_ ?_; (focus (first | exact rfl | exact hc4 | exact ⟨by decide, by decide⟩ | (rw [hL0, hcn]; rfl) | (rw [hL0]; rfl) | (subst hcn; exact rfl) | (dsimp only [IE.val, NE.val, IE.nat]; omega) | (dsimp only [IE.val, NE.val, IE.nat, forced, List.length_cons, List.length_nil]; omega) | decide)); cbv)
            rcases bool_ft (fcmp .gtr .f32 (fD L0 cn 3) 0) with hd | hd
            · have hval := fit_no hd
              have e0 : (0 : Nat) = (fitR [(e 0 ⟨⟩, m 0 ⟨⟩), (e 1 ⟨⟩, m 1 ⟨⟩), (e 2 ⟨⟩, m 2 ⟨⟩), (e 3 ⟨⟩, m 3 ⟨⟩), (e 4 ⟨⟩, m 4 ⟨⟩), (e 5 ⟨⟩, m 5 ⟨⟩), (e 6 ⟨⟩, m 6 ⟨⟩), (e 7 ⟨⟩, m 7 ⟨⟩), (e 8 ⟨⟩, m 8 ⟨⟩), (e 9 ⟨⟩, m 9 ⟨⟩), (e 10 ⟨⟩, m 10 ⟨⟩), (e 11 ⟨⟩, m 11 ⟨⟩), (e 12 ⟨⟩, m 12 ⟨⟩), (e 13 ⟨⟩, m 13 ⟨⟩), (e 14 ⟨⟩, m 14 ⟨⟩), (e 15 ⟨⟩, m 15 ⟨⟩)] (c ⟨⟩).toNat).1.1.1 := by rw [hF, hval]
              have e1 : (0 : Nat) = (fitR [(e 0 ⟨⟩, m 0 ⟨⟩), (e 1 ⟨⟩, m 1 ⟨⟩), (e 2 ⟨⟩, m 2 ⟨⟩), (e 3 ⟨⟩, m 3 ⟨⟩), (e 4 ⟨⟩, m 4 ⟨⟩), (e 5 ⟨⟩, m 5 ⟨⟩), (e 6 ⟨⟩, m 6 ⟨⟩), (e 7 ⟨⟩, m 7 ⟨⟩), (e 8 ⟨⟩, m 8 ⟨⟩), (e 9 ⟨⟩, m 9 ⟨⟩), (e 10 ⟨⟩, m 10 ⟨⟩), (e 11 ⟨⟩, m 11 ⟨⟩), (e 12 ⟨⟩, m 12 ⟨⟩), (e 13 ⟨⟩, m 13 ⟨⟩), (e 14 ⟨⟩, m 14 ⟨⟩), (e 15 ⟨⟩, m 15 ⟨⟩)] (c ⟨⟩).toNat).1.1.2 := by rw [hF, hval]
              have e2 : (0 : Nat) = (fitR [(e 0 ⟨⟩, m 0 ⟨⟩), (e 1 ⟨⟩, m 1 ⟨⟩), (e 2 ⟨⟩, m 2 ⟨⟩), (e 3 ⟨⟩, m 3 ⟨⟩), (e 4 ⟨⟩, m 4 ⟨⟩), (e 5 ⟨⟩, m 5 ⟨⟩), (e 6 ⟨⟩, m 6 ⟨⟩), (e 7 ⟨⟩, m 7 ⟨⟩), (e 8 ⟨⟩, m 8 ⟨⟩), (e 9 ⟨⟩, m 9 ⟨⟩), (e 10 ⟨⟩, m 10 ⟨⟩), (e 11 ⟨⟩, m 11 ⟨⟩), (e 12 ⟨⟩, m 12 ⟨⟩), (e 13 ⟨⟩, m 13 ⟨⟩), (e 14 ⟨⟩, m 14 ⟨⟩), (e 15 ⟨⟩, m 15 ⟨⟩)] (c ⟨⟩).toNat).1.2.1 := by rw [hF, hval]
              have e3 : (0 : Nat) = (fitR [(e 0 ⟨⟩, m 0 ⟨⟩), (e 1 ⟨⟩, m 1 ⟨⟩), (e 2 ⟨⟩, m 2 ⟨⟩), (e 3 ⟨⟩, m 3 ⟨⟩), (e 4 ⟨⟩, m 4 ⟨⟩), (e 5 ⟨⟩, m 5 ⟨⟩), (e 6 ⟨⟩, m 6 ⟨⟩), (e 7 ⟨⟩, m 7 ⟨⟩), (e 8 ⟨⟩, m 8 ⟨⟩), (e 9 ⟨⟩, m 9 ⟨⟩), (e 10 ⟨⟩, m 10 ⟨⟩), (e 11 ⟨⟩, m 11 ⟨⟩), (e 12 ⟨⟩, m 12 ⟨⟩), (e 13 ⟨⟩, m 13 ⟨⟩), (e 14 ⟨⟩, m 14 ⟨⟩), (e 15 ⟨⟩, m 15 ⟨⟩)] (c ⟨⟩).toNat).1.2.2 := by rw [hF, hval]
              have e4 : (4 : Int) = (fitR [(e 0 ⟨⟩, m 0 ⟨⟩), (e 1 ⟨⟩, m 1 ⟨⟩), (e 2 ⟨⟩, m 2 ⟨⟩), (e 3 ⟨⟩, m 3 ⟨⟩), (e 4 ⟨⟩, m 4 ⟨⟩), (e 5 ⟨⟩, m 5 ⟨⟩), (e 6 ⟨⟩, m 6 ⟨⟩), (e 7 ⟨⟩, m 7 ⟨⟩), (e 8 ⟨⟩, m 8 ⟨⟩), (e 9 ⟨⟩, m 9 ⟨⟩), (e 10 ⟨⟩, m 10 ⟨⟩), (e 11 ⟨⟩, m 11 ⟨⟩), (e 12 ⟨⟩, m 12 ⟨⟩), (e 13 ⟨⟩, m 13 ⟨⟩), (e 14 ⟨⟩, m 14 ⟨⟩), (e 15 ⟨⟩, m 15 ⟨⟩)] (c ⟨⟩).toNat).2 := by rw [hF, hval]
              refine Br.t (nft hd) ?_
              cbv
              repeat' (refine Ob.mk ?_ ?_; (focus (first | exact e0 | exact e1 | exact e2 | exact e3 | exact e4 | exact rfl)); cbv)
            · refine Br.f (ntf hd) ?_
              cbv
              rcases bool_ft (finX (fMove L0 cn).2) with h3 | h3
              · have hval := fit_inf (fin_4 h3)
                have e0 : (0 : Nat) = (fitR [(e 0 ⟨⟩, m 0 ⟨⟩), (e 1 ⟨⟩, m 1 ⟨⟩), (e 2 ⟨⟩, m 2 ⟨⟩), (e 3 ⟨⟩, m 3 ⟨⟩), (e 4 ⟨⟩, m 4 ⟨⟩), (e 5 ⟨⟩, m 5 ⟨⟩), (e 6 ⟨⟩, m 6 ⟨⟩), (e 7 ⟨⟩, m 7 ⟨⟩), (e 8 ⟨⟩, m 8 ⟨⟩), (e 9 ⟨⟩, m 9 ⟨⟩), (e 10 ⟨⟩, m 10 ⟨⟩), (e 11 ⟨⟩, m 11 ⟨⟩), (e 12 ⟨⟩, m 12 ⟨⟩), (e 13 ⟨⟩, m 13 ⟨⟩), (e 14 ⟨⟩, m 14 ⟨⟩), (e 15 ⟨⟩, m 15 ⟨⟩)] (c ⟨⟩).toNat).1.1.1 := by rw [hF, hval]
                have e1 : (0 : Nat) = (fitR [(e 0 ⟨⟩, m 0 ⟨⟩), (e 1 ⟨⟩, m 1 ⟨⟩), (e 2 ⟨⟩, m 2 ⟨⟩), (e 3 ⟨⟩, m 3 ⟨⟩), (e 4 ⟨⟩, m 4 ⟨⟩), (e 5 ⟨⟩, m 5 ⟨⟩), (e 6 ⟨⟩, m 6 ⟨⟩), (e 7 ⟨⟩, m 7 ⟨⟩), (e 8 ⟨⟩, m 8 ⟨⟩), (e 9 ⟨⟩, m 9 ⟨⟩), (e 10 ⟨⟩, m 10 ⟨⟩), (e 11 ⟨⟩, m 11 ⟨⟩), (e 12 ⟨⟩, m 12 ⟨⟩), (e 13 ⟨⟩, m 13 ⟨⟩), (e 14 ⟨⟩, m 14 ⟨⟩), (e 15 ⟨⟩, m 15 ⟨⟩)] (c ⟨⟩).toNat).1.1.2 := by rw [hF, hval]
                have e2 : (0 : Nat) = (fitR [(e 0 ⟨⟩, m 0 ⟨⟩), (e 1 ⟨⟩, m 1 ⟨⟩), (e 2 ⟨⟩, m 2 ⟨⟩), (e 3 ⟨⟩, m 3 ⟨⟩), (e 4 ⟨⟩, m 4 ⟨⟩), (e 5 ⟨⟩, m 5 ⟨⟩), (e 6 ⟨⟩, m 6 ⟨⟩), (e 7 ⟨⟩, m 7 ⟨⟩), (e 8 ⟨⟩, m 8 ⟨⟩), (e 9 ⟨⟩, m 9 ⟨⟩), (e 10 ⟨⟩, m 10 ⟨⟩), (e 11 ⟨⟩, m 11 ⟨⟩), (e 12 ⟨⟩, m 12 ⟨⟩), (e 13 ⟨⟩, m 13 ⟨⟩), (e 14 ⟨⟩, m 14 ⟨⟩), (e 15 ⟨⟩, m 15 ⟨⟩)] (c ⟨⟩).toNat).1.2.1 := by rw [hF, hval]
                have e3 : (0 : Nat) = (fitR [(e 0 ⟨⟩, m 0 ⟨⟩), (e 1 ⟨⟩, m 1 ⟨⟩), (e 2 ⟨⟩, m 2 ⟨⟩), (e 3 ⟨⟩, m 3 ⟨⟩), (e 4 ⟨⟩, m 4 ⟨⟩), (e 5 ⟨⟩, m 5 ⟨⟩), (e 6 ⟨⟩, m 6 ⟨⟩), (e 7 ⟨⟩, m 7 ⟨⟩), (e 8 ⟨⟩, m 8 ⟨⟩), (e 9 ⟨⟩, m 9 ⟨⟩), (e 10 ⟨⟩, m 10 ⟨⟩), (e 11 ⟨⟩, m 11 ⟨⟩), (e 12 ⟨⟩, m 12 ⟨⟩), (e 13 ⟨⟩, m 13 ⟨⟩), (e 14 ⟨⟩, m 14 ⟨⟩), (e 15 ⟨⟩, m 15 ⟨⟩)] (c ⟨⟩).toNat).1.2.2 := by rw [hF, hval]
                have e4 : (4 : Int) = (fitR [(e 0 ⟨⟩, m 0 ⟨⟩), (e 1 ⟨⟩, m 1 ⟨⟩), (e 2 ⟨⟩, m 2 ⟨⟩), (e 3 ⟨⟩, m 3 ⟨⟩), (e 4 ⟨⟩, m 4 ⟨⟩), (e 5 ⟨⟩, m 5 ⟨⟩), (e 6 ⟨⟩, m 6 ⟨⟩), (e 7 ⟨⟩, m 7 ⟨⟩), (e 8 ⟨⟩, m 8 ⟨⟩), (e 9 ⟨⟩, m 9 ⟨⟩), (e 10 ⟨⟩, m 10 ⟨⟩), (e 11 ⟨⟩, m 11 ⟨⟩), (e 12 ⟨⟩, m 12 ⟨⟩), (e 13 ⟨⟩, m 13 ⟨⟩), (e 14 ⟨⟩, m 14 ⟨⟩), (e 15 ⟨⟩, m 15 ⟨⟩)] (c ⟨⟩).toNat).2 := by rw [hF, hval]
                refine Br.t (nft h3) ?_
                cbv
                repeat' (refine Ob.mk ?_ ?_; (focus (first | exact e0 | exact e1 | exact e2 | exact e3 | exact e4 | exact rfl)); cbv)
              · have hval := fit_ok hd h0 h1 h2 h3
                have e0 : (fTurn L0 cn).1 = (fitR [(e 0 ⟨⟩, m 0 ⟨⟩), (e 1 ⟨⟩, m 1 ⟨⟩), (e 2 ⟨⟩, m 2 ⟨⟩), (e 3 ⟨⟩, m 3 ⟨⟩), (e 4 ⟨⟩, m 4 ⟨⟩), (e 5 ⟨⟩, m 5 ⟨⟩), (e 6 ⟨⟩, m 6 ⟨⟩), (e 7 ⟨⟩, m 7 ⟨⟩), (e 8 ⟨⟩, m 8 ⟨⟩), (e 9 ⟨⟩, m 9 ⟨⟩), (e 10 ⟨⟩, m 10 ⟨⟩), (e 11 ⟨⟩, m 11 ⟨⟩), (e 12 ⟨⟩, m 12 ⟨⟩), (e 13 ⟨⟩, m 13 ⟨⟩), (e 14 ⟨⟩, m 14 ⟨⟩), (e 15 ⟨⟩, m 15 ⟨⟩)] (c ⟨⟩).toNat).1.1.1 := by rw [hF, hval]
                have e1 : (fTurn L0 cn).2 = (fitR [(e 0 ⟨⟩, m 0 ⟨⟩), (e 1 ⟨⟩, m 1 ⟨⟩), (e 2 ⟨⟩, m 2 ⟨⟩), (e 3 ⟨⟩, m 3 ⟨⟩), (e 4 ⟨⟩, m 4 ⟨⟩), (e 5 ⟨⟩, m 5 ⟨⟩), (e 6 ⟨⟩, m 6 ⟨⟩), (e 7 ⟨⟩, m 7 ⟨⟩), (e 8 ⟨⟩, m 8 ⟨⟩), (e 9 ⟨⟩, m 9 ⟨⟩), (e 10 ⟨⟩, m 10 ⟨⟩), (e 11 ⟨⟩, m 11 ⟨⟩), (e 12 ⟨⟩, m 12 ⟨⟩), (e 13 ⟨⟩, m 13 ⟨⟩), (e 14 ⟨⟩, m 14 ⟨⟩), (e 15 ⟨⟩, m 15 ⟨⟩)] (c ⟨⟩).toNat).1.1.2 := by rw [hF, hval]
                have e2 : (fMove L0 cn).1 = (fitR [(e 0 ⟨⟩, m 0 ⟨⟩), (e 1 ⟨⟩, m 1 ⟨⟩), (e 2 ⟨⟩, m 2 ⟨⟩), (e 3 ⟨⟩, m 3 ⟨⟩), (e 4 ⟨⟩, m 4 ⟨⟩), (e 5 ⟨⟩, m 5 ⟨⟩), (e 6 ⟨⟩, m 6 ⟨⟩), (e 7 ⟨⟩, m 7 ⟨⟩), (e 8 ⟨⟩, m 8 ⟨⟩), (e 9 ⟨⟩, m 9 ⟨⟩), (e 10 ⟨⟩, m 10 ⟨⟩), (e 11 ⟨⟩, m 11 ⟨⟩), (e 12 ⟨⟩, m 12 ⟨⟩), (e 13 ⟨⟩, m 13 ⟨⟩), (e 14 ⟨⟩, m 14 ⟨⟩), (e 15 ⟨⟩, m 15 ⟨⟩)] (c ⟨⟩).toNat).1.2.1 := by rw [hF, hval]
                have e3 : (fMove L0 cn).2 = (fitR [(e 0 ⟨⟩, m 0 ⟨⟩), (e 1 ⟨⟩, m 1 ⟨⟩), (e 2 ⟨⟩, m 2 ⟨⟩), (e 3 ⟨⟩, m 3 ⟨⟩), (e 4 ⟨⟩, m 4 ⟨⟩), (e 5 ⟨⟩, m 5 ⟨⟩), (e 6 ⟨⟩, m 6 ⟨⟩), (e 7 ⟨⟩, m 7 ⟨⟩), (e 8 ⟨⟩, m 8 ⟨⟩), (e 9 ⟨⟩, m 9 ⟨⟩), (e 10 ⟨⟩, m 10 ⟨⟩), (e 11 ⟨⟩, m 11 ⟨⟩), (e 12 ⟨⟩, m 12 ⟨⟩), (e 13 ⟨⟩, m 13 ⟨⟩), (e 14 ⟨⟩, m 14 ⟨⟩), (e 15 ⟨⟩, m 15 ⟨⟩)] (c ⟨⟩).toNat).1.2.2 := by rw [hF, hval]
                have e4 : (0 : Int) = (fitR [(e 0 ⟨⟩, m 0 ⟨⟩), (e 1 ⟨⟩, m 1 ⟨⟩), (e 2 ⟨⟩, m 2 ⟨⟩), (e 3 ⟨⟩, m 3 ⟨⟩), (e 4 ⟨⟩, m 4 ⟨⟩), (e 5 ⟨⟩, m 5 ⟨⟩), (e 6 ⟨⟩, m 6 ⟨⟩), (e 7 ⟨⟩, m 7 ⟨⟩), (e 8 ⟨⟩, m 8 ⟨⟩), (e 9 ⟨⟩, m 9 ⟨⟩), (e 10 ⟨⟩, m 10 ⟨⟩), (e 11 ⟨⟩, m 11 ⟨⟩), (e 12 ⟨⟩, m 12 ⟨⟩), (e 13 ⟨⟩, m 13 ⟨⟩), (e 14 ⟨⟩, m 14 ⟨⟩), (e 15 ⟨⟩, m 15 ⟨⟩)] (c ⟨⟩).toNat).2 := by rw [hF, hval]
                refine Br.f (ntf h3) ?_
                cbv
                repeat' (refine Ob.mk ?_ ?_; (focus (first | exact e0 | exact e1 | exact e2 | exact e3 | exact e4 | exact rfl)); cbv)
    · cases hs
  · cases hs
end
end Go.Proofs.Ytanndlifpojenaa.Sh
