/- What the adjustments that are fitted of this seat compute, each shown once. No condition. -/
import Derived.Test.YtanndlifpojenaaVj
set_option linter.unusedVariables false
set_option linter.unusedSimpArgs false
set_option linter.unusedSectionVars false
namespace Go.Proofs.Ytanndlifpojenaa.Sh
open Go Go.Proofs
section
theorem bool_ft (b : Bool) : b = false ∨ b = true := by cases b <;> simp
theorem nft {b : Bool} (h : b = false) : (!b) = true := by rw [h]; rfl
def fzP (l : List M) (c : Nat) : M := meanM (at2 l (0 + c * 4)) (at2 l (0 + c * 4 + 1)) (at2 l (0 + c * 4 + 2)) (at2 l (0 + c * 4 + 3))
def fz (l : List M) (c k : Nat) : M := minusM (at2 l (0 + c * 4 + k)) (fzP l c)
def fw (l : List M) (k : Nat) : M := minusM (at2 l k) (fzP l 0)
def fone (l : List M) (c k : Nat) : M := timesM (fw l k) ((fz l c k).1, fneg .f32 (fz l c k).2)
def fN (l : List M) (c : Nat) : Nat → M
  | 0 => fone l c 0
  | k + 1 => plusM (fN l c k) (fone l c (k + 1))
def fD (l : List M) (c : Nat) : Nat → Nat
  | 0 => sqM (fz l c 0)
  | k + 1 => fop .add .f32 (fD l c k) (sqM (fz l c (k + 1)))
def fTurn (l : List M) (c : Nat) : M := overM (fN l c 3) (fD l c 3)
def fMove (l : List M) (c : Nat) : M := minusM (fzP l 0) (timesM (fTurn l c) (fzP l c))
def fFin (l : List M) (c : Nat) : Bool := finX (fTurn l c).1 && finX (fTurn l c).2 && finX (fMove l c).1 && finX (fMove l c).2
def fitR (l : List M) (c : Nat) : (M × M) × Int := if fcmp .gtr .f32 (fD l c 3) 0 = true ∧ fFin l c = true then ((fTurn l c, fMove l c), 0) else (((0, 0), (0, 0)), 4)
theorem fit_ok {l : List M} {c : Nat} (h : fcmp .gtr .f32 (fD l c 3) 0 = true) (h1 : finX (fTurn l c).1 = true) (h2 : finX (fTurn l c).2 = true) (h3 : finX (fMove l c).1 = true) (h4 : finX (fMove l c).2 = true) : fitR l c = ((fTurn l c, fMove l c), 0) := by
  unfold fitR fFin; rw [if_pos ⟨h, by rw [h1, h2, h3, h4]; rfl⟩]
theorem fit_no {l : List M} {c : Nat} (h : fcmp .gtr .f32 (fD l c 3) 0 = false) : fitR l c = (((0, 0), (0, 0)), 4) := by
  unfold fitR; rw [if_neg (by rw [h]; simp)]
theorem fit_inf {l : List M} {c : Nat} (h : fFin l c = false) : fitR l c = (((0, 0), (0, 0)), 4) := by
  unfold fitR; rw [if_neg (by rw [h]; simp)]
theorem fin_1 {l : List M} {c : Nat} (h : finX (fTurn l c).1 = false) : fFin l c = false := by unfold fFin; rw [h]; rfl
theorem fin_2 {l : List M} {c : Nat} (h : finX (fTurn l c).2 = false) : fFin l c = false := by unfold fFin; rw [h, Bool.and_false]; rfl
theorem fin_3 {l : List M} {c : Nat} (h : finX (fMove l c).1 = false) : fFin l c = false := by unfold fFin; rw [h, Bool.and_false]; rfl
theorem fin_4 {l : List M} {c : Nat} (h : finX (fMove l c).2 = false) : fFin l c = false := by unfold fFin; rw [h, Bool.and_false]
theorem fn18 : FnOk Try.prog 18 Try.f18 (bodyOf Try.f18) := ⟨Try.func18, rfl, by rfl⟩
def s18 : Spec := hspec fun args H => match args, H with
  | [.a cs, .c (.i .i64 (.x c))], [] => match cxsOf cs with
    | some q => some (.t [.a [.z .f32 (fun _ => (fitR (forced q) (c ()).toNat).1.1.1) (fun _ => (fitR (forced q) (c ()).toNat).1.1.2), .z .f32 (fun _ => (fitR (forced q) (c ()).toNat).1.2.1) (fun _ => (fitR (forced q) (c ()).toNat).1.2.2)], vI (fitR (forced q) (c ()).toNat).2], [], [fun _ => q.length = 16 ∧ okS (forced q) = true ∧ 0 ≤ c () ∧ c () ≤ 3])
    | none => none
  | _, _ => none
def E18 : Env := fun g => envGetL [(40, ⟨true, s40, none⟩), (44, ⟨true, s44, none⟩), (46, ⟨true, s46, none⟩), (47, ⟨true, s47, none⟩), (64, ⟨true, s64, none⟩), (65, ⟨true, s65, none⟩), (66, ⟨true, s66, none⟩), (67, ⟨true, s67, none⟩), (68, ⟨true, s68, none⟩), (69, ⟨true, s69, none⟩), (70, ⟨true, s70, none⟩)] g
theorem E18ok : EnvOk Try.prog E18 := envOk_cons ok40 (envOk_cons ok44 (envOk_cons ok46 (envOk_cons ok47 (envOk_cons ok64 (envOk_cons ok65 (envOk_cons ok66 (envOk_cons ok67 (envOk_cons ok68 (envOk_cons ok69 (envOk_cons ok70 (envOk_nil _)))))))))))
set_option maxRecDepth 100000 in
set_option maxHeartbeats 4000000 in
theorem ok18 : Ok Try.prog 18 (s18) := ok_of_wpSH (E := E18) tts fn18 fun args H v H' o hs ho => by
  split at hs
  · rename_i cs c
    split at hs
    · rename_i q hq
      cases hs
      obtain ⟨hlen, hok, hc⟩ := ho.one
      obtain ⟨e, m, rfl, rfl⟩ := cx16 hq hlen
      clear hq hlen
      have hok : okS [(e 0 ⟨⟩, m 0 ⟨⟩), (e 1 ⟨⟩, m 1 ⟨⟩), (e 2 ⟨⟩, m 2 ⟨⟩), (e 3 ⟨⟩, m 3 ⟨⟩), (e 4 ⟨⟩, m 4 ⟨⟩), (e 5 ⟨⟩, m 5 ⟨⟩), (e 6 ⟨⟩, m 6 ⟨⟩), (e 7 ⟨⟩, m 7 ⟨⟩), (e 8 ⟨⟩, m 8 ⟨⟩), (e 9 ⟨⟩, m 9 ⟨⟩), (e 10 ⟨⟩, m 10 ⟨⟩), (e 11 ⟨⟩, m 11 ⟨⟩), (e 12 ⟨⟩, m 12 ⟨⟩), (e 13 ⟨⟩, m 13 ⟨⟩), (e 14 ⟨⟩, m 14 ⟨⟩), (e 15 ⟨⟩, m 15 ⟨⟩)] = true := hok
      have hc : 0 ≤ c ⟨⟩ ∧ c ⟨⟩ ≤ 3 := hc
      have hc4 : 0 ≤ c ⟨⟩ ∧ c ⟨⟩ < ((4 : Nat) : Int) := by omega
      have hcode : ((if okS [(e 0 ⟨⟩, m 0 ⟨⟩), (e 1 ⟨⟩, m 1 ⟨⟩), (e 2 ⟨⟩, m 2 ⟨⟩), (e 3 ⟨⟩, m 3 ⟨⟩), (e 4 ⟨⟩, m 4 ⟨⟩), (e 5 ⟨⟩, m 5 ⟨⟩), (e 6 ⟨⟩, m 6 ⟨⟩), (e 7 ⟨⟩, m 7 ⟨⟩), (e 8 ⟨⟩, m 8 ⟨⟩), (e 9 ⟨⟩, m 9 ⟨⟩), (e 10 ⟨⟩, m 10 ⟨⟩), (e 11 ⟨⟩, m 11 ⟨⟩), (e 12 ⟨⟩, m 12 ⟨⟩), (e 13 ⟨⟩, m 13 ⟨⟩), (e 14 ⟨⟩, m 14 ⟨⟩), (e 15 ⟨⟩, m 15 ⟨⟩)] = true then (0 : Int) else 1) != 0) = false := by rw [if_pos hok]; rfl
      obtain ⟨cn, hcn⟩ : ∃ cn : Nat, cn = (c ⟨⟩).toNat := ⟨_, rfl⟩
      obtain ⟨L0, hL0⟩ : ∃ L0 : List M, L0 = [(e 0 ⟨⟩, m 0 ⟨⟩), (e 1 ⟨⟩, m 1 ⟨⟩), (e 2 ⟨⟩, m 2 ⟨⟩), (e 3 ⟨⟩, m 3 ⟨⟩), (e 4 ⟨⟩, m 4 ⟨⟩), (e 5 ⟨⟩, m 5 ⟨⟩), (e 6 ⟨⟩, m 6 ⟨⟩), (e 7 ⟨⟩, m 7 ⟨⟩), (e 8 ⟨⟩, m 8 ⟨⟩), (e 9 ⟨⟩, m 9 ⟨⟩), (e 10 ⟨⟩, m 10 ⟨⟩), (e 11 ⟨⟩, m 11 ⟨⟩), (e 12 ⟨⟩, m 12 ⟨⟩), (e 13 ⟨⟩, m 13 ⟨⟩), (e 14 ⟨⟩, m 14 ⟨⟩), (e 15 ⟨⟩, m 15 ⟨⟩)] := ⟨_, rfl⟩
      clear ho
      refine ⟨_, HLe.refl _, wpS_cut (c := ⟨tt, E18, 0⟩) mixed tts E18ok 2 (fun _ => fr 110 [(4, .c (.p 1 (.l 0))), (7, .c (.p 3 (.l 0))), (8, .c (.p 4 (.l 0)))]) (fun _ => [none, some ⟨true, 0, .lit [.z .f32 (fun _ => 0) (fun _ => 0), .z .f32 (fun _ => 0) (fun _ => 0)]⟩, none, some ⟨true, 0, .cx fun _ => [at2 L0 (0 + cn * 4), at2 L0 (0 + cn * 4 + 1), at2 L0 (0 + cn * 4 + 2), at2 L0 (0 + cn * 4 + 3)]⟩, some ⟨true, 0, .cx fun _ => [at2 L0 0, at2 L0 1, at2 L0 2, at2 L0 3]⟩]) (fun _ => True) (by rfl) ?_ (fun _ => ?_)⟩
      · cbv
        repeat' (refine Ob.mk ?_ ?_; (focus (first | exact rfl | exact ⟨rfl, rfl, rfl, hc.1, hc.2⟩)); cbv)
        refine Br.f hcode ?_
        cbv
        repeat' first
          | (refine Ob.mk ?_ ?_; (focus (first | exact hc4 | exact rfl | (dsimp only [IE.val, NE.val, IE.nat, forced, List.length_cons, List.length_nil]; omega) | (rw [hL0, hcn]; rfl) | (rw [hL0]; rfl))); cbv)
          | (refine Lex.pull [0, 1, 2, 3, 4] (by decide +kernel) ?_; cbv)
          | (refine Both.mk ?_ ?_ <;> cbv)
          | (refine CutG.mk trivial ?_; cbv; refine Ob.mk ?_ ?_; (focus (first | exact rfl | (rw [hL0, hcn]; rfl) | (rw [hL0]; rfl))); cbv)
          | (refine CutG.ren [0, 1, 2, 4, 3] trivial ?_; cbv)
      · skip
        have hF : (fitR [(e 0 ⟨⟩, m 0 ⟨⟩), (e 1 ⟨⟩, m 1 ⟨⟩), (e 2 ⟨⟩, m 2 ⟨⟩), (e 3 ⟨⟩, m 3 ⟨⟩), (e 4 ⟨⟩, m 4 ⟨⟩), (e 5 ⟨⟩, m 5 ⟨⟩), (e 6 ⟨⟩, m 6 ⟨⟩), (e 7 ⟨⟩, m 7 ⟨⟩), (e 8 ⟨⟩, m 8 ⟨⟩), (e 9 ⟨⟩, m 9 ⟨⟩), (e 10 ⟨⟩, m 10 ⟨⟩), (e 11 ⟨⟩, m 11 ⟨⟩), (e 12 ⟨⟩, m 12 ⟨⟩), (e 13 ⟨⟩, m 13 ⟨⟩), (e 14 ⟨⟩, m 14 ⟨⟩), (e 15 ⟨⟩, m 15 ⟨⟩)] (c ⟨⟩).toNat) = fitR L0 cn := by rw [hL0, hcn]
        refine wpS_of (c := ⟨tt, E18, 0⟩) mixed tts E18ok ?_
        cbv
        refine Lex.mk (by decide +kernel) ?_
        cbv
        repeat' (refine Ob.mk ?_ ?_; (focus (first | exact rfl | exact ⟨rfl, by decide⟩ | (dsimp only [IE.val, NE.val, IE.nat, forced, List.length_cons, List.length_nil]; omega) | decide)); cbv)
        refine Loop.mk 70 ?_
        cbv
        refine Gen.mk (fr 110 [(4, .c (.p 1 (.l 0))), (7, .c (.p 3 (.l 0))), (8, .c (.p 4 (.l 0))), (9, Zm (fzP L0 cn)), (10, Zm (fzP L0 0)), (11, Zm (0, 0)), (12, F 0), (34, .c (.i .i64 (.l 0)))]) [none, some ⟨true, 0, .lit [.z .f32 (fun _ => 0) (fun _ => 0), .z .f32 (fun _ => 0) (fun _ => 0)]⟩, none, some ⟨true, 0, .cx fun _ => [at2 L0 (0 + cn * 4), at2 L0 (0 + cn * 4 + 1), at2 L0 (0 + cn * 4 + 2), at2 L0 (0 + cn * 4 + 3)]⟩, some ⟨true, 0, .cx fun _ => [at2 L0 0, at2 L0 1, at2 L0 2, at2 L0 3]⟩] ?_
        cbv
        repeat' (refine Ob.mk ?_ ?_; (focus (first | exact rfl | exact ⟨rfl, by decide⟩ | (dsimp only [IE.val, NE.val, IE.nat, forced, List.length_cons, List.length_nil]; omega) | decide)); cbv)
        repeat' (refine Ob.mk ?_ ?_; (focus (first | exact rfl | exact ⟨rfl, by decide⟩ | (dsimp only [IE.val, NE.val, IE.nat, forced, List.length_cons, List.length_nil]; omega) | decide)); cbv)
        refine Gen.mk (fr 110 [(4, .c (.p 1 (.l 0))), (7, .c (.p 3 (.l 0))), (8, .c (.p 4 (.l 0))), (9, Zm (fzP L0 cn)), (10, Zm (fzP L0 0)), (11, Zm (fN L0 cn 0)), (12, F (fD L0 cn 0)), (34, .c (.i .i64 (.l 1)))]) [none, some ⟨true, 0, .lit [.z .f32 (fun _ => 0) (fun _ => 0), .z .f32 (fun _ => 0) (fun _ => 0)]⟩, none, some ⟨true, 0, .cx fun _ => [at2 L0 (0 + cn * 4), at2 L0 (0 + cn * 4 + 1), at2 L0 (0 + cn * 4 + 2), at2 L0 (0 + cn * 4 + 3)]⟩, some ⟨true, 0, .cx fun _ => [at2 L0 0, at2 L0 1, at2 L0 2, at2 L0 3]⟩] ?_
        cbv
        repeat' (refine Ob.mk ?_ ?_; (focus (first | exact rfl | exact ⟨rfl, by decide⟩ | (dsimp only [IE.val, NE.val, IE.nat, forced, List.length_cons, List.length_nil]; omega) | decide)); cbv)
        repeat' (refine Ob.mk ?_ ?_; (focus (first | exact rfl | exact ⟨rfl, by decide⟩ | (dsimp only [IE.val, NE.val, IE.nat, forced, List.length_cons, List.length_nil]; omega) | decide)); cbv)
        refine Gen.mk (fr 110 [(4, .c (.p 1 (.l 0))), (7, .c (.p 3 (.l 0))), (8, .c (.p 4 (.l 0))), (9, Zm (fzP L0 cn)), (10, Zm (fzP L0 0)), (11, Zm (fN L0 cn 1)), (12, F (fD L0 cn 1)), (34, .c (.i .i64 (.l 2)))]) [none, some ⟨true, 0, .lit [.z .f32 (fun _ => 0) (fun _ => 0), .z .f32 (fun _ => 0) (fun _ => 0)]⟩, none, some ⟨true, 0, .cx fun _ => [at2 L0 (0 + cn * 4), at2 L0 (0 + cn * 4 + 1), at2 L0 (0 + cn * 4 + 2), at2 L0 (0 + cn * 4 + 3)]⟩, some ⟨true, 0, .cx fun _ => [at2 L0 0, at2 L0 1, at2 L0 2, at2 L0 3]⟩] ?_
        cbv
        repeat' (refine Ob.mk ?_ ?_; (focus (first | exact rfl | exact ⟨rfl, by decide⟩ | (dsimp only [IE.val, NE.val, IE.nat, forced, List.length_cons, List.length_nil]; omega) | decide)); cbv)
        repeat' (refine Ob.mk ?_ ?_; (focus (first | exact rfl | exact ⟨rfl, by decide⟩ | (dsimp only [IE.val, NE.val, IE.nat, forced, List.length_cons, List.length_nil]; omega) | decide)); cbv)
        refine Gen.mk (fr 110 [(4, .c (.p 1 (.l 0))), (7, .c (.p 3 (.l 0))), (8, .c (.p 4 (.l 0))), (9, Zm (fzP L0 cn)), (10, Zm (fzP L0 0)), (11, Zm (fN L0 cn 2)), (12, F (fD L0 cn 2)), (34, .c (.i .i64 (.l 3)))]) [none, some ⟨true, 0, .lit [.z .f32 (fun _ => 0) (fun _ => 0), .z .f32 (fun _ => 0) (fun _ => 0)]⟩, none, some ⟨true, 0, .cx fun _ => [at2 L0 (0 + cn * 4), at2 L0 (0 + cn * 4 + 1), at2 L0 (0 + cn * 4 + 2), at2 L0 (0 + cn * 4 + 3)]⟩, some ⟨true, 0, .cx fun _ => [at2 L0 0, at2 L0 1, at2 L0 2, at2 L0 3]⟩] ?_
        cbv
        repeat' (refine Ob.mk ?_ ?_; (focus (first | exact rfl | exact ⟨rfl, by decide⟩ | (dsimp only [IE.val, NE.val, IE.nat, forced, List.length_cons, List.length_nil]; omega) | decide)); cbv)
        repeat' (refine Ob.mk ?_ ?_; (focus (first | exact rfl | exact ⟨rfl, by decide⟩ | (dsimp only [IE.val, NE.val, IE.nat, forced, List.length_cons, List.length_nil]; omega) | decide)); cbv)
        refine Gen.mk (fr 110 [(4, .c (.p 1 (.l 0))), (7, .c (.p 3 (.l 0))), (8, .c (.p 4 (.l 0))), (9, Zm (fzP L0 cn)), (10, Zm (fzP L0 0)), (11, Zm (fN L0 cn 3)), (12, F (fD L0 cn 3)), (34, .c (.i .i64 (.l 4)))]) [none, some ⟨true, 0, .lit [.z .f32 (fun _ => 0) (fun _ => 0), .z .f32 (fun _ => 0) (fun _ => 0)]⟩, none, some ⟨true, 0, .cx fun _ => [at2 L0 (0 + cn * 4), at2 L0 (0 + cn * 4 + 1), at2 L0 (0 + cn * 4 + 2), at2 L0 (0 + cn * 4 + 3)]⟩, some ⟨true, 0, .cx fun _ => [at2 L0 0, at2 L0 1, at2 L0 2, at2 L0 3]⟩] ?_
        cbv
        repeat' (refine Ob.mk ?_ ?_; (focus (first | exact rfl | exact ⟨rfl, by decide⟩ | (dsimp only [IE.val, NE.val, IE.nat, forced, List.length_cons, List.length_nil]; omega) | decide)); cbv)
        repeat' (refine Ob.mk ?_ ?_; (focus (first | exact rfl | exact ⟨rfl, by decide⟩ | (dsimp only [IE.val, NE.val, IE.nat, forced, List.length_cons, List.length_nil]; omega) | decide)); cbv)
        rcases bool_ft (fcmp .gtr .f32 (fD L0 cn 3) 0) with hd | hd
        · have hval := fit_no hd
          have e0 : (0 : Nat) = (fitR [(e 0 ⟨⟩, m 0 ⟨⟩), (e 1 ⟨⟩, m 1 ⟨⟩), (e 2 ⟨⟩, m 2 ⟨⟩), (e 3 ⟨⟩, m 3 ⟨⟩), (e 4 ⟨⟩, m 4 ⟨⟩), (e 5 ⟨⟩, m 5 ⟨⟩), (e 6 ⟨⟩, m 6 ⟨⟩), (e 7 ⟨⟩, m 7 ⟨⟩), (e 8 ⟨⟩, m 8 ⟨⟩), (e 9 ⟨⟩, m 9 ⟨⟩), (e 10 ⟨⟩, m 10 ⟨⟩), (e 11 ⟨⟩, m 11 ⟨⟩), (e 12 ⟨⟩, m 12 ⟨⟩), (e 13 ⟨⟩, m 13 ⟨⟩), (e 14 ⟨⟩, m 14 ⟨⟩), (e 15 ⟨⟩, m 15 ⟨⟩)] (c ⟨⟩).toNat).1.1.1 := by rw [hF, hval]
          have e1 : (0 : Nat) = (fitR [(e 0 ⟨⟩, m 0 ⟨⟩), (e 1 ⟨⟩, m 1 ⟨⟩), (e 2 ⟨⟩, m 2 ⟨⟩), (e 3 ⟨⟩, m 3 ⟨⟩), (e 4 ⟨⟩, m 4 ⟨⟩), (e 5 ⟨⟩, m 5 ⟨⟩), (e 6 ⟨⟩, m 6 ⟨⟩), (e 7 ⟨⟩, m 7 ⟨⟩), (e 8 ⟨⟩, m 8 ⟨⟩), (e 9 ⟨⟩, m 9 ⟨⟩), (e 10 ⟨⟩, m 10 ⟨⟩), (e 11 ⟨⟩, m 11 ⟨⟩), (e 12 ⟨⟩, m 12 ⟨⟩), (e 13 ⟨⟩, m 13 ⟨⟩), (e 14 ⟨⟩, m 14 ⟨⟩), (e 15 ⟨⟩, m 15 ⟨⟩)] (c ⟨⟩).toNat).1.1.2 := by rw [hF, hval]
          have e2 : (0 : Nat) = (fitR [(e 0 ⟨⟩, m 0 ⟨⟩), (e 1 ⟨⟩, m 1 ⟨⟩), (e 2 ⟨⟩, m 2 ⟨⟩), (e 3 ⟨⟩, m 3 ⟨⟩), (e 4 ⟨⟩, m 4 ⟨⟩), (e 5 ⟨⟩, m 5 ⟨⟩), (e 6 ⟨⟩, m 6 ⟨⟩), (e 7 ⟨⟩, m 7 ⟨⟩), (e 8 ⟨⟩, m 8 ⟨⟩), (e 9 ⟨⟩, m 9 ⟨⟩), (e 10 ⟨⟩, m 10 ⟨⟩), (e 11 ⟨⟩, m 11 ⟨⟩), (e 12 ⟨⟩, m 12 ⟨⟩), (e 13 ⟨⟩, m 13 ⟨⟩), (e 14 ⟨⟩, m 14 ⟨⟩), (e 15 ⟨⟩, m 15 ⟨⟩)] (c ⟨⟩).toNat).1.2.1 := by rw [hF, hval]
          have e3 : (0 : Nat) = (fitR [(e 0 ⟨⟩, m 0 ⟨⟩), (e 1 ⟨⟩, m 1 ⟨⟩), (e 2 ⟨⟩, m 2 ⟨⟩), (e 3 ⟨⟩, m 3 ⟨⟩), (e 4 ⟨⟩, m 4 ⟨⟩), (e 5 ⟨⟩, m 5 ⟨⟩), (e 6 ⟨⟩, m 6 ⟨⟩), (e 7 ⟨⟩, m 7 ⟨⟩), (e 8 ⟨⟩, m 8 ⟨⟩), (e 9 ⟨⟩, m 9 ⟨⟩), (e 10 ⟨⟩, m 10 ⟨⟩), (e 11 ⟨⟩, m 11 ⟨⟩), (e 12 ⟨⟩, m 12 ⟨⟩), (e 13 ⟨⟩, m 13 ⟨⟩), (e 14 ⟨⟩, m 14 ⟨⟩), (e 15 ⟨⟩, m 15 ⟨⟩)] (c ⟨⟩).toNat).1.2.2 := by rw [hF, hval]
          have e4 : (4 : Int) = (fitR [(e 0 ⟨⟩, m 0 ⟨⟩), (e 1 ⟨⟩, m 1 ⟨⟩), (e 2 ⟨⟩, m 2 ⟨⟩), (e 3 ⟨⟩, m 3 ⟨⟩), (e 4 ⟨⟩, m 4 ⟨⟩), (e 5 ⟨⟩, m 5 ⟨⟩), (e 6 ⟨⟩, m 6 ⟨⟩), (e 7 ⟨⟩, m 7 ⟨⟩), (e 8 ⟨⟩, m 8 ⟨⟩), (e 9 ⟨⟩, m 9 ⟨⟩), (e 10 ⟨⟩, m 10 ⟨⟩), (e 11 ⟨⟩, m 11 ⟨⟩), (e 12 ⟨⟩, m 12 ⟨⟩), (e 13 ⟨⟩, m 13 ⟨⟩), (e 14 ⟨⟩, m 14 ⟨⟩), (e 15 ⟨⟩, m 15 ⟨⟩)] (c ⟨⟩).toNat).2 := by rw [hF, hval]
          refine Br.t (nft hd) ?_
          cbv
          repeat' (refine Ob.mk ?_ ?_; (focus (first | exact e0 | exact e1 | exact e2 | exact e3 | exact e4 | exact rfl)); cbv)
        · refine Br.f (ntf hd) ?_
          cbv
          repeat' (refine Ob.mk ?_ ?_; (focus (first | exact rfl | exact ⟨rfl, by decide⟩ | (dsimp only [IE.val, NE.val, IE.nat, forced, List.length_cons, List.length_nil]; omega) | decide)); cbv)
          rcases bool_ft (finX (fTurn L0 cn).1) with h0 | h0
          · have hval := fit_inf (fin_1 h0)
            have e0 : (0 : Nat) = (fitR [(e 0 ⟨⟩, m 0 ⟨⟩), (e 1 ⟨⟩, m 1 ⟨⟩), (e 2 ⟨⟩, m 2 ⟨⟩), (e 3 ⟨⟩, m 3 ⟨⟩), (e 4 ⟨⟩, m 4 ⟨⟩), (e 5 ⟨⟩, m 5 ⟨⟩), (e 6 ⟨⟩, m 6 ⟨⟩), (e 7 ⟨⟩, m 7 ⟨⟩), (e 8 ⟨⟩, m 8 ⟨⟩), (e 9 ⟨⟩, m 9 ⟨⟩), (e 10 ⟨⟩, m 10 ⟨⟩), (e 11 ⟨⟩, m 11 ⟨⟩), (e 12 ⟨⟩, m 12 ⟨⟩), (e 13 ⟨⟩, m 13 ⟨⟩), (e 14 ⟨⟩, m 14 ⟨⟩), (e 15 ⟨⟩, m 15 ⟨⟩)] (c ⟨⟩).toNat).1.1.1 := by rw [hF, hval]
            have e1 : (0 : Nat) = (fitR [(e 0 ⟨⟩, m 0 ⟨⟩), (e 1 ⟨⟩, m 1 ⟨⟩), (e 2 ⟨⟩, m 2 ⟨⟩), (e 3 ⟨⟩, m 3 ⟨⟩), (e 4 ⟨⟩, m 4 ⟨⟩), (e 5 ⟨⟩, m 5 ⟨⟩), (e 6 ⟨⟩, m 6 ⟨⟩), (e 7 ⟨⟩, m 7 ⟨⟩), (e 8 ⟨⟩, m 8 ⟨⟩), (e 9 ⟨⟩, m 9 ⟨⟩), (e 10 ⟨⟩, m 10 ⟨⟩), (e 11 ⟨⟩, m 11 ⟨⟩), (e 12 ⟨⟩, m 12 ⟨⟩), (e 13 ⟨⟩, m 13 ⟨⟩), (e 14 ⟨⟩, m 14 ⟨⟩), (e 15 ⟨⟩, m 15 ⟨⟩)] (c ⟨⟩).toNat).1.1.2 := by rw [hF, hval]
            have e2 : (0 : Nat) = (fitR [(e 0 ⟨⟩, m 0 ⟨⟩), (e 1 ⟨⟩, m 1 ⟨⟩), (e 2 ⟨⟩, m 2 ⟨⟩), (e 3 ⟨⟩, m 3 ⟨⟩), (e 4 ⟨⟩, m 4 ⟨⟩), (e 5 ⟨⟩, m 5 ⟨⟩), (e 6 ⟨⟩, m 6 ⟨⟩), (e 7 ⟨⟩, m 7 ⟨⟩), (e 8 ⟨⟩, m 8 ⟨⟩), (e 9 ⟨⟩, m 9 ⟨⟩), (e 10 ⟨⟩, m 10 ⟨⟩), (e 11 ⟨⟩, m 11 ⟨⟩), (e 12 ⟨⟩, m 12 ⟨⟩), (e 13 ⟨⟩, m 13 ⟨⟩), (e 14 ⟨⟩, m 14 ⟨⟩), (e 15 ⟨⟩, m 15 ⟨⟩)] (c ⟨⟩).toNat).1.2.1 := by rw [hF, hval]
            have e3 : (0 : Nat) = (fitR [(e 0 ⟨⟩, m 0 ⟨⟩), (e 1 ⟨⟩, m 1 ⟨⟩), (e 2 ⟨⟩, m 2 ⟨⟩), (e 3 ⟨⟩, m 3 ⟨⟩), (e 4 ⟨⟩, m 4 ⟨⟩), (e 5 ⟨⟩, m 5 ⟨⟩), (e 6 ⟨⟩, m 6 ⟨⟩), (e 7 ⟨⟩, m 7 ⟨⟩), (e 8 ⟨⟩, m 8 ⟨⟩), (e 9 ⟨⟩, m 9 ⟨⟩), (e 10 ⟨⟩, m 10 ⟨⟩), (e 11 ⟨⟩, m 11 ⟨⟩), (e 12 ⟨⟩, m 12 ⟨⟩), (e 13 ⟨⟩, m 13 ⟨⟩), (e 14 ⟨⟩, m 14 ⟨⟩), (e 15 ⟨⟩, m 15 ⟨⟩)] (c ⟨⟩).toNat).1.2.2 := by rw [hF, hval]
            have e4 : (4 : Int) = (fitR [(e 0 ⟨⟩, m 0 ⟨⟩), (e 1 ⟨⟩, m 1 ⟨⟩), (e 2 ⟨⟩, m 2 ⟨⟩), (e 3 ⟨⟩, m 3 ⟨⟩), (e 4 ⟨⟩, m 4 ⟨⟩), (e 5 ⟨⟩, m 5 ⟨⟩), (e 6 ⟨⟩, m 6 ⟨⟩), (e 7 ⟨⟩, m 7 ⟨⟩), (e 8 ⟨⟩, m 8 ⟨⟩), (e 9 ⟨⟩, m 9 ⟨⟩), (e 10 ⟨⟩, m 10 ⟨⟩), (e 11 ⟨⟩, m 11 ⟨⟩), (e 12 ⟨⟩, m 12 ⟨⟩), (e 13 ⟨⟩, m 13 ⟨⟩), (e 14 ⟨⟩, m 14 ⟨⟩), (e 15 ⟨⟩, m 15 ⟨⟩)] (c ⟨⟩).toNat).2 := by rw [hF, hval]
            refine Br.t (nft h0) ?_
            cbv
            repeat' (refine Ob.mk ?_ ?_; (focus (first | exact e0 | exact e1 | exact e2 | exact e3 | exact e4 | exact rfl)); cbv)
          · refine Br.f (ntf h0) ?_
            cbv
            repeat' (refine Ob.mk ?_ ?_; (focus (first | exact rfl | exact ⟨rfl, by decide⟩ | (dsimp only [IE.val, NE.val, IE.nat, forced, List.length_cons, List.length_nil]; omega) | decide)); cbv)
            rcases bool_ft (finX (fTurn L0 cn).2) with h1 | h1
            · have hval := fit_inf (fin_2 h1)
              have e0 : (0 : Nat) = (fitR [(e 0 ⟨⟩, m 0 ⟨⟩), (e 1 ⟨⟩, m 1 ⟨⟩), (e 2 ⟨⟩, m 2 ⟨⟩), (e 3 ⟨⟩, m 3 ⟨⟩), (e 4 ⟨⟩, m 4 ⟨⟩), (e 5 ⟨⟩, m 5 ⟨⟩), (e 6 ⟨⟩, m 6 ⟨⟩), (e 7 ⟨⟩, m 7 ⟨⟩), (e 8 ⟨⟩, m 8 ⟨⟩), (e 9 ⟨⟩, m 9 ⟨⟩), (e 10 ⟨⟩, m 10 ⟨⟩), (e 11 ⟨⟩, m 11 ⟨⟩), (e 12 ⟨⟩, m 12 ⟨⟩), (e 13 ⟨⟩, m 13 ⟨⟩), (e 14 ⟨⟩, m 14 ⟨⟩), (e 15 ⟨⟩, m 15 ⟨⟩)] (c ⟨⟩).toNat).1.1.1 := by rw [hF, hval]
              have e1 : (0 : Nat) = (fitR [(e 0 ⟨⟩, m 0 ⟨⟩), (e 1 ⟨⟩, m 1 ⟨⟩), (e 2 ⟨⟩, m 2 ⟨⟩), (e 3 ⟨⟩, m 3 ⟨⟩), (e 4 ⟨⟩, m 4 ⟨⟩), (e 5 ⟨⟩, m 5 ⟨⟩), (e 6 ⟨⟩, m 6 ⟨⟩), (e 7 ⟨⟩, m 7 ⟨⟩), (e 8 ⟨⟩, m 8 ⟨⟩), (e 9 ⟨⟩, m 9 ⟨⟩), (e 10 ⟨⟩, m 10 ⟨⟩), (e 11 ⟨⟩, m 11 ⟨⟩), (e 12 ⟨⟩, m 12 ⟨⟩), (e 13 ⟨⟩, m 13 ⟨⟩), (e 14 ⟨⟩, m 14 ⟨⟩), (e 15 ⟨⟩, m 15 ⟨⟩)] (c ⟨⟩).toNat).1.1.2 := by rw [hF, hval]
              have e2 : (0 : Nat) = (fitR [(e 0 ⟨⟩, m 0 ⟨⟩), (e 1 ⟨⟩, m 1 ⟨⟩), (e 2 ⟨⟩, m 2 ⟨⟩), (e 3 ⟨⟩, m 3 ⟨⟩), (e 4 ⟨⟩, m 4 ⟨⟩), (e 5 ⟨⟩, m 5 ⟨⟩), (e 6 ⟨⟩, m 6 ⟨⟩), (e 7 ⟨⟩, m 7 ⟨⟩), (e 8 ⟨⟩, m 8 ⟨⟩), (e 9 ⟨⟩, m 9 ⟨⟩), (e 10 ⟨⟩, m 10 ⟨⟩), (e 11 ⟨⟩, m 11 ⟨⟩), (e 12 ⟨⟩, m 12 ⟨⟩), (e 13 ⟨⟩, m 13 ⟨⟩), (e 14 ⟨⟩, m 14 ⟨⟩), (e 15 ⟨⟩, m 15 ⟨⟩)] (c ⟨⟩).toNat).1.2.1 := by rw [hF, hval]
              have e3 : (0 : Nat) = (fitR [(e 0 ⟨⟩, m 0 ⟨⟩), (e 1 ⟨⟩, m 1 ⟨⟩), (e 2 ⟨⟩, m 2 ⟨⟩), (e 3 ⟨⟩, m 3 ⟨⟩), (e 4 ⟨⟩, m 4 ⟨⟩), (e 5 ⟨⟩, m 5 ⟨⟩), (e 6 ⟨⟩, m 6 ⟨⟩), (e 7 ⟨⟩, m 7 ⟨⟩), (e 8 ⟨⟩, m 8 ⟨⟩), (e 9 ⟨⟩, m 9 ⟨⟩), (e 10 ⟨⟩, m 10 ⟨⟩), (e 11 ⟨⟩, m 11 ⟨⟩), (e 12 ⟨⟩, m 12 ⟨⟩), (e 13 ⟨⟩, m 13 ⟨⟩), (e 14 ⟨⟩, m 14 ⟨⟩), (e 15 ⟨⟩, m 15 ⟨⟩)] (c ⟨⟩).toNat).1.2.2 := by rw [hF, hval]
              have e4 : (4 : Int) = (fitR [(e 0 ⟨⟩, m 0 ⟨⟩), (e 1 ⟨⟩, m 1 ⟨⟩), (e 2 ⟨⟩, m 2 ⟨⟩), (e 3 ⟨⟩, m 3 ⟨⟩), (e 4 ⟨⟩, m 4 ⟨⟩), (e 5 ⟨⟩, m 5 ⟨⟩), (e 6 ⟨⟩, m 6 ⟨⟩), (e 7 ⟨⟩, m 7 ⟨⟩), (e 8 ⟨⟩, m 8 ⟨⟩), (e 9 ⟨⟩, m 9 ⟨⟩), (e 10 ⟨⟩, m 10 ⟨⟩), (e 11 ⟨⟩, m 11 ⟨⟩), (e 12 ⟨⟩, m 12 ⟨⟩), (e 13 ⟨⟩, m 13 ⟨⟩), (e 14 ⟨⟩, m 14 ⟨⟩), (e 15 ⟨⟩, m 15 ⟨⟩)] (c ⟨⟩).toNat).2 := by rw [hF, hval]
              refine Br.t (nft h1) ?_
              cbv
              repeat' (refine Ob.mk ?_ ?_; (focus (first | exact e0 | exact e1 | exact e2 | exact e3 | exact e4 | exact rfl)); cbv)
            · refine Br.f (ntf h1) ?_
              cbv
              repeat' (refine Ob.mk ?_ ?_; (focus (first | exact rfl | exact ⟨rfl, by decide⟩ | (dsimp only [IE.val, NE.val, IE.nat, forced, List.length_cons, List.length_nil]; omega) | decide)); cbv)
              rcases bool_ft (finX (fMove L0 cn).1) with h2 | h2
              · have hval := fit_inf (fin_3 h2)
                have e0 : (0 : Nat) = (fitR [(e 0 ⟨⟩, m 0 ⟨⟩), (e 1 ⟨⟩, m 1 ⟨⟩), (e 2 ⟨⟩, m 2 ⟨⟩), (e 3 ⟨⟩, m 3 ⟨⟩), (e 4 ⟨⟩, m 4 ⟨⟩), (e 5 ⟨⟩, m 5 ⟨⟩), (e 6 ⟨⟩, m 6 ⟨⟩), (e 7 ⟨⟩, m 7 ⟨⟩), (e 8 ⟨⟩, m 8 ⟨⟩), (e 9 ⟨⟩, m 9 ⟨⟩), (e 10 ⟨⟩, m 10 ⟨⟩), (e 11 ⟨⟩, m 11 ⟨⟩), (e 12 ⟨⟩, m 12 ⟨⟩), (e 13 ⟨⟩, m 13 ⟨⟩), (e 14 ⟨⟩, m 14 ⟨⟩), (e 15 ⟨⟩, m 15 ⟨⟩)] (c ⟨⟩).toNat).1.1.1 := by rw [hF, hval]
                have e1 : (0 : Nat) = (fitR [(e 0 ⟨⟩, m 0 ⟨⟩), (e 1 ⟨⟩, m 1 ⟨⟩), (e 2 ⟨⟩, m 2 ⟨⟩), (e 3 ⟨⟩, m 3 ⟨⟩), (e 4 ⟨⟩, m 4 ⟨⟩), (e 5 ⟨⟩, m 5 ⟨⟩), (e 6 ⟨⟩, m 6 ⟨⟩), (e 7 ⟨⟩, m 7 ⟨⟩), (e 8 ⟨⟩, m 8 ⟨⟩), (e 9 ⟨⟩, m 9 ⟨⟩), (e 10 ⟨⟩, m 10 ⟨⟩), (e 11 ⟨⟩, m 11 ⟨⟩), (e 12 ⟨⟩, m 12 ⟨⟩), (e 13 ⟨⟩, m 13 ⟨⟩), (e 14 ⟨⟩, m 14 ⟨⟩), (e 15 ⟨⟩, m 15 ⟨⟩)] (c ⟨⟩).toNat).1.1.2 := by rw [hF, hval]
                have e2 : (0 : Nat) = (fitR [(e 0 ⟨⟩, m 0 ⟨⟩), (e 1 ⟨⟩, m 1 ⟨⟩), (e 2 ⟨⟩, m 2 ⟨⟩), (e 3 ⟨⟩, m 3 ⟨⟩), (e 4 ⟨⟩, m 4 ⟨⟩), (e 5 ⟨⟩, m 5 ⟨⟩), (e 6 ⟨⟩, m 6 ⟨⟩), (e 7 ⟨⟩, m 7 ⟨⟩), (e 8 ⟨⟩, m 8 ⟨⟩), (e 9 ⟨⟩, m 9 ⟨⟩), (e 10 ⟨⟩, m 10 ⟨⟩), (e 11 ⟨⟩, m 11 ⟨⟩), (e 12 ⟨⟩, m 12 ⟨⟩), (e 13 ⟨⟩, m 13 ⟨⟩), (e 14 ⟨⟩, m 14 ⟨⟩), (e 15 ⟨⟩, m 15 ⟨⟩)] (c ⟨⟩).toNat).1.2.1 := by rw [hF, hval]
                have e3 : (0 : Nat) = (fitR [(e 0 ⟨⟩, m 0 ⟨⟩), (e 1 ⟨⟩, m 1 ⟨⟩), (e 2 ⟨⟩, m 2 ⟨⟩), (e 3 ⟨⟩, m 3 ⟨⟩), (e 4 ⟨⟩, m 4 ⟨⟩), (e 5 ⟨⟩, m 5 ⟨⟩), (e 6 ⟨⟩, m 6 ⟨⟩), (e 7 ⟨⟩, m 7 ⟨⟩), (e 8 ⟨⟩, m 8 ⟨⟩), (e 9 ⟨⟩, m 9 ⟨⟩), (e 10 ⟨⟩, m 10 ⟨⟩), (e 11 ⟨⟩, m 11 ⟨⟩), (e 12 ⟨⟩, m 12 ⟨⟩), (e 13 ⟨⟩, m 13 ⟨⟩), (e 14 ⟨⟩, m 14 ⟨⟩), (e 15 ⟨⟩, m 15 ⟨⟩)] (c ⟨⟩).toNat).1.2.2 := by rw [hF, hval]
                have e4 : (4 : Int) = (fitR [(e 0 ⟨⟩, m 0 ⟨⟩), (e 1 ⟨⟩, m 1 ⟨⟩), (e 2 ⟨⟩, m 2 ⟨⟩), (e 3 ⟨⟩, m 3 ⟨⟩), (e 4 ⟨⟩, m 4 ⟨⟩), (e 5 ⟨⟩, m 5 ⟨⟩), (e 6 ⟨⟩, m 6 ⟨⟩), (e 7 ⟨⟩, m 7 ⟨⟩), (e 8 ⟨⟩, m 8 ⟨⟩), (e 9 ⟨⟩, m 9 ⟨⟩), (e 10 ⟨⟩, m 10 ⟨⟩), (e 11 ⟨⟩, m 11 ⟨⟩), (e 12 ⟨⟩, m 12 ⟨⟩), (e 13 ⟨⟩, m 13 ⟨⟩), (e 14 ⟨⟩, m 14 ⟨⟩), (e 15 ⟨⟩, m 15 ⟨⟩)] (c ⟨⟩).toNat).2 := by rw [hF, hval]
                refine Br.t (nft h2) ?_
                cbv
                repeat' (refine Ob.mk ?_ ?_; (focus (first | exact e0 | exact e1 | exact e2 | exact e3 | exact e4 | exact rfl)); cbv)
              · refine Br.f (ntf h2) ?_
                cbv
                repeat' (refine Ob.mk ?_ ?_; (focus (first | exact rfl | exact ⟨rfl, by decide⟩ | (dsimp only [IE.val, NE.val, IE.nat, forced, List.length_cons, List.length_nil]; omega) | decide)); cbv)
                rcases bool_ft (finX (fMove L0 cn).2) with h3 | h3
                · have hval := fit_inf (fin_4 h3)
                  have e0 : (0 : Nat) = (fitR [(e 0 ⟨⟩, m 0 ⟨⟩), (e 1 ⟨⟩, m 1 ⟨⟩), (e 2 ⟨⟩, m 2 ⟨⟩), (e 3 ⟨⟩, m 3 ⟨⟩), (e 4 ⟨⟩, m 4 ⟨⟩), (e 5 ⟨⟩, m 5 ⟨⟩), (e 6 ⟨⟩, m 6 ⟨⟩), (e 7 ⟨⟩, m 7 ⟨⟩), (e 8 ⟨⟩, m 8 ⟨⟩), (e 9 ⟨⟩, m 9 ⟨⟩), (e 10 ⟨⟩, m 10 ⟨⟩), (e 11 ⟨⟩, m 11 ⟨⟩), (e 12 ⟨⟩, m 12 ⟨⟩), (e 13 ⟨⟩, m 13 ⟨⟩), (e 14 ⟨⟩, m 14 ⟨⟩), (e 15 ⟨⟩, m 15 ⟨⟩)] (c ⟨⟩).toNat).1.1.1 := by rw [hF, hval]
                  have e1 : (0 : Nat) = (fitR [(e 0 ⟨⟩, m 0 ⟨⟩), (e 1 ⟨⟩, m 1 ⟨⟩), (e 2 ⟨⟩, m 2 ⟨⟩), (e 3 ⟨⟩, m 3 ⟨⟩), (e 4 ⟨⟩, m 4 ⟨⟩), (e 5 ⟨⟩, m 5 ⟨⟩), (e 6 ⟨⟩, m 6 ⟨⟩), (e 7 ⟨⟩, m 7 ⟨⟩), (e 8 ⟨⟩, m 8 ⟨⟩), (e 9 ⟨⟩, m 9 ⟨⟩), (e 10 ⟨⟩, m 10 ⟨⟩), (e 11 ⟨⟩, m 11 ⟨⟩), (e 12 ⟨⟩, m 12 ⟨⟩), (e 13 ⟨⟩, m 13 ⟨⟩), (e 14 ⟨⟩, m 14 ⟨⟩), (e 15 ⟨⟩, m 15 ⟨⟩)] (c ⟨⟩).toNat).1.1.2 := by rw [hF, hval]
                  have e2 : (0 : Nat) = (fitR [(e 0 ⟨⟩, m 0 ⟨⟩), (e 1 ⟨⟩, m 1 ⟨⟩), (e 2 ⟨⟩, m 2 ⟨⟩), (e 3 ⟨⟩, m 3 ⟨⟩), (e 4 ⟨⟩, m 4 ⟨⟩), (e 5 ⟨⟩, m 5 ⟨⟩), (e 6 ⟨⟩, m 6 ⟨⟩), (e 7 ⟨⟩, m 7 ⟨⟩), (e 8 ⟨⟩, m 8 ⟨⟩), (e 9 ⟨⟩, m 9 ⟨⟩), (e 10 ⟨⟩, m 10 ⟨⟩), (e 11 ⟨⟩, m 11 ⟨⟩), (e 12 ⟨⟩, m 12 ⟨⟩), (e 13 ⟨⟩, m 13 ⟨⟩), (e 14 ⟨⟩, m 14 ⟨⟩), (e 15 ⟨⟩, m 15 ⟨⟩)] (c ⟨⟩).toNat).1.2.1 := by rw [hF, hval]
                  have e3 : (0 : Nat) = (fitR [(e 0 ⟨⟩, m 0 ⟨⟩), (e 1 ⟨⟩, m 1 ⟨⟩), (e 2 ⟨⟩, m 2 ⟨⟩), (e 3 ⟨⟩, m 3 ⟨⟩), (e 4 ⟨⟩, m 4 ⟨⟩), (e 5 ⟨⟩, m 5 ⟨⟩), (e 6 ⟨⟩, m 6 ⟨⟩), (e 7 ⟨⟩, m 7 ⟨⟩), (e 8 ⟨⟩, m 8 ⟨⟩), (e 9 ⟨⟩, m 9 ⟨⟩), (e 10 ⟨⟩, m 10 ⟨⟩), (e 11 ⟨⟩, m 11 ⟨⟩), (e 12 ⟨⟩, m 12 ⟨⟩), (e 13 ⟨⟩, m 13 ⟨⟩), (e 14 ⟨⟩, m 14 ⟨⟩), (e 15 ⟨⟩, m 15 ⟨⟩)] (c ⟨⟩).toNat).1.2.2 := by rw [hF, hval]
                  have e4 : (4 : Int) = (fitR [(e 0 ⟨⟩, m 0 ⟨⟩), (e 1 ⟨⟩, m 1 ⟨⟩), (e 2 ⟨⟩, m 2 ⟨⟩), (e 3 ⟨⟩, m 3 ⟨⟩), (e 4 ⟨⟩, m 4 ⟨⟩), (e 5 ⟨⟩, m 5 ⟨⟩), (e 6 ⟨⟩, m 6 ⟨⟩), (e 7 ⟨⟩, m 7 ⟨⟩), (e 8 ⟨⟩, m 8 ⟨⟩), (e 9 ⟨⟩, m 9 ⟨⟩), (e 10 ⟨⟩, m 10 ⟨⟩), (e 11 ⟨⟩, m 11 ⟨⟩), (e 12 ⟨⟩, m 12 ⟨⟩), (e 13 ⟨⟩, m 13 ⟨⟩), (e 14 ⟨⟩, m 14 ⟨⟩), (e 15 ⟨⟩, m 15 ⟨⟩)] (c ⟨⟩).toNat).2 := by rw [hF, hval]
                  refine Br.t (nft h3) ?_
                  cbv
                  repeat' (refine Ob.mk ?_ ?_; (focus (first | exact e0 | exact e1 | exact e2 | exact e3 | exact e4 | exact rfl)); cbv)
                · have hval := fit_ok hd h0 h1 h2 h3
                  have e0 : (fTurn L0 cn).1 = (fitR [(e 0 ⟨⟩, m 0 ⟨⟩), (e 1 ⟨⟩, m 1 ⟨⟩), (e 2 ⟨⟩, m 2 ⟨⟩), (e 3 ⟨⟩, m 3 ⟨⟩), (e 4 ⟨⟩, m 4 ⟨⟩), (e 5 ⟨⟩, m 5 ⟨⟩), (e 6 ⟨⟩, m 6 ⟨⟩), (e 7 ⟨⟩, m 7 ⟨⟩), (e 8 ⟨⟩, m 8 ⟨⟩), (e 9 ⟨⟩, m 9 ⟨⟩), (e 10 ⟨⟩, m 10 ⟨⟩), (e 11 ⟨⟩, m 11 ⟨⟩), (e 12 ⟨⟩, m 12 ⟨⟩), (e 13 ⟨⟩, m 13 ⟨⟩), (e 14 ⟨⟩, m 14 ⟨⟩), (e 15 ⟨⟩, m 15 ⟨⟩)] (c ⟨⟩).toNat).1.1.1 := by rw [hF, hval]
                  have e1 : (fTurn L0 cn).2 = (fitR [(e 0 ⟨⟩, m 0 ⟨⟩), (e 1 ⟨⟩, m 1 ⟨⟩), (e 2 ⟨⟩, m 2 ⟨⟩), (e 3 ⟨⟩, m 3 ⟨⟩), (e 4 ⟨⟩, m 4 ⟨⟩), (e 5 ⟨⟩, m 5 ⟨⟩), (e 6 ⟨⟩, m 6 ⟨⟩), (e 7 ⟨⟩, m 7 ⟨⟩), (e 8 ⟨⟩, m 8 ⟨⟩), (e 9 ⟨⟩, m 9 ⟨⟩), (e 10 ⟨⟩, m 10 ⟨⟩), (e 11 ⟨⟩, m 11 ⟨⟩), (e 12 ⟨⟩, m 12 ⟨⟩), (e 13 ⟨⟩, m 13 ⟨⟩), (e 14 ⟨⟩, m 14 ⟨⟩), (e 15 ⟨⟩, m 15 ⟨⟩)] (c ⟨⟩).toNat).1.1.2 := by rw [hF, hval]
                  have e2 : (fMove L0 cn).1 = (fitR [(e 0 ⟨⟩, m 0 ⟨⟩), (e 1 ⟨⟩, m 1 ⟨⟩), (e 2 ⟨⟩, m 2 ⟨⟩), (e 3 ⟨⟩, m 3 ⟨⟩), (e 4 ⟨⟩, m 4 ⟨⟩), (e 5 ⟨⟩, m 5 ⟨⟩), (e 6 ⟨⟩, m 6 ⟨⟩), (e 7 ⟨⟩, m 7 ⟨⟩), (e 8 ⟨⟩, m 8 ⟨⟩), (e 9 ⟨⟩, m 9 ⟨⟩), (e 10 ⟨⟩, m 10 ⟨⟩), (e 11 ⟨⟩, m 11 ⟨⟩), (e 12 ⟨⟩, m 12 ⟨⟩), (e 13 ⟨⟩, m 13 ⟨⟩), (e 14 ⟨⟩, m 14 ⟨⟩), (e 15 ⟨⟩, m 15 ⟨⟩)] (c ⟨⟩).toNat).1.2.1 := by rw [hF, hval]
                  have e3 : (fMove L0 cn).2 = (fitR [(e 0 ⟨⟩, m 0 ⟨⟩), (e 1 ⟨⟩, m 1 ⟨⟩), (e 2 ⟨⟩, m 2 ⟨⟩), (e 3 ⟨⟩, m 3 ⟨⟩), (e 4 ⟨⟩, m 4 ⟨⟩), (e 5 ⟨⟩, m 5 ⟨⟩), (e 6 ⟨⟩, m 6 ⟨⟩), (e 7 ⟨⟩, m 7 ⟨⟩), (e 8 ⟨⟩, m 8 ⟨⟩), (e 9 ⟨⟩, m 9 ⟨⟩), (e 10 ⟨⟩, m 10 ⟨⟩), (e 11 ⟨⟩, m 11 ⟨⟩), (e 12 ⟨⟩, m 12 ⟨⟩), (e 13 ⟨⟩, m 13 ⟨⟩), (e 14 ⟨⟩, m 14 ⟨⟩), (e 15 ⟨⟩, m 15 ⟨⟩)] (c ⟨⟩).toNat).1.2.2 := by rw [hF, hval]
                  have e4 : (0 : Int) = (fitR [(e 0 ⟨⟩, m 0 ⟨⟩), (e 1 ⟨⟩, m 1 ⟨⟩), (e 2 ⟨⟩, m 2 ⟨⟩), (e 3 ⟨⟩, m 3 ⟨⟩), (e 4 ⟨⟩, m 4 ⟨⟩), (e 5 ⟨⟩, m 5 ⟨⟩), (e 6 ⟨⟩, m 6 ⟨⟩), (e 7 ⟨⟩, m 7 ⟨⟩), (e 8 ⟨⟩, m 8 ⟨⟩), (e 9 ⟨⟩, m 9 ⟨⟩), (e 10 ⟨⟩, m 10 ⟨⟩), (e 11 ⟨⟩, m 11 ⟨⟩), (e 12 ⟨⟩, m 12 ⟨⟩), (e 13 ⟨⟩, m 13 ⟨⟩), (e 14 ⟨⟩, m 14 ⟨⟩), (e 15 ⟨⟩, m 15 ⟨⟩)] (c ⟨⟩).toNat).2 := by rw [hF, hval]
                  refine Br.f (ntf h3) ?_
                  cbv
                  repeat' (refine Ob.mk ?_ ?_; (focus (first | exact e0 | exact e1 | exact e2 | exact e3 | exact e4 | exact rfl)); cbv)
    · cases hs
  · cases hs
end
end Go.Proofs.Ytanndlifpojenaa.Sh
