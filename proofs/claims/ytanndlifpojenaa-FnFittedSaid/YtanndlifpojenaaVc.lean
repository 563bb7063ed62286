/- What the functions of sheets of this seat compute, each shown once. No condition. -/
import Derived.Test.YtanndlifpojenaaVb
set_option linter.unusedVariables false
set_option linter.unusedSimpArgs false
set_option linter.unusedSectionVars false
namespace Go.Proofs.Ytanndlifpojenaa.Sh
open Go Go.Proofs
section
theorem eta16 {l : List M} (h : l.length = 16) : [((l.getD 0 (0, 0)).1, (l.getD 0 (0, 0)).2), ((l.getD 1 (0, 0)).1, (l.getD 1 (0, 0)).2), ((l.getD 2 (0, 0)).1, (l.getD 2 (0, 0)).2), ((l.getD 3 (0, 0)).1, (l.getD 3 (0, 0)).2), ((l.getD 4 (0, 0)).1, (l.getD 4 (0, 0)).2), ((l.getD 5 (0, 0)).1, (l.getD 5 (0, 0)).2), ((l.getD 6 (0, 0)).1, (l.getD 6 (0, 0)).2), ((l.getD 7 (0, 0)).1, (l.getD 7 (0, 0)).2), ((l.getD 8 (0, 0)).1, (l.getD 8 (0, 0)).2), ((l.getD 9 (0, 0)).1, (l.getD 9 (0, 0)).2), ((l.getD 10 (0, 0)).1, (l.getD 10 (0, 0)).2), ((l.getD 11 (0, 0)).1, (l.getD 11 (0, 0)).2), ((l.getD 12 (0, 0)).1, (l.getD 12 (0, 0)).2), ((l.getD 13 (0, 0)).1, (l.getD 13 (0, 0)).2), ((l.getD 14 (0, 0)).1, (l.getD 14 (0, 0)).2), ((l.getD 15 (0, 0)).1, (l.getD 15 (0, 0)).2)] = l := by
  match l, h with
  | [a0, a1, a2, a3, a4, a5, a6, a7, a8, a9, a10, a11, a12, a13, a14, a15], _ => rfl
theorem nbt {b : Bool} (h : (!b) = true) : b = false := by cases b <;> simp_all
theorem nbf {b : Bool} (h : (!b) = false) : b = true := by cases b <;> simp_all
theorem noS_get (i : Nat) : noS.getD i (0, 0) = ((0 : Nat), (0 : Nat)) := by
  unfold noS
  rw [List.getD_eq_getElem?_getD, List.getElem?_replicate]
  split <;> rfl
theorem mvTo_len (l : List M) (c : Nat) (f : M → M) : ∀ k, (mvTo l c f k).length = l.length
  | 0 => rfl
  | k + 1 => by unfold mvTo; rw [List.length_set, mvTo_len l c f k]
theorem moveS_len (l : List M) (c : Nat) (b : M) : (moveS l c b).length = l.length := mvTo_len _ _ _ _
def resS (l : List M) : List M := if okS l = true then l else noS
theorem resS_t {l : List M} (h : okS l = true) : resS l = l := if_pos h
theorem resS_f {l : List M} (h : ¬ okS l = true) : resS l = noS := if_neg h
theorem fn84 : FnOk Try.prog 84 Try.f84 (bodyOf Try.f84) := ⟨Try.func84, rfl, by rfl⟩
def s84 : Spec := hspec fun args H => match args, H with
  | [.c (.z .f32 a1 a2), .c (.p 0 (.l 0))], [some ⟨false, 0, .lit [.z .f32 b1 b2]⟩] => some (Zm (plusM (a1 (), a2 ()) (b1 (), b2 ())), [none], [])
  | _, _ => none
def E84 : Env := fun g => envGetL [(68, ⟨true, s68, none⟩)] g
theorem E84ok : EnvOk Try.prog E84 := envOk_cons ok68 (envOk_nil _)
theorem ok84 : Ok Try.prog 84 (s84) := ok_of_wpaH (E := E84) mixed tts E84ok fn84 fun args H v H' o hs ho => by
  split at hs
  · rename_i a1 a2 b1 b2
    cases hs
    refine ⟨_, HLe.refl _, ?_⟩
    cbv
    repeat' first
      | (refine Br.mk (fun h => ?_) (fun h => ?_) <;> cbv)
      | (refine Ob.mk ?_ ?_; rotate_left; cbv)
      | (refine Lex.mk (by decide +kernel) ?_; cbv)
    all_goals (try simp only [Unit.unit, Int.ofNat_lt, Int.ofNat_le, BE.val, IE.val, NE.val, ltB_iff, ltB_no, leB_iff, leB_no, Int.toNat_natCast, Nat.zero_add, Nat.add_zero, Nat.mul_one, forced, beq_iff_eq, beq_eq_false_iff_ne, bne_iff_ne, bne_eq_false_iff_eq] at *)
    all_goals first | with_reducible rfl | rfl
  · cases hs
theorem fn72 : FnOk Try.prog 72 Try.f72 (bodyOf Try.f72) := ⟨Try.func72, rfl, by rfl⟩
def s72 : Spec := hspec fun args H => match args, H with
  | [.a cs, .c (.i .i64 (.x c)), .c (.fn 84 [0])], [some ⟨false, 0, .lit [.z .f32 b1 b2]⟩] => match cxsOf cs with
    | some q => some (.t [.a [.z .f32 (fun _ => ((resS (moveS (forced q) (c ()).toNat (b1 (), b2 ()))).getD 0 (0, 0)).1) (fun _ => ((resS (moveS (forced q) (c ()).toNat (b1 (), b2 ()))).getD 0 (0, 0)).2), .z .f32 (fun _ => ((resS (moveS (forced q) (c ()).toNat (b1 (), b2 ()))).getD 1 (0, 0)).1) (fun _ => ((resS (moveS (forced q) (c ()).toNat (b1 (), b2 ()))).getD 1 (0, 0)).2), .z .f32 (fun _ => ((resS (moveS (forced q) (c ()).toNat (b1 (), b2 ()))).getD 2 (0, 0)).1) (fun _ => ((resS (moveS (forced q) (c ()).toNat (b1 (), b2 ()))).getD 2 (0, 0)).2), .z .f32 (fun _ => ((resS (moveS (forced q) (c ()).toNat (b1 (), b2 ()))).getD 3 (0, 0)).1) (fun _ => ((resS (moveS (forced q) (c ()).toNat (b1 (), b2 ()))).getD 3 (0, 0)).2), .z .f32 (fun _ => ((resS (moveS (forced q) (c ()).toNat (b1 (), b2 ()))).getD 4 (0, 0)).1) (fun _ => ((resS (moveS (forced q) (c ()).toNat (b1 (), b2 ()))).getD 4 (0, 0)).2), .z .f32 (fun _ => ((resS (moveS (forced q) (c ()).toNat (b1 (), b2 ()))).getD 5 (0, 0)).1) (fun _ => ((resS (moveS (forced q) (c ()).toNat (b1 (), b2 ()))).getD 5 (0, 0)).2), .z .f32 (fun _ => ((resS (moveS (forced q) (c ()).toNat (b1 (), b2 ()))).getD 6 (0, 0)).1) (fun _ => ((resS (moveS (forced q) (c ()).toNat (b1 (), b2 ()))).getD 6 (0, 0)).2), .z .f32 (fun _ => ((resS (moveS (forced q) (c ()).toNat (b1 (), b2 ()))).getD 7 (0, 0)).1) (fun _ => ((resS (moveS (forced q) (c ()).toNat (b1 (), b2 ()))).getD 7 (0, 0)).2), .z .f32 (fun _ => ((resS (moveS (forced q) (c ()).toNat (b1 (), b2 ()))).getD 8 (0, 0)).1) (fun _ => ((resS (moveS (forced q) (c ()).toNat (b1 (), b2 ()))).getD 8 (0, 0)).2), .z .f32 (fun _ => ((resS (moveS (forced q) (c ()).toNat (b1 (), b2 ()))).getD 9 (0, 0)).1) (fun _ => ((resS (moveS (forced q) (c ()).toNat (b1 (), b2 ()))).getD 9 (0, 0)).2), .z .f32 (fun _ => ((resS (moveS (forced q) (c ()).toNat (b1 (), b2 ()))).getD 10 (0, 0)).1) (fun _ => ((resS (moveS (forced q) (c ()).toNat (b1 (), b2 ()))).getD 10 (0, 0)).2), .z .f32 (fun _ => ((resS (moveS (forced q) (c ()).toNat (b1 (), b2 ()))).getD 11 (0, 0)).1) (fun _ => ((resS (moveS (forced q) (c ()).toNat (b1 (), b2 ()))).getD 11 (0, 0)).2), .z .f32 (fun _ => ((resS (moveS (forced q) (c ()).toNat (b1 (), b2 ()))).getD 12 (0, 0)).1) (fun _ => ((resS (moveS (forced q) (c ()).toNat (b1 (), b2 ()))).getD 12 (0, 0)).2), .z .f32 (fun _ => ((resS (moveS (forced q) (c ()).toNat (b1 (), b2 ()))).getD 13 (0, 0)).1) (fun _ => ((resS (moveS (forced q) (c ()).toNat (b1 (), b2 ()))).getD 13 (0, 0)).2), .z .f32 (fun _ => ((resS (moveS (forced q) (c ()).toNat (b1 (), b2 ()))).getD 14 (0, 0)).1) (fun _ => ((resS (moveS (forced q) (c ()).toNat (b1 (), b2 ()))).getD 14 (0, 0)).2), .z .f32 (fun _ => ((resS (moveS (forced q) (c ()).toNat (b1 (), b2 ()))).getD 15 (0, 0)).1) (fun _ => ((resS (moveS (forced q) (c ()).toNat (b1 (), b2 ()))).getD 15 (0, 0)).2)], vI (if okS (moveS (forced q) (c ()).toNat (b1 (), b2 ())) = true then 0 else 4)], [none], [fun _ => q.length = 16 ∧ okS (forced q) = true ∧ 0 ≤ c () ∧ c () ≤ 3])
    | none => none
  | _, _ => none
def E72 : Env := fun g => envGetL [(40, ⟨true, s40, none⟩), (84, ⟨true, s84, none⟩), (92, ⟨true, s92, none⟩)] g
theorem E72ok : EnvOk Try.prog E72 := envOk_cons ok40 (envOk_cons ok84 (envOk_cons ok92 (envOk_nil _)))
set_option maxRecDepth 100000 in
set_option maxHeartbeats 2000000 in
theorem ok72 : Ok Try.prog 72 (s72) := ok_of_wpaH (E := E72) mixed tts E72ok fn72 fun args H v H' o hs ho => by
  split at hs
  · rename_i cs c b1 b2
    split at hs
    · rename_i q hq
      cases hs
      obtain ⟨hlen, hok, hc⟩ := ho.one
      obtain ⟨e, m, rfl, rfl⟩ := cx16 hq hlen
      clear hq hlen
      have hok : okS [(e 0 ⟨⟩, m 0 ⟨⟩), (e 1 ⟨⟩, m 1 ⟨⟩), (e 2 ⟨⟩, m 2 ⟨⟩), (e 3 ⟨⟩, m 3 ⟨⟩), (e 4 ⟨⟩, m 4 ⟨⟩), (e 5 ⟨⟩, m 5 ⟨⟩), (e 6 ⟨⟩, m 6 ⟨⟩), (e 7 ⟨⟩, m 7 ⟨⟩), (e 8 ⟨⟩, m 8 ⟨⟩), (e 9 ⟨⟩, m 9 ⟨⟩), (e 10 ⟨⟩, m 10 ⟨⟩), (e 11 ⟨⟩, m 11 ⟨⟩), (e 12 ⟨⟩, m 12 ⟨⟩), (e 13 ⟨⟩, m 13 ⟨⟩), (e 14 ⟨⟩, m 14 ⟨⟩), (e 15 ⟨⟩, m 15 ⟨⟩)] = true := hok
      have hc : 0 ≤ c ⟨⟩ ∧ c ⟨⟩ ≤ 3 := hc
      have hc4 : 0 ≤ c ⟨⟩ ∧ c ⟨⟩ < ((4 : Nat) : Int) := by omega
      have hcode : ((if okS [(e 0 ⟨⟩, m 0 ⟨⟩), (e 1 ⟨⟩, m 1 ⟨⟩), (e 2 ⟨⟩, m 2 ⟨⟩), (e 3 ⟨⟩, m 3 ⟨⟩), (e 4 ⟨⟩, m 4 ⟨⟩), (e 5 ⟨⟩, m 5 ⟨⟩), (e 6 ⟨⟩, m 6 ⟨⟩), (e 7 ⟨⟩, m 7 ⟨⟩), (e 8 ⟨⟩, m 8 ⟨⟩), (e 9 ⟨⟩, m 9 ⟨⟩), (e 10 ⟨⟩, m 10 ⟨⟩), (e 11 ⟨⟩, m 11 ⟨⟩), (e 12 ⟨⟩, m 12 ⟨⟩), (e 13 ⟨⟩, m 13 ⟨⟩), (e 14 ⟨⟩, m 14 ⟨⟩), (e 15 ⟨⟩, m 15 ⟨⟩)] = true then (0 : Int) else 1) != 0) = false := by rw [if_pos hok]; rfl
      obtain ⟨L0, hL0⟩ : ∃ L0 : List M, L0 = [(e 0 ⟨⟩, m 0 ⟨⟩), (e 1 ⟨⟩, m 1 ⟨⟩), (e 2 ⟨⟩, m 2 ⟨⟩), (e 3 ⟨⟩, m 3 ⟨⟩), (e 4 ⟨⟩, m 4 ⟨⟩), (e 5 ⟨⟩, m 5 ⟨⟩), (e 6 ⟨⟩, m 6 ⟨⟩), (e 7 ⟨⟩, m 7 ⟨⟩), (e 8 ⟨⟩, m 8 ⟨⟩), (e 9 ⟨⟩, m 9 ⟨⟩), (e 10 ⟨⟩, m 10 ⟨⟩), (e 11 ⟨⟩, m 11 ⟨⟩), (e 12 ⟨⟩, m 12 ⟨⟩), (e 13 ⟨⟩, m 13 ⟨⟩), (e 14 ⟨⟩, m 14 ⟨⟩), (e 15 ⟨⟩, m 15 ⟨⟩)] := ⟨_, rfl⟩
      obtain ⟨cn, hcn⟩ : ∃ cn : Nat, cn = (c ⟨⟩).toNat * 4 := ⟨_, rfl⟩
      obtain ⟨g, hg⟩ : ∃ g : M → M, g = fun m => plusM m (b1 ⟨⟩, b2 ⟨⟩) := ⟨_, rfl⟩
      have hl0 : L0.length = 16 := by rw [hL0]; rfl
      have hlk : ∀ k, (mvTo L0 (c ⟨⟩).toNat g k).length = 16 := fun k => by rw [mvTo_len, hl0]
      have hidx : ∀ k : Nat, k < 4 → cn + k < 16 := fun k hk => by omega
      have hidx2 : ∀ k : Nat, k < 4 → 0 + (c ⟨⟩).toNat * 4 + k < 16 := fun k hk => by omega
      have hstep : ∀ k, (mvTo L0 (c ⟨⟩).toNat g k).set (0 + (c ⟨⟩).toNat * 4 + k) ((plusM (at2 L0 (cn + k)) (b1 ⟨⟩, b2 ⟨⟩)).1, (plusM (at2 L0 (cn + k)) (b1 ⟨⟩, b2 ⟨⟩)).2) = mvTo L0 (c ⟨⟩).toNat g (k + 1) := fun k => by rw [Nat.zero_add, hg, hcn]; rfl
      have hidx20 : 0 + (c ⟨⟩).toNat * 4 < 16 := by omega
      have hmv : moveS [(e 0 ⟨⟩, m 0 ⟨⟩), (e 1 ⟨⟩, m 1 ⟨⟩), (e 2 ⟨⟩, m 2 ⟨⟩), (e 3 ⟨⟩, m 3 ⟨⟩), (e 4 ⟨⟩, m 4 ⟨⟩), (e 5 ⟨⟩, m 5 ⟨⟩), (e 6 ⟨⟩, m 6 ⟨⟩), (e 7 ⟨⟩, m 7 ⟨⟩), (e 8 ⟨⟩, m 8 ⟨⟩), (e 9 ⟨⟩, m 9 ⟨⟩), (e 10 ⟨⟩, m 10 ⟨⟩), (e 11 ⟨⟩, m 11 ⟨⟩), (e 12 ⟨⟩, m 12 ⟨⟩), (e 13 ⟨⟩, m 13 ⟨⟩), (e 14 ⟨⟩, m 14 ⟨⟩), (e 15 ⟨⟩, m 15 ⟨⟩)] (c ⟨⟩).toNat (b1 ⟨⟩, b2 ⟨⟩) = mvTo L0 (c ⟨⟩).toNat g 4 := by rw [hL0, hg]; rfl
      clear ho
      refine ⟨_, HLe.refl _, ?_⟩
      cbv
      repeat' (refine Ob.mk ?_ ?_; (focus (first | exact rfl | exact ⟨rfl, rfl, rfl, hc.1, hc.2⟩)); cbv)
      refine Br.f hcode ?_
      cbv
      repeat' (refine Ob.mk ?_ ?_; (focus (first | exact hc4 | exact rfl | (dsimp only [IE.val, NE.val, IE.nat, forced, List.length_cons, List.length_nil]; omega))); cbv)
      refine Loop.mk 70 ?_
      cbv
      refine Gen.mk (fr 39 [(1, .c (.i .i64 (.x c))), (2, .c (.fn 84 [0])), (3, .c (.p 1 (.l 0))), (6, .c (.p 2 (.l 0))), (21, .a [.z .f32 (fun _ => (at2 L0 (cn + 0)).1) (fun _ => (at2 L0 (cn + 0)).2), .z .f32 (fun _ => (at2 L0 (cn + 1)).1) (fun _ => (at2 L0 (cn + 1)).2), .z .f32 (fun _ => (at2 L0 (cn + 2)).1) (fun _ => (at2 L0 (cn + 2)).2), .z .f32 (fun _ => (at2 L0 (cn + 3)).1) (fun _ => (at2 L0 (cn + 3)).2)]), (22, .c (.i .i64 (.l 0)))]) [some ⟨false, 0, .lit [.z .f32 b1 b2]⟩, some ⟨true, 0, .cx fun _ => mvTo L0 (c ⟨⟩).toNat g 0⟩, some ⟨true, 0, .lit [.z .f32 (fun _ => 0) (fun _ => 0), .z .f32 (fun _ => 0) (fun _ => 0), .z .f32 (fun _ => 0) (fun _ => 0), .z .f32 (fun _ => 0) (fun _ => 0), .z .f32 (fun _ => 0) (fun _ => 0), .z .f32 (fun _ => 0) (fun _ => 0), .z .f32 (fun _ => 0) (fun _ => 0), .z .f32 (fun _ => 0) (fun _ => 0), .z .f32 (fun _ => 0) (fun _ => 0), .z .f32 (fun _ => 0) (fun _ => 0), .z .f32 (fun _ => 0) (fun _ => 0), .z .f32 (fun _ => 0) (fun _ => 0), .z .f32 (fun _ => 0) (fun _ => 0), .z .f32 (fun _ => 0) (fun _ => 0), .z .f32 (fun _ => 0) (fun _ => 0), .z .f32 (fun _ => 0) (fun _ => 0)]⟩] ?_
      cbv
      repeat' (refine Ob.mk ?_ ?_; (focus (first | exact rfl | exact hstep 0 | exact hstep 1 | exact hstep 2 | exact hstep 3 | (dsimp only [IE.val, NE.val, IE.nat, forced]; rw [hL0, hcn, Nat.zero_add]; done) | (dsimp only [IE.val, NE.val, IE.nat, forced]; rw [hL0, hcn, Nat.zero_add]; rfl) | (dsimp only [IE.val, NE.val, IE.nat, forced]; simp only [mvTo, hg, hL0, Nat.zero_add]; done) | (dsimp only [IE.val, NE.val, IE.nat, forced]; simp only [mvTo, hg, hL0, Nat.zero_add]; rfl) | (rw [hL0]; rfl) | (rw [hL0, hcn, Nat.zero_add]; rfl) | (subst hg; subst hcn; simp only [mvTo, Nat.zero_add, Nat.add_zero]; rfl) | (subst hL0; subst hg; subst hcn; simp only [mvTo, Nat.zero_add, Nat.add_zero, forced]; rfl))); cbv)
      repeat' first
        | (refine Ob.mk ?_ ?_; (focus (first | exact hc4 | exact rfl | (dsimp only [IE.val, NE.val, IE.nat]; rw [hlk]; omega) | (dsimp only [IE.val, NE.val, IE.nat]; simp only [hlk]; omega))); cbv)
        | (refine Lex.pull [0, 1, 2, 3, 4, 5, 6] (by decide +kernel) ?_; cbv)
      refine Gen.mk (fr 39 [(1, .c (.i .i64 (.x c))), (2, .c (.fn 84 [0])), (3, .c (.p 1 (.l 0))), (6, .c (.p 2 (.l 0))), (21, .a [.z .f32 (fun _ => (at2 L0 (cn + 0)).1) (fun _ => (at2 L0 (cn + 0)).2), .z .f32 (fun _ => (at2 L0 (cn + 1)).1) (fun _ => (at2 L0 (cn + 1)).2), .z .f32 (fun _ => (at2 L0 (cn + 2)).1) (fun _ => (at2 L0 (cn + 2)).2), .z .f32 (fun _ => (at2 L0 (cn + 3)).1) (fun _ => (at2 L0 (cn + 3)).2)]), (22, .c (.i .i64 (.l 1)))]) [some ⟨false, 0, .lit [.z .f32 b1 b2]⟩, some ⟨true, 0, .cx fun _ => mvTo L0 (c ⟨⟩).toNat g 1⟩, some ⟨true, 0, .lit [.z .f32 (fun _ => 0) (fun _ => 0), .z .f32 (fun _ => 0) (fun _ => 0), .z .f32 (fun _ => 0) (fun _ => 0), .z .f32 (fun _ => 0) (fun _ => 0), .z .f32 (fun _ => 0) (fun _ => 0), .z .f32 (fun _ => 0) (fun _ => 0), .z .f32 (fun _ => 0) (fun _ => 0), .z .f32 (fun _ => 0) (fun _ => 0), .z .f32 (fun _ => 0) (fun _ => 0), .z .f32 (fun _ => 0) (fun _ => 0), .z .f32 (fun _ => 0) (fun _ => 0), .z .f32 (fun _ => 0) (fun _ => 0), .z .f32 (fun _ => 0) (fun _ => 0), .z .f32 (fun _ => 0) (fun _ => 0), .z .f32 (fun _ => 0) (fun _ => 0), .z .f32 (fun _ => 0) (fun _ => 0)]⟩] ?_
      cbv
      repeat' (refine Ob.mk ?_ ?_; (focus (first | exact rfl | exact hstep 0 | exact hstep 1 | exact hstep 2 | exact hstep 3 | (dsimp only [IE.val, NE.val, IE.nat, forced]; rw [hL0, hcn, Nat.zero_add]; done) | (dsimp only [IE.val, NE.val, IE.nat, forced]; rw [hL0, hcn, Nat.zero_add]; rfl) | (dsimp only [IE.val, NE.val, IE.nat, forced]; simp only [mvTo, hg, hL0, Nat.zero_add]; done) | (dsimp only [IE.val, NE.val, IE.nat, forced]; simp only [mvTo, hg, hL0, Nat.zero_add]; rfl) | (rw [hL0]; rfl) | (rw [hL0, hcn, Nat.zero_add]; rfl) | (subst hg; subst hcn; simp only [mvTo, Nat.zero_add, Nat.add_zero]; rfl) | (subst hL0; subst hg; subst hcn; simp only [mvTo, Nat.zero_add, Nat.add_zero, forced]; rfl))); cbv)
      repeat' first
        | (refine Ob.mk ?_ ?_; (focus (first | exact hc4 | exact rfl | (dsimp only [IE.val, NE.val, IE.nat]; rw [hlk]; omega) | (dsimp only [IE.val, NE.val, IE.nat]; simp only [hlk]; omega))); cbv)
        | (refine Lex.pull [0, 1, 2, 3, 4, 5, 6] (by decide +kernel) ?_; cbv)
      refine Gen.mk (fr 39 [(1, .c (.i .i64 (.x c))), (2, .c (.fn 84 [0])), (3, .c (.p 1 (.l 0))), (6, .c (.p 2 (.l 0))), (21, .a [.z .f32 (fun _ => (at2 L0 (cn + 0)).1) (fun _ => (at2 L0 (cn + 0)).2), .z .f32 (fun _ => (at2 L0 (cn + 1)).1) (fun _ => (at2 L0 (cn + 1)).2), .z .f32 (fun _ => (at2 L0 (cn + 2)).1) (fun _ => (at2 L0 (cn + 2)).2), .z .f32 (fun _ => (at2 L0 (cn + 3)).1) (fun _ => (at2 L0 (cn + 3)).2)]), (22, .c (.i .i64 (.l 2)))]) [some ⟨false, 0, .lit [.z .f32 b1 b2]⟩, some ⟨true, 0, .cx fun _ => mvTo L0 (c ⟨⟩).toNat g 2⟩, some ⟨true, 0, .lit [.z .f32 (fun _ => 0) (fun _ => 0), .z .f32 (fun _ => 0) (fun _ => 0), .z .f32 (fun _ => 0) (fun _ => 0), .z .f32 (fun _ => 0) (fun _ => 0), .z .f32 (fun _ => 0) (fun _ => 0), .z .f32 (fun _ => 0) (fun _ => 0), .z .f32 (fun _ => 0) (fun _ => 0), .z .f32 (fun _ => 0) (fun _ => 0), .z .f32 (fun _ => 0) (fun _ => 0), .z .f32 (fun _ => 0) (fun _ => 0), .z .f32 (fun _ => 0) (fun _ => 0), .z .f32 (fun _ => 0) (fun _ => 0), .z .f32 (fun _ => 0) (fun _ => 0), .z .f32 (fun _ => 0) (fun _ => 0), .z .f32 (fun _ => 0) (fun _ => 0), .z .f32 (fun _ => 0) (fun _ => 0)]⟩] ?_
      cbv
      repeat' (refine Ob.mk ?_ ?_; (focus (first | exact rfl | exact hstep 0 | exact hstep 1 | exact hstep 2 | exact hstep 3 | (dsimp only [IE.val, NE.val, IE.nat, forced]; rw [hL0, hcn, Nat.zero_add]; done) | (dsimp only [IE.val, NE.val, IE.nat, forced]; rw [hL0, hcn, Nat.zero_add]; rfl) | (dsimp only [IE.val, NE.val, IE.nat, forced]; simp only [mvTo, hg, hL0, Nat.zero_add]; done) | (dsimp only [IE.val, NE.val, IE.nat, forced]; simp only [mvTo, hg, hL0, Nat.zero_add]; rfl) | (rw [hL0]; rfl) | (rw [hL0, hcn, Nat.zero_add]; rfl) | (subst hg; subst hcn; simp only [mvTo, Nat.zero_add, Nat.add_zero]; rfl) | (subst hL0; subst hg; subst hcn; simp only [mvTo, Nat.zero_add, Nat.add_zero, forced]; rfl))); cbv)
      repeat' first
        | (refine Ob.mk ?_ ?_; (focus (first | exact hc4 | exact rfl | (dsimp only [IE.val, NE.val, IE.nat]; rw [hlk]; omega) | (dsimp only [IE.val, NE.val, IE.nat]; simp only [hlk]; omega))); cbv)
        | (refine Lex.pull [0, 1, 2, 3, 4, 5, 6] (by decide +kernel) ?_; cbv)
      refine Gen.mk (fr 39 [(1, .c (.i .i64 (.x c))), (2, .c (.fn 84 [0])), (3, .c (.p 1 (.l 0))), (6, .c (.p 2 (.l 0))), (21, .a [.z .f32 (fun _ => (at2 L0 (cn + 0)).1) (fun _ => (at2 L0 (cn + 0)).2), .z .f32 (fun _ => (at2 L0 (cn + 1)).1) (fun _ => (at2 L0 (cn + 1)).2), .z .f32 (fun _ => (at2 L0 (cn + 2)).1) (fun _ => (at2 L0 (cn + 2)).2), .z .f32 (fun _ => (at2 L0 (cn + 3)).1) (fun _ => (at2 L0 (cn + 3)).2)]), (22, .c (.i .i64 (.l 3)))]) [some ⟨false, 0, .lit [.z .f32 b1 b2]⟩, some ⟨true, 0, .cx fun _ => mvTo L0 (c ⟨⟩).toNat g 3⟩, some ⟨true, 0, .lit [.z .f32 (fun _ => 0) (fun _ => 0), .z .f32 (fun _ => 0) (fun _ => 0), .z .f32 (fun _ => 0) (fun _ => 0), .z .f32 (fun _ => 0) (fun _ => 0), .z .f32 (fun _ => 0) (fun _ => 0), .z .f32 (fun _ => 0) (fun _ => 0), .z .f32 (fun _ => 0) (fun _ => 0), .z .f32 (fun _ => 0) (fun _ => 0), .z .f32 (fun _ => 0) (fun _ => 0), .z .f32 (fun _ => 0) (fun _ => 0), .z .f32 (fun _ => 0) (fun _ => 0), .z .f32 (fun _ => 0) (fun _ => 0), .z .f32 (fun _ => 0) (fun _ => 0), .z .f32 (fun _ => 0) (fun _ => 0), .z .f32 (fun _ => 0) (fun _ => 0), .z .f32 (fun _ => 0) (fun _ => 0)]⟩] ?_
      cbv
      repeat' (refine Ob.mk ?_ ?_; (focus (first | exact rfl | exact hstep 0 | exact hstep 1 | exact hstep 2 | exact hstep 3 | (dsimp only [IE.val, NE.val, IE.nat, forced]; rw [hL0, hcn, Nat.zero_add]; done) | (dsimp only [IE.val, NE.val, IE.nat, forced]; rw [hL0, hcn, Nat.zero_add]; rfl) | (dsimp only [IE.val, NE.val, IE.nat, forced]; simp only [mvTo, hg, hL0, Nat.zero_add]; done) | (dsimp only [IE.val, NE.val, IE.nat, forced]; simp only [mvTo, hg, hL0, Nat.zero_add]; rfl) | (rw [hL0]; rfl) | (rw [hL0, hcn, Nat.zero_add]; rfl) | (subst hg; subst hcn; simp only [mvTo, Nat.zero_add, Nat.add_zero]; rfl) | (subst hL0; subst hg; subst hcn; simp only [mvTo, Nat.zero_add, Nat.add_zero, forced]; rfl))); cbv)
      repeat' first
        | (refine Ob.mk ?_ ?_; (focus (first | exact hc4 | exact rfl | (dsimp only [IE.val, NE.val, IE.nat]; rw [hlk]; omega) | (dsimp only [IE.val, NE.val, IE.nat]; simp only [hlk]; omega))); cbv)
        | (refine Lex.pull [0, 1, 2, 3, 4, 5, 6] (by decide +kernel) ?_; cbv)
      refine Gen.mk (fr 39 [(1, .c (.i .i64 (.x c))), (2, .c (.fn 84 [0])), (3, .c (.p 1 (.l 0))), (6, .c (.p 2 (.l 0))), (21, .a [.z .f32 (fun _ => (at2 L0 (cn + 0)).1) (fun _ => (at2 L0 (cn + 0)).2), .z .f32 (fun _ => (at2 L0 (cn + 1)).1) (fun _ => (at2 L0 (cn + 1)).2), .z .f32 (fun _ => (at2 L0 (cn + 2)).1) (fun _ => (at2 L0 (cn + 2)).2), .z .f32 (fun _ => (at2 L0 (cn + 3)).1) (fun _ => (at2 L0 (cn + 3)).2)]), (22, .c (.i .i64 (.l 4)))]) [some ⟨false, 0, .lit [.z .f32 b1 b2]⟩, some ⟨true, 0, .cx fun _ => mvTo L0 (c ⟨⟩).toNat g 4⟩, some ⟨true, 0, .lit [.z .f32 (fun _ => 0) (fun _ => 0), .z .f32 (fun _ => 0) (fun _ => 0), .z .f32 (fun _ => 0) (fun _ => 0), .z .f32 (fun _ => 0) (fun _ => 0), .z .f32 (fun _ => 0) (fun _ => 0), .z .f32 (fun _ => 0) (fun _ => 0), .z .f32 (fun _ => 0) (fun _ => 0), .z .f32 (fun _ => 0) (fun _ => 0), .z .f32 (fun _ => 0) (fun _ => 0), .z .f32 (fun _ => 0) (fun _ => 0), .z .f32 (fun _ => 0) (fun _ => 0), .z .f32 (fun _ => 0) (fun _ => 0), .z .f32 (fun _ => 0) (fun _ => 0), .z .f32 (fun _ => 0) (fun _ => 0), .z .f32 (fun _ => 0) (fun _ => 0), .z .f32 (fun _ => 0) (fun _ => 0)]⟩] ?_
      cbv
      repeat' (refine Ob.mk ?_ ?_; (focus (first | exact rfl | exact hstep 0 | exact hstep 1 | exact hstep 2 | exact hstep 3 | (dsimp only [IE.val, NE.val, IE.nat, forced]; rw [hL0, hcn, Nat.zero_add]; done) | (dsimp only [IE.val, NE.val, IE.nat, forced]; rw [hL0, hcn, Nat.zero_add]; rfl) | (dsimp only [IE.val, NE.val, IE.nat, forced]; simp only [mvTo, hg, hL0, Nat.zero_add]; done) | (dsimp only [IE.val, NE.val, IE.nat, forced]; simp only [mvTo, hg, hL0, Nat.zero_add]; rfl) | (rw [hL0]; rfl) | (rw [hL0, hcn, Nat.zero_add]; rfl) | (subst hg; subst hcn; simp only [mvTo, Nat.zero_add, Nat.add_zero]; rfl) | (subst hL0; subst hg; subst hcn; simp only [mvTo, Nat.zero_add, Nat.add_zero, forced]; rfl))); cbv)
      repeat' (refine Ob.mk ?_ ?_; (focus (first | exact rfl | (rw [hlk]; decide))); cbv)
      have heta := eta16 (hlk 4)
      refine Br.mk (fun h => ?_) (fun h => ?_)
      · have h1 : okS (mvTo L0 (c ⟨⟩).toNat g 4) = false := by
          rw [← heta]
          exact nbt h
        have hres : resS (moveS [(e 0 ⟨⟩, m 0 ⟨⟩), (e 1 ⟨⟩, m 1 ⟨⟩), (e 2 ⟨⟩, m 2 ⟨⟩), (e 3 ⟨⟩, m 3 ⟨⟩), (e 4 ⟨⟩, m 4 ⟨⟩), (e 5 ⟨⟩, m 5 ⟨⟩), (e 6 ⟨⟩, m 6 ⟨⟩), (e 7 ⟨⟩, m 7 ⟨⟩), (e 8 ⟨⟩, m 8 ⟨⟩), (e 9 ⟨⟩, m 9 ⟨⟩), (e 10 ⟨⟩, m 10 ⟨⟩), (e 11 ⟨⟩, m 11 ⟨⟩), (e 12 ⟨⟩, m 12 ⟨⟩), (e 13 ⟨⟩, m 13 ⟨⟩), (e 14 ⟨⟩, m 14 ⟨⟩), (e 15 ⟨⟩, m 15 ⟨⟩)] (c ⟨⟩).toNat (b1 ⟨⟩, b2 ⟨⟩)) = noS := by rw [hmv]; exact resS_f (by rw [h1]; decide)
        have hA : ∀ i, (0 : Nat) = ((resS (moveS [(e 0 ⟨⟩, m 0 ⟨⟩), (e 1 ⟨⟩, m 1 ⟨⟩), (e 2 ⟨⟩, m 2 ⟨⟩), (e 3 ⟨⟩, m 3 ⟨⟩), (e 4 ⟨⟩, m 4 ⟨⟩), (e 5 ⟨⟩, m 5 ⟨⟩), (e 6 ⟨⟩, m 6 ⟨⟩), (e 7 ⟨⟩, m 7 ⟨⟩), (e 8 ⟨⟩, m 8 ⟨⟩), (e 9 ⟨⟩, m 9 ⟨⟩), (e 10 ⟨⟩, m 10 ⟨⟩), (e 11 ⟨⟩, m 11 ⟨⟩), (e 12 ⟨⟩, m 12 ⟨⟩), (e 13 ⟨⟩, m 13 ⟨⟩), (e 14 ⟨⟩, m 14 ⟨⟩), (e 15 ⟨⟩, m 15 ⟨⟩)] (c ⟨⟩).toNat (b1 ⟨⟩, b2 ⟨⟩))).getD i (0, 0)).1 := fun i => by rw [hres, noS_get]
        have hB : ∀ i, (0 : Nat) = ((resS (moveS [(e 0 ⟨⟩, m 0 ⟨⟩), (e 1 ⟨⟩, m 1 ⟨⟩), (e 2 ⟨⟩, m 2 ⟨⟩), (e 3 ⟨⟩, m 3 ⟨⟩), (e 4 ⟨⟩, m 4 ⟨⟩), (e 5 ⟨⟩, m 5 ⟨⟩), (e 6 ⟨⟩, m 6 ⟨⟩), (e 7 ⟨⟩, m 7 ⟨⟩), (e 8 ⟨⟩, m 8 ⟨⟩), (e 9 ⟨⟩, m 9 ⟨⟩), (e 10 ⟨⟩, m 10 ⟨⟩), (e 11 ⟨⟩, m 11 ⟨⟩), (e 12 ⟨⟩, m 12 ⟨⟩), (e 13 ⟨⟩, m 13 ⟨⟩), (e 14 ⟨⟩, m 14 ⟨⟩), (e 15 ⟨⟩, m 15 ⟨⟩)] (c ⟨⟩).toNat (b1 ⟨⟩, b2 ⟨⟩))).getD i (0, 0)).2 := fun i => by rw [hres, noS_get]
        have hcd : (if okS (moveS [(e 0 ⟨⟩, m 0 ⟨⟩), (e 1 ⟨⟩, m 1 ⟨⟩), (e 2 ⟨⟩, m 2 ⟨⟩), (e 3 ⟨⟩, m 3 ⟨⟩), (e 4 ⟨⟩, m 4 ⟨⟩), (e 5 ⟨⟩, m 5 ⟨⟩), (e 6 ⟨⟩, m 6 ⟨⟩), (e 7 ⟨⟩, m 7 ⟨⟩), (e 8 ⟨⟩, m 8 ⟨⟩), (e 9 ⟨⟩, m 9 ⟨⟩), (e 10 ⟨⟩, m 10 ⟨⟩), (e 11 ⟨⟩, m 11 ⟨⟩), (e 12 ⟨⟩, m 12 ⟨⟩), (e 13 ⟨⟩, m 13 ⟨⟩), (e 14 ⟨⟩, m 14 ⟨⟩), (e 15 ⟨⟩, m 15 ⟨⟩)] (c ⟨⟩).toNat (b1 ⟨⟩, b2 ⟨⟩)) = true then (0 : Int) else 4) = 4 := by rw [hmv, h1]; rfl
        cbv
        repeat' (refine Ob.mk ?_ ?_; (focus (first | exact hA _ | exact hB _ | exact hcd.symm | exact rfl | exact hA _ | exact hB _ | trace_state)); cbv)
      · have h1 : okS (mvTo L0 (c ⟨⟩).toNat g 4) = true := by
          rw [← heta]
          exact nbf h
        have hres : resS (moveS [(e 0 ⟨⟩, m 0 ⟨⟩), (e 1 ⟨⟩, m 1 ⟨⟩), (e 2 ⟨⟩, m 2 ⟨⟩), (e 3 ⟨⟩, m 3 ⟨⟩), (e 4 ⟨⟩, m 4 ⟨⟩), (e 5 ⟨⟩, m 5 ⟨⟩), (e 6 ⟨⟩, m 6 ⟨⟩), (e 7 ⟨⟩, m 7 ⟨⟩), (e 8 ⟨⟩, m 8 ⟨⟩), (e 9 ⟨⟩, m 9 ⟨⟩), (e 10 ⟨⟩, m 10 ⟨⟩), (e 11 ⟨⟩, m 11 ⟨⟩), (e 12 ⟨⟩, m 12 ⟨⟩), (e 13 ⟨⟩, m 13 ⟨⟩), (e 14 ⟨⟩, m 14 ⟨⟩), (e 15 ⟨⟩, m 15 ⟨⟩)] (c ⟨⟩).toNat (b1 ⟨⟩, b2 ⟨⟩)) = mvTo L0 (c ⟨⟩).toNat g 4 := by rw [hmv]; exact resS_t h1
        have hA : ∀ i, ((mvTo L0 (c ⟨⟩).toNat g 4).getD i (0, 0)).1 = ((resS (moveS [(e 0 ⟨⟩, m 0 ⟨⟩), (e 1 ⟨⟩, m 1 ⟨⟩), (e 2 ⟨⟩, m 2 ⟨⟩), (e 3 ⟨⟩, m 3 ⟨⟩), (e 4 ⟨⟩, m 4 ⟨⟩), (e 5 ⟨⟩, m 5 ⟨⟩), (e 6 ⟨⟩, m 6 ⟨⟩), (e 7 ⟨⟩, m 7 ⟨⟩), (e 8 ⟨⟩, m 8 ⟨⟩), (e 9 ⟨⟩, m 9 ⟨⟩), (e 10 ⟨⟩, m 10 ⟨⟩), (e 11 ⟨⟩, m 11 ⟨⟩), (e 12 ⟨⟩, m 12 ⟨⟩), (e 13 ⟨⟩, m 13 ⟨⟩), (e 14 ⟨⟩, m 14 ⟨⟩), (e 15 ⟨⟩, m 15 ⟨⟩)] (c ⟨⟩).toNat (b1 ⟨⟩, b2 ⟨⟩))).getD i (0, 0)).1 := fun i => by rw [hres]
        have hB : ∀ i, ((mvTo L0 (c ⟨⟩).toNat g 4).getD i (0, 0)).2 = ((resS (moveS [(e 0 ⟨⟩, m 0 ⟨⟩), (e 1 ⟨⟩, m 1 ⟨⟩), (e 2 ⟨⟩, m 2 ⟨⟩), (e 3 ⟨⟩, m 3 ⟨⟩), (e 4 ⟨⟩, m 4 ⟨⟩), (e 5 ⟨⟩, m 5 ⟨⟩), (e 6 ⟨⟩, m 6 ⟨⟩), (e 7 ⟨⟩, m 7 ⟨⟩), (e 8 ⟨⟩, m 8 ⟨⟩), (e 9 ⟨⟩, m 9 ⟨⟩), (e 10 ⟨⟩, m 10 ⟨⟩), (e 11 ⟨⟩, m 11 ⟨⟩), (e 12 ⟨⟩, m 12 ⟨⟩), (e 13 ⟨⟩, m 13 ⟨⟩), (e 14 ⟨⟩, m 14 ⟨⟩), (e 15 ⟨⟩, m 15 ⟨⟩)] (c ⟨⟩).toNat (b1 ⟨⟩, b2 ⟨⟩))).getD i (0, 0)).2 := fun i => by rw [hres]
        have hcd : (if okS (moveS [(e 0 ⟨⟩, m 0 ⟨⟩), (e 1 ⟨⟩, m 1 ⟨⟩), (e 2 ⟨⟩, m 2 ⟨⟩), (e 3 ⟨⟩, m 3 ⟨⟩), (e 4 ⟨⟩, m 4 ⟨⟩), (e 5 ⟨⟩, m 5 ⟨⟩), (e 6 ⟨⟩, m 6 ⟨⟩), (e 7 ⟨⟩, m 7 ⟨⟩), (e 8 ⟨⟩, m 8 ⟨⟩), (e 9 ⟨⟩, m 9 ⟨⟩), (e 10 ⟨⟩, m 10 ⟨⟩), (e 11 ⟨⟩, m 11 ⟨⟩), (e 12 ⟨⟩, m 12 ⟨⟩), (e 13 ⟨⟩, m 13 ⟨⟩), (e 14 ⟨⟩, m 14 ⟨⟩), (e 15 ⟨⟩, m 15 ⟨⟩)] (c ⟨⟩).toNat (b1 ⟨⟩, b2 ⟨⟩)) = true then (0 : Int) else 4) = 0 := by rw [hmv, h1]; rfl
        cbv
        repeat' (refine Ob.mk ?_ ?_; (focus (first | exact hA _ | exact hB _ | exact hcd.symm | exact rfl | (rw [hlk]; decide) | exact hA _ | exact hB _ | trace_state)); cbv)
    · cases hs
  · cases hs
end
section
theorem fn28 : FnOk Try.prog 28 Try.f28 (bodyOf Try.f28) := ⟨Try.func28, rfl, by rfl⟩
def s28 : Spec := hspec fun args H => match args, H with
  | [.a cs, .c (.i .i64 (.x c)), .c (.z .f32 b1 b2)], [] => match cxsOf cs with
    | some q => some (.t [.a [.z .f32 (fun _ => ((resS (moveS (forced q) (c ()).toNat (b1 (), b2 ()))).getD 0 (0, 0)).1) (fun _ => ((resS (moveS (forced q) (c ()).toNat (b1 (), b2 ()))).getD 0 (0, 0)).2), .z .f32 (fun _ => ((resS (moveS (forced q) (c ()).toNat (b1 (), b2 ()))).getD 1 (0, 0)).1) (fun _ => ((resS (moveS (forced q) (c ()).toNat (b1 (), b2 ()))).getD 1 (0, 0)).2), .z .f32 (fun _ => ((resS (moveS (forced q) (c ()).toNat (b1 (), b2 ()))).getD 2 (0, 0)).1) (fun _ => ((resS (moveS (forced q) (c ()).toNat (b1 (), b2 ()))).getD 2 (0, 0)).2), .z .f32 (fun _ => ((resS (moveS (forced q) (c ()).toNat (b1 (), b2 ()))).getD 3 (0, 0)).1) (fun _ => ((resS (moveS (forced q) (c ()).toNat (b1 (), b2 ()))).getD 3 (0, 0)).2), .z .f32 (fun _ => ((resS (moveS (forced q) (c ()).toNat (b1 (), b2 ()))).getD 4 (0, 0)).1) (fun _ => ((resS (moveS (forced q) (c ()).toNat (b1 (), b2 ()))).getD 4 (0, 0)).2), .z .f32 (fun _ => ((resS (moveS (forced q) (c ()).toNat (b1 (), b2 ()))).getD 5 (0, 0)).1) (fun _ => ((resS (moveS (forced q) (c ()).toNat (b1 (), b2 ()))).getD 5 (0, 0)).2), .z .f32 (fun _ => ((resS (moveS (forced q) (c ()).toNat (b1 (), b2 ()))).getD 6 (0, 0)).1) (fun _ => ((resS (moveS (forced q) (c ()).toNat (b1 (), b2 ()))).getD 6 (0, 0)).2), .z .f32 (fun _ => ((resS (moveS (forced q) (c ()).toNat (b1 (), b2 ()))).getD 7 (0, 0)).1) (fun _ => ((resS (moveS (forced q) (c ()).toNat (b1 (), b2 ()))).getD 7 (0, 0)).2), .z .f32 (fun _ => ((resS (moveS (forced q) (c ()).toNat (b1 (), b2 ()))).getD 8 (0, 0)).1) (fun _ => ((resS (moveS (forced q) (c ()).toNat (b1 (), b2 ()))).getD 8 (0, 0)).2), .z .f32 (fun _ => ((resS (moveS (forced q) (c ()).toNat (b1 (), b2 ()))).getD 9 (0, 0)).1) (fun _ => ((resS (moveS (forced q) (c ()).toNat (b1 (), b2 ()))).getD 9 (0, 0)).2), .z .f32 (fun _ => ((resS (moveS (forced q) (c ()).toNat (b1 (), b2 ()))).getD 10 (0, 0)).1) (fun _ => ((resS (moveS (forced q) (c ()).toNat (b1 (), b2 ()))).getD 10 (0, 0)).2), .z .f32 (fun _ => ((resS (moveS (forced q) (c ()).toNat (b1 (), b2 ()))).getD 11 (0, 0)).1) (fun _ => ((resS (moveS (forced q) (c ()).toNat (b1 (), b2 ()))).getD 11 (0, 0)).2), .z .f32 (fun _ => ((resS (moveS (forced q) (c ()).toNat (b1 (), b2 ()))).getD 12 (0, 0)).1) (fun _ => ((resS (moveS (forced q) (c ()).toNat (b1 (), b2 ()))).getD 12 (0, 0)).2), .z .f32 (fun _ => ((resS (moveS (forced q) (c ()).toNat (b1 (), b2 ()))).getD 13 (0, 0)).1) (fun _ => ((resS (moveS (forced q) (c ()).toNat (b1 (), b2 ()))).getD 13 (0, 0)).2), .z .f32 (fun _ => ((resS (moveS (forced q) (c ()).toNat (b1 (), b2 ()))).getD 14 (0, 0)).1) (fun _ => ((resS (moveS (forced q) (c ()).toNat (b1 (), b2 ()))).getD 14 (0, 0)).2), .z .f32 (fun _ => ((resS (moveS (forced q) (c ()).toNat (b1 (), b2 ()))).getD 15 (0, 0)).1) (fun _ => ((resS (moveS (forced q) (c ()).toNat (b1 (), b2 ()))).getD 15 (0, 0)).2)], vI (if okS (moveS (forced q) (c ()).toNat (b1 (), b2 ())) = true then 0 else 4)], [], [fun _ => q.length = 16 ∧ okS (forced q) = true ∧ 0 ≤ c () ∧ c () ≤ 3])
    | none => none
  | _, _ => none
def E28 : Env := fun g => envGetL [(72, ⟨true, s72, none⟩)] g
theorem E28ok : EnvOk Try.prog E28 := envOk_cons ok72 (envOk_nil _)
set_option maxRecDepth 100000 in
set_option maxHeartbeats 1000000 in
theorem ok28 : Ok Try.prog 28 (s28) := ok_of_wpaH (E := E28) mixed tts E28ok fn28 fun args H v H' o hs ho => by
  split at hs
  · rename_i cs c b1 b2
    split at hs
    · rename_i q hq
      cases hs
      obtain ⟨hlen, hok, hc⟩ := ho.one
      obtain ⟨e, m, rfl, rfl⟩ := cx16 hq hlen
      clear hq hlen
      refine ⟨_, HLe.refl _, ?_⟩
      cbv
      repeat' (refine Ob.mk ?_ ?_; (focus (first | exact ⟨rfl, hok, hc⟩ | exact rfl)); cbv)
    · cases hs
  · cases hs
theorem fn14 : FnOk Try.prog 14 Try.f14 (bodyOf Try.f14) := ⟨Try.func14, rfl, by rfl⟩
def s14 : Spec := hspec fun args H => match args, H with
  | [.a cs, .c (.i .i64 (.x c))], [] => match cxsOf cs with
    | some q => some (.t [vI ((grS (forced q) (c ()).toNat 3).1 : Nat), F (grS (forced q) (c ()).toNat 3).2, vI 0], [], [fun _ => q.length = 16 ∧ okS (forced q) = true ∧ 0 ≤ c () ∧ c () ≤ 3])
    | none => none
  | _, _ => none
def E14 : Env := fun g => envGetL [(40, ⟨true, s40, none⟩), (42, ⟨true, s42, none⟩)] g
theorem E14ok : EnvOk Try.prog E14 := envOk_cons ok40 (envOk_cons ok42 (envOk_nil _))
set_option maxRecDepth 100000 in
set_option maxHeartbeats 1000000 in
theorem ok14 : Ok Try.prog 14 (s14) := ok_of_wpaH (E := E14) mixed tts E14ok fn14 fun args H v H' o hs ho => by
  split at hs
  · rename_i cs c
    split at hs
    · rename_i q hq
      cases hs
      obtain ⟨hlen, hok, hc⟩ := ho.one
      obtain ⟨e, m, rfl, rfl⟩ := cx16 hq hlen
      clear hq hlen
      have hok : okS [(e 0 ⟨⟩, m 0 ⟨⟩), (e 1 ⟨⟩, m 1 ⟨⟩), (e 2 ⟨⟩, m 2 ⟨⟩), (e 3 ⟨⟩, m 3 ⟨⟩), (e 4 ⟨⟩, m 4 ⟨⟩), (e 5 ⟨⟩, m 5 ⟨⟩), (e 6 ⟨⟩, m 6 ⟨⟩), (e 7 ⟨⟩, m 7 ⟨⟩), (e 8 ⟨⟩, m 8 ⟨⟩), (e 9 ⟨⟩, m 9 ⟨⟩), (e 10 ⟨⟩, m 10 ⟨⟩), (e 11 ⟨⟩, m 11 ⟨⟩), (e 12 ⟨⟩, m 12 ⟨⟩), (e 13 ⟨⟩, m 13 ⟨⟩), (e 14 ⟨⟩, m 14 ⟨⟩), (e 15 ⟨⟩, m 15 ⟨⟩)] = true := hok
      have hcode : ((if okS [(e 0 ⟨⟩, m 0 ⟨⟩), (e 1 ⟨⟩, m 1 ⟨⟩), (e 2 ⟨⟩, m 2 ⟨⟩), (e 3 ⟨⟩, m 3 ⟨⟩), (e 4 ⟨⟩, m 4 ⟨⟩), (e 5 ⟨⟩, m 5 ⟨⟩), (e 6 ⟨⟩, m 6 ⟨⟩), (e 7 ⟨⟩, m 7 ⟨⟩), (e 8 ⟨⟩, m 8 ⟨⟩), (e 9 ⟨⟩, m 9 ⟨⟩), (e 10 ⟨⟩, m 10 ⟨⟩), (e 11 ⟨⟩, m 11 ⟨⟩), (e 12 ⟨⟩, m 12 ⟨⟩), (e 13 ⟨⟩, m 13 ⟨⟩), (e 14 ⟨⟩, m 14 ⟨⟩), (e 15 ⟨⟩, m 15 ⟨⟩)] = true then (0 : Int) else 1) != 0) = false := by rw [if_pos hok]; rfl
      refine ⟨_, HLe.refl _, ?_⟩
      cbv
      repeat' (refine Ob.mk ?_ ?_; (focus (first | exact rfl | exact ⟨rfl, rfl, rfl, hc.1, hc.2⟩)); cbv)
      refine Br.f hcode ?_
      cbv
      repeat' (refine Ob.mk ?_ ?_; (focus (first | exact ⟨rfl, hc⟩ | exact rfl)); cbv)
    · cases hs
  · cases hs
end
section
theorem mvTo_at (l : List M) (c : Nat) (f : M → M) : ∀ {k j : Nat}, k ≤ j → at2 (mvTo l c f k) (c * 4 + j) = at2 l (c * 4 + j)
  | 0, _, _ => rfl
  | k + 1, j, h => by
    show ((mvTo l c f k).set (c * 4 + k) _).getD (c * 4 + j) (0, 0) = _
    rw [List.getD_eq_getElem?_getD, List.getElem?_set_ne (by omega), ← List.getD_eq_getElem?_getD]
    exact mvTo_at l c f (by omega)
theorem fn39 : FnOk Try.prog 39 Try.f39 (bodyOf Try.f39) := ⟨Try.func39, rfl, by rfl⟩
def s39 : Spec := hspec fun args H => match args, H with
  | [.a cs, .c (.i .i64 (.x c)), .c (.z .f32 b1 b2)], [] => match cxsOf cs with
    | some q => some (.a [.z .f32 (fun _ => ((moveS (forced q) (c ()).toNat (b1 (), b2 ())).getD 0 (0, 0)).1) (fun _ => ((moveS (forced q) (c ()).toNat (b1 (), b2 ())).getD 0 (0, 0)).2), .z .f32 (fun _ => ((moveS (forced q) (c ()).toNat (b1 (), b2 ())).getD 1 (0, 0)).1) (fun _ => ((moveS (forced q) (c ()).toNat (b1 (), b2 ())).getD 1 (0, 0)).2), .z .f32 (fun _ => ((moveS (forced q) (c ()).toNat (b1 (), b2 ())).getD 2 (0, 0)).1) (fun _ => ((moveS (forced q) (c ()).toNat (b1 (), b2 ())).getD 2 (0, 0)).2), .z .f32 (fun _ => ((moveS (forced q) (c ()).toNat (b1 (), b2 ())).getD 3 (0, 0)).1) (fun _ => ((moveS (forced q) (c ()).toNat (b1 (), b2 ())).getD 3 (0, 0)).2), .z .f32 (fun _ => ((moveS (forced q) (c ()).toNat (b1 (), b2 ())).getD 4 (0, 0)).1) (fun _ => ((moveS (forced q) (c ()).toNat (b1 (), b2 ())).getD 4 (0, 0)).2), .z .f32 (fun _ => ((moveS (forced q) (c ()).toNat (b1 (), b2 ())).getD 5 (0, 0)).1) (fun _ => ((moveS (forced q) (c ()).toNat (b1 (), b2 ())).getD 5 (0, 0)).2), .z .f32 (fun _ => ((moveS (forced q) (c ()).toNat (b1 (), b2 ())).getD 6 (0, 0)).1) (fun _ => ((moveS (forced q) (c ()).toNat (b1 (), b2 ())).getD 6 (0, 0)).2), .z .f32 (fun _ => ((moveS (forced q) (c ()).toNat (b1 (), b2 ())).getD 7 (0, 0)).1) (fun _ => ((moveS (forced q) (c ()).toNat (b1 (), b2 ())).getD 7 (0, 0)).2), .z .f32 (fun _ => ((moveS (forced q) (c ()).toNat (b1 (), b2 ())).getD 8 (0, 0)).1) (fun _ => ((moveS (forced q) (c ()).toNat (b1 (), b2 ())).getD 8 (0, 0)).2), .z .f32 (fun _ => ((moveS (forced q) (c ()).toNat (b1 (), b2 ())).getD 9 (0, 0)).1) (fun _ => ((moveS (forced q) (c ()).toNat (b1 (), b2 ())).getD 9 (0, 0)).2), .z .f32 (fun _ => ((moveS (forced q) (c ()).toNat (b1 (), b2 ())).getD 10 (0, 0)).1) (fun _ => ((moveS (forced q) (c ()).toNat (b1 (), b2 ())).getD 10 (0, 0)).2), .z .f32 (fun _ => ((moveS (forced q) (c ()).toNat (b1 (), b2 ())).getD 11 (0, 0)).1) (fun _ => ((moveS (forced q) (c ()).toNat (b1 (), b2 ())).getD 11 (0, 0)).2), .z .f32 (fun _ => ((moveS (forced q) (c ()).toNat (b1 (), b2 ())).getD 12 (0, 0)).1) (fun _ => ((moveS (forced q) (c ()).toNat (b1 (), b2 ())).getD 12 (0, 0)).2), .z .f32 (fun _ => ((moveS (forced q) (c ()).toNat (b1 (), b2 ())).getD 13 (0, 0)).1) (fun _ => ((moveS (forced q) (c ()).toNat (b1 (), b2 ())).getD 13 (0, 0)).2), .z .f32 (fun _ => ((moveS (forced q) (c ()).toNat (b1 (), b2 ())).getD 14 (0, 0)).1) (fun _ => ((moveS (forced q) (c ()).toNat (b1 (), b2 ())).getD 14 (0, 0)).2), .z .f32 (fun _ => ((moveS (forced q) (c ()).toNat (b1 (), b2 ())).getD 15 (0, 0)).1) (fun _ => ((moveS (forced q) (c ()).toNat (b1 (), b2 ())).getD 15 (0, 0)).2)], [], [fun _ => q.length = 16 ∧ 0 ≤ c () ∧ c () ≤ 3])
    | none => none
  | _, _ => none
def E39 : Env := fun g => envGetL [(77, ⟨true, s77, none⟩)] g
theorem E39ok : EnvOk Try.prog E39 := envOk_cons ok77 (envOk_nil _)
set_option maxRecDepth 100000 in
set_option maxHeartbeats 2000000 in
theorem ok39 : Ok Try.prog 39 (s39) := ok_of_wpaH (E := E39) mixed tts E39ok fn39 fun args H v H' o hs ho => by
  split at hs
  · rename_i cs c b1 b2
    split at hs
    · rename_i q hq
      cases hs
      obtain ⟨hlen, hc⟩ := ho.one
      obtain ⟨e, m, rfl, rfl⟩ := cx16 hq hlen
      clear hq hlen
      have hc : 0 ≤ c ⟨⟩ ∧ c ⟨⟩ ≤ 3 := hc
      have hc4 : 0 ≤ c ⟨⟩ ∧ c ⟨⟩ < ((4 : Nat) : Int) := by omega
      obtain ⟨L0, hL0⟩ : ∃ L0 : List M, L0 = [(e 0 ⟨⟩, m 0 ⟨⟩), (e 1 ⟨⟩, m 1 ⟨⟩), (e 2 ⟨⟩, m 2 ⟨⟩), (e 3 ⟨⟩, m 3 ⟨⟩), (e 4 ⟨⟩, m 4 ⟨⟩), (e 5 ⟨⟩, m 5 ⟨⟩), (e 6 ⟨⟩, m 6 ⟨⟩), (e 7 ⟨⟩, m 7 ⟨⟩), (e 8 ⟨⟩, m 8 ⟨⟩), (e 9 ⟨⟩, m 9 ⟨⟩), (e 10 ⟨⟩, m 10 ⟨⟩), (e 11 ⟨⟩, m 11 ⟨⟩), (e 12 ⟨⟩, m 12 ⟨⟩), (e 13 ⟨⟩, m 13 ⟨⟩), (e 14 ⟨⟩, m 14 ⟨⟩), (e 15 ⟨⟩, m 15 ⟨⟩)] := ⟨_, rfl⟩
      obtain ⟨cn, hcn⟩ : ∃ cn : Nat, cn = (c ⟨⟩).toNat * 4 := ⟨_, rfl⟩
      obtain ⟨g, hg⟩ : ∃ g : M → M, g = fun m => plusM m (b1 ⟨⟩, b2 ⟨⟩) := ⟨_, rfl⟩
      have hl0 : L0.length = 16 := by rw [hL0]; rfl
      have hlk : ∀ k, (mvTo L0 (c ⟨⟩).toNat g k).length = 16 := fun k => by rw [mvTo_len, hl0]
      have hidx : ∀ k : Nat, k < 4 → cn + k < 16 := fun k hk => by omega
      have hidx2 : ∀ k : Nat, k < 4 → 0 + (c ⟨⟩).toNat * 4 + k < 16 := fun k hk => by omega
      have hstep : ∀ k, (mvTo L0 (c ⟨⟩).toNat g k).set (0 + (c ⟨⟩).toNat * 4 + k) ((plusM (at2 L0 (cn + k)) (b1 ⟨⟩, b2 ⟨⟩)).1, (plusM (at2 L0 (cn + k)) (b1 ⟨⟩, b2 ⟨⟩)).2) = mvTo L0 (c ⟨⟩).toNat g (k + 1) := fun k => by rw [Nat.zero_add, hg, hcn]; rfl
      have hidx20 : 0 + (c ⟨⟩).toNat * 4 < 16 := by omega
      have hmv : moveS [(e 0 ⟨⟩, m 0 ⟨⟩), (e 1 ⟨⟩, m 1 ⟨⟩), (e 2 ⟨⟩, m 2 ⟨⟩), (e 3 ⟨⟩, m 3 ⟨⟩), (e 4 ⟨⟩, m 4 ⟨⟩), (e 5 ⟨⟩, m 5 ⟨⟩), (e 6 ⟨⟩, m 6 ⟨⟩), (e 7 ⟨⟩, m 7 ⟨⟩), (e 8 ⟨⟩, m 8 ⟨⟩), (e 9 ⟨⟩, m 9 ⟨⟩), (e 10 ⟨⟩, m 10 ⟨⟩), (e 11 ⟨⟩, m 11 ⟨⟩), (e 12 ⟨⟩, m 12 ⟨⟩), (e 13 ⟨⟩, m 13 ⟨⟩), (e 14 ⟨⟩, m 14 ⟨⟩), (e 15 ⟨⟩, m 15 ⟨⟩)] (c ⟨⟩).toNat (b1 ⟨⟩, b2 ⟨⟩) = mvTo L0 (c ⟨⟩).toNat g 4 := by rw [hL0, hg]; rfl
      have hst2 : ∀ k, (mvTo L0 (c ⟨⟩).toNat g k).set (0 + (c ⟨⟩).toNat * 4 + k) ((plusM (at2 (mvTo L0 (c ⟨⟩).toNat g k) (0 + (c ⟨⟩).toNat * 4 + k)) (b1 ⟨⟩, b2 ⟨⟩)).1, (plusM (at2 (mvTo L0 (c ⟨⟩).toNat g k) (0 + (c ⟨⟩).toNat * 4 + k)) (b1 ⟨⟩, b2 ⟨⟩)).2) = mvTo L0 (c ⟨⟩).toNat g (k + 1) := fun k => by rw [Nat.zero_add, mvTo_at L0 _ g (Nat.le_refl k)]; show _ = (mvTo L0 (c ⟨⟩).toNat g k).set ((c ⟨⟩).toNat * 4 + k) (g (at2 L0 ((c ⟨⟩).toNat * 4 + k))); rw [hg]
      have hA : ∀ i, ((mvTo L0 (c ⟨⟩).toNat g 4).getD i (0, 0)).1 = ((moveS [(e 0 ⟨⟩, m 0 ⟨⟩), (e 1 ⟨⟩, m 1 ⟨⟩), (e 2 ⟨⟩, m 2 ⟨⟩), (e 3 ⟨⟩, m 3 ⟨⟩), (e 4 ⟨⟩, m 4 ⟨⟩), (e 5 ⟨⟩, m 5 ⟨⟩), (e 6 ⟨⟩, m 6 ⟨⟩), (e 7 ⟨⟩, m 7 ⟨⟩), (e 8 ⟨⟩, m 8 ⟨⟩), (e 9 ⟨⟩, m 9 ⟨⟩), (e 10 ⟨⟩, m 10 ⟨⟩), (e 11 ⟨⟩, m 11 ⟨⟩), (e 12 ⟨⟩, m 12 ⟨⟩), (e 13 ⟨⟩, m 13 ⟨⟩), (e 14 ⟨⟩, m 14 ⟨⟩), (e 15 ⟨⟩, m 15 ⟨⟩)] (c ⟨⟩).toNat (b1 ⟨⟩, b2 ⟨⟩)).getD i (0, 0)).1 := fun i => by rw [hmv]
      have hB : ∀ i, ((mvTo L0 (c ⟨⟩).toNat g 4).getD i (0, 0)).2 = ((moveS [(e 0 ⟨⟩, m 0 ⟨⟩), (e 1 ⟨⟩, m 1 ⟨⟩), (e 2 ⟨⟩, m 2 ⟨⟩), (e 3 ⟨⟩, m 3 ⟨⟩), (e 4 ⟨⟩, m 4 ⟨⟩), (e 5 ⟨⟩, m 5 ⟨⟩), (e 6 ⟨⟩, m 6 ⟨⟩), (e 7 ⟨⟩, m 7 ⟨⟩), (e 8 ⟨⟩, m 8 ⟨⟩), (e 9 ⟨⟩, m 9 ⟨⟩), (e 10 ⟨⟩, m 10 ⟨⟩), (e 11 ⟨⟩, m 11 ⟨⟩), (e 12 ⟨⟩, m 12 ⟨⟩), (e 13 ⟨⟩, m 13 ⟨⟩), (e 14 ⟨⟩, m 14 ⟨⟩), (e 15 ⟨⟩, m 15 ⟨⟩)] (c ⟨⟩).toNat (b1 ⟨⟩, b2 ⟨⟩)).getD i (0, 0)).2 := fun i => by rw [hmv]
      clear ho
      refine ⟨_, HLe.refl _, ?_⟩
      cbv
      refine Loop.mk 70 ?_
      cbv
      refine Gen.mk (fr 24 [(1, .c (.i .i64 (.x c))), (2, .c (.z .f32 b1 b2)), (3, .c (.p 0 (.l 0))), (6, .c (.p 1 (.l 0))), (7, .c (.i .i64 (.l 0)))]) [some ⟨true, 0, .cx fun _ => mvTo L0 (c ⟨⟩).toNat g 0⟩, some ⟨true, 0, .lit [.z .f32 (fun _ => 0) (fun _ => 0), .z .f32 (fun _ => 0) (fun _ => 0), .z .f32 (fun _ => 0) (fun _ => 0), .z .f32 (fun _ => 0) (fun _ => 0), .z .f32 (fun _ => 0) (fun _ => 0), .z .f32 (fun _ => 0) (fun _ => 0), .z .f32 (fun _ => 0) (fun _ => 0), .z .f32 (fun _ => 0) (fun _ => 0), .z .f32 (fun _ => 0) (fun _ => 0), .z .f32 (fun _ => 0) (fun _ => 0), .z .f32 (fun _ => 0) (fun _ => 0), .z .f32 (fun _ => 0) (fun _ => 0), .z .f32 (fun _ => 0) (fun _ => 0), .z .f32 (fun _ => 0) (fun _ => 0), .z .f32 (fun _ => 0) (fun _ => 0), .z .f32 (fun _ => 0) (fun _ => 0)]⟩] ?_
      cbv
      repeat' (refine Ob.mk ?_ ?_; (focus (first | exact rfl | exact hst2 0 | exact hst2 1 | exact hst2 2 | exact hst2 3 | (rw [hL0]; rfl))); cbv)
      repeat' first
        | (refine Ob.mk ?_ ?_; (focus (first | exact hc4 | exact rfl | (dsimp only [IE.val, NE.val, IE.nat]; rw [hlk]; omega) | (dsimp only [IE.val, NE.val, IE.nat]; simp only [hlk]; omega))); cbv)
        | (refine Lex.tail 11 (by decide +kernel) ?_; cbv)
      refine Gen.mk (fr 24 [(1, .c (.i .i64 (.x c))), (2, .c (.z .f32 b1 b2)), (3, .c (.p 0 (.l 0))), (6, .c (.p 1 (.l 0))), (7, .c (.i .i64 (.l 1)))]) [some ⟨true, 0, .cx fun _ => mvTo L0 (c ⟨⟩).toNat g 1⟩, some ⟨true, 0, .lit [.z .f32 (fun _ => 0) (fun _ => 0), .z .f32 (fun _ => 0) (fun _ => 0), .z .f32 (fun _ => 0) (fun _ => 0), .z .f32 (fun _ => 0) (fun _ => 0), .z .f32 (fun _ => 0) (fun _ => 0), .z .f32 (fun _ => 0) (fun _ => 0), .z .f32 (fun _ => 0) (fun _ => 0), .z .f32 (fun _ => 0) (fun _ => 0), .z .f32 (fun _ => 0) (fun _ => 0), .z .f32 (fun _ => 0) (fun _ => 0), .z .f32 (fun _ => 0) (fun _ => 0), .z .f32 (fun _ => 0) (fun _ => 0), .z .f32 (fun _ => 0) (fun _ => 0), .z .f32 (fun _ => 0) (fun _ => 0), .z .f32 (fun _ => 0) (fun _ => 0), .z .f32 (fun _ => 0) (fun _ => 0)]⟩] ?_
      cbv
      repeat' (refine Ob.mk ?_ ?_; (focus (first | exact rfl | exact hst2 0 | exact hst2 1 | exact hst2 2 | exact hst2 3 | (rw [hL0]; rfl))); cbv)
      repeat' first
        | (refine Ob.mk ?_ ?_; (focus (first | exact hc4 | exact rfl | (dsimp only [IE.val, NE.val, IE.nat]; rw [hlk]; omega) | (dsimp only [IE.val, NE.val, IE.nat]; simp only [hlk]; omega))); cbv)
        | (refine Lex.tail 11 (by decide +kernel) ?_; cbv)
      refine Gen.mk (fr 24 [(1, .c (.i .i64 (.x c))), (2, .c (.z .f32 b1 b2)), (3, .c (.p 0 (.l 0))), (6, .c (.p 1 (.l 0))), (7, .c (.i .i64 (.l 2)))]) [some ⟨true, 0, .cx fun _ => mvTo L0 (c ⟨⟩).toNat g 2⟩, some ⟨true, 0, .lit [.z .f32 (fun _ => 0) (fun _ => 0), .z .f32 (fun _ => 0) (fun _ => 0), .z .f32 (fun _ => 0) (fun _ => 0), .z .f32 (fun _ => 0) (fun _ => 0), .z .f32 (fun _ => 0) (fun _ => 0), .z .f32 (fun _ => 0) (fun _ => 0), .z .f32 (fun _ => 0) (fun _ => 0), .z .f32 (fun _ => 0) (fun _ => 0), .z .f32 (fun _ => 0) (fun _ => 0), .z .f32 (fun _ => 0) (fun _ => 0), .z .f32 (fun _ => 0) (fun _ => 0), .z .f32 (fun _ => 0) (fun _ => 0), .z .f32 (fun _ => 0) (fun _ => 0), .z .f32 (fun _ => 0) (fun _ => 0), .z .f32 (fun _ => 0) (fun _ => 0), .z .f32 (fun _ => 0) (fun _ => 0)]⟩] ?_
      cbv
      repeat' (refine Ob.mk ?_ ?_; (focus (first | exact rfl | exact hst2 0 | exact hst2 1 | exact hst2 2 | exact hst2 3 | (rw [hL0]; rfl))); cbv)
      repeat' first
        | (refine Ob.mk ?_ ?_; (focus (first | exact hc4 | exact rfl | (dsimp only [IE.val, NE.val, IE.nat]; rw [hlk]; omega) | (dsimp only [IE.val, NE.val, IE.nat]; simp only [hlk]; omega))); cbv)
        | (refine Lex.tail 11 (by decide +kernel) ?_; cbv)
      refine Gen.mk (fr 24 [(1, .c (.i .i64 (.x c))), (2, .c (.z .f32 b1 b2)), (3, .c (.p 0 (.l 0))), (6, .c (.p 1 (.l 0))), (7, .c (.i .i64 (.l 3)))]) [some ⟨true, 0, .cx fun _ => mvTo L0 (c ⟨⟩).toNat g 3⟩, some ⟨true, 0, .lit [.z .f32 (fun _ => 0) (fun _ => 0), .z .f32 (fun _ => 0) (fun _ => 0), .z .f32 (fun _ => 0) (fun _ => 0), .z .f32 (fun _ => 0) (fun _ => 0), .z .f32 (fun _ => 0) (fun _ => 0), .z .f32 (fun _ => 0) (fun _ => 0), .z .f32 (fun _ => 0) (fun _ => 0), .z .f32 (fun _ => 0) (fun _ => 0), .z .f32 (fun _ => 0) (fun _ => 0), .z .f32 (fun _ => 0) (fun _ => 0), .z .f32 (fun _ => 0) (fun _ => 0), .z .f32 (fun _ => 0) (fun _ => 0), .z .f32 (fun _ => 0) (fun _ => 0), .z .f32 (fun _ => 0) (fun _ => 0), .z .f32 (fun _ => 0) (fun _ => 0), .z .f32 (fun _ => 0) (fun _ => 0)]⟩] ?_
      cbv
      repeat' (refine Ob.mk ?_ ?_; (focus (first | exact rfl | exact hst2 0 | exact hst2 1 | exact hst2 2 | exact hst2 3 | (rw [hL0]; rfl))); cbv)
      repeat' first
        | (refine Ob.mk ?_ ?_; (focus (first | exact hc4 | exact rfl | (dsimp only [IE.val, NE.val, IE.nat]; rw [hlk]; omega) | (dsimp only [IE.val, NE.val, IE.nat]; simp only [hlk]; omega))); cbv)
        | (refine Lex.tail 11 (by decide +kernel) ?_; cbv)
      refine Gen.mk (fr 24 [(1, .c (.i .i64 (.x c))), (2, .c (.z .f32 b1 b2)), (3, .c (.p 0 (.l 0))), (6, .c (.p 1 (.l 0))), (7, .c (.i .i64 (.l 4)))]) [some ⟨true, 0, .cx fun _ => mvTo L0 (c ⟨⟩).toNat g 4⟩, some ⟨true, 0, .lit [.z .f32 (fun _ => 0) (fun _ => 0), .z .f32 (fun _ => 0) (fun _ => 0), .z .f32 (fun _ => 0) (fun _ => 0), .z .f32 (fun _ => 0) (fun _ => 0), .z .f32 (fun _ => 0) (fun _ => 0), .z .f32 (fun _ => 0) (fun _ => 0), .z .f32 (fun _ => 0) (fun _ => 0), .z .f32 (fun _ => 0) (fun _ => 0), .z .f32 (fun _ => 0) (fun _ => 0), .z .f32 (fun _ => 0) (fun _ => 0), .z .f32 (fun _ => 0) (fun _ => 0), .z .f32 (fun _ => 0) (fun _ => 0), .z .f32 (fun _ => 0) (fun _ => 0), .z .f32 (fun _ => 0) (fun _ => 0), .z .f32 (fun _ => 0) (fun _ => 0), .z .f32 (fun _ => 0) (fun _ => 0)]⟩] ?_
      cbv
      repeat' (refine Ob.mk ?_ ?_; (focus (first | exact rfl | exact hst2 0 | exact hst2 1 | exact hst2 2 | exact hst2 3 | (rw [hL0]; rfl))); cbv)
      repeat' (refine Ob.mk ?_ ?_; (focus (first | exact hA _ | exact hB _ | exact rfl | (rw [hlk]; decide))); cbv)
    · cases hs
  · cases hs
end
end Go.Proofs.Ytanndlifpojenaa.Sh
