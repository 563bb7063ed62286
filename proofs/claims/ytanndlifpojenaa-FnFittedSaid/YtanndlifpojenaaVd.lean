/- What the moved sheets and the draws of this seat compute, each shown once. No condition. -/
import Derived.Test.YtanndlifpojenaaVc
set_option linter.unusedVariables false
set_option linter.unusedSimpArgs false
set_option linter.unusedSectionVars false
namespace Go.Proofs.Ytanndlifpojenaa.Sh
open Go Go.Proofs
section
theorem set16 {l r : List M} (hl : l.length = 16) (hr : r.length = 16) : ((((((((((((((((l).set 0 ((r.getD 0 (0, 0)).1, (r.getD 0 (0, 0)).2)).set 1 ((r.getD 1 (0, 0)).1, (r.getD 1 (0, 0)).2)).set 2 ((r.getD 2 (0, 0)).1, (r.getD 2 (0, 0)).2)).set 3 ((r.getD 3 (0, 0)).1, (r.getD 3 (0, 0)).2)).set 4 ((r.getD 4 (0, 0)).1, (r.getD 4 (0, 0)).2)).set 5 ((r.getD 5 (0, 0)).1, (r.getD 5 (0, 0)).2)).set 6 ((r.getD 6 (0, 0)).1, (r.getD 6 (0, 0)).2)).set 7 ((r.getD 7 (0, 0)).1, (r.getD 7 (0, 0)).2)).set 8 ((r.getD 8 (0, 0)).1, (r.getD 8 (0, 0)).2)).set 9 ((r.getD 9 (0, 0)).1, (r.getD 9 (0, 0)).2)).set 10 ((r.getD 10 (0, 0)).1, (r.getD 10 (0, 0)).2)).set 11 ((r.getD 11 (0, 0)).1, (r.getD 11 (0, 0)).2)).set 12 ((r.getD 12 (0, 0)).1, (r.getD 12 (0, 0)).2)).set 13 ((r.getD 13 (0, 0)).1, (r.getD 13 (0, 0)).2)).set 14 ((r.getD 14 (0, 0)).1, (r.getD 14 (0, 0)).2)).set 15 ((r.getD 15 (0, 0)).1, (r.getD 15 (0, 0)).2) = r := by
  match l, hl, r, hr with
  | [a0, a1, a2, a3, a4, a5, a6, a7, a8, a9, a10, a11, a12, a13, a14, a15], _, [b0, b1, b2, b3, b4, b5, b6, b7, b8, b9, b10, b11, b12, b13, b14, b15], _ => rfl
theorem corr_hit {c sh w n : Nat} {l : List M} (h : fcmp .leq .f32 (grS l c 3).2 w = true) : ∀ m, corrK c sh w m n l = (0, n, l)
  | 0 => by unfold corrK; rw [if_pos h]
  | m + 1 => by unfold corrK; rw [if_pos h]
theorem corr_end {c sh w n : Nat} {l : List M} (h : fcmp .leq .f32 (grS l c 3).2 w = false) : corrK c sh w 0 n l = (7, 0, noS) := by
  unfold corrK; rw [if_neg (by rw [h]; decide)]
theorem corr_stop {c sh w n m : Nat} {l : List M} (h : fcmp .leq .f32 (grS l c 3).2 w = false) (k : okS (nextS l c sh) = false) : corrK c sh w (m + 1) n l = (4, 0, noS) := by
  unfold corrK; rw [if_neg (by rw [h]; decide), if_neg (by rw [k]; decide)]
theorem corr_next {c sh w n m : Nat} {l : List M} (h : fcmp .leq .f32 (grS l c 3).2 w = false) (k : okS (nextS l c sh) = true) : corrK c sh w (m + 1) n l = corrK c sh w m (n + 1) (nextS l c sh) := by
  conv => lhs; unfold corrK
  rw [if_neg (by rw [h]; decide), if_pos k]
theorem nextS_len (l : List M) (c sh : Nat) : (nextS l c sh).length = l.length := moveS_len _ _ _
theorem eqz_t {a b : Int} (h : a = b) : (a == b) = true := by subst h; simp
theorem eqz_f {a b : Int} (h : ¬ a = b) : (a == b) = false := by simpa using h
theorem ntf {b : Bool} (h : b = true) : (!b) = false := by rw [h]; rfl
theorem fn9 : FnOk Try.prog 9 Try.f9 (bodyOf Try.f9) := ⟨Try.func9, rfl, by rfl⟩
def s9 : Spec := hspec fun args H => match args, H with
  | [.a cs, .c (.i .i64 (.x c)), .c (.f .f32 sh), .c (.f .f32 w), .c (.i .i64 (.x mo))], [] => match cxsOf cs with
    | some q => some (.t [.a [.z .f32 (fun _ => (((corrK (c ()).toNat (sh ()) (w ()) (mo ()).toNat 0 (forced q)).2.2).getD 0 (0, 0)).1) (fun _ => (((corrK (c ()).toNat (sh ()) (w ()) (mo ()).toNat 0 (forced q)).2.2).getD 0 (0, 0)).2), .z .f32 (fun _ => (((corrK (c ()).toNat (sh ()) (w ()) (mo ()).toNat 0 (forced q)).2.2).getD 1 (0, 0)).1) (fun _ => (((corrK (c ()).toNat (sh ()) (w ()) (mo ()).toNat 0 (forced q)).2.2).getD 1 (0, 0)).2), .z .f32 (fun _ => (((corrK (c ()).toNat (sh ()) (w ()) (mo ()).toNat 0 (forced q)).2.2).getD 2 (0, 0)).1) (fun _ => (((corrK (c ()).toNat (sh ()) (w ()) (mo ()).toNat 0 (forced q)).2.2).getD 2 (0, 0)).2), .z .f32 (fun _ => (((corrK (c ()).toNat (sh ()) (w ()) (mo ()).toNat 0 (forced q)).2.2).getD 3 (0, 0)).1) (fun _ => (((corrK (c ()).toNat (sh ()) (w ()) (mo ()).toNat 0 (forced q)).2.2).getD 3 (0, 0)).2), .z .f32 (fun _ => (((corrK (c ()).toNat (sh ()) (w ()) (mo ()).toNat 0 (forced q)).2.2).getD 4 (0, 0)).1) (fun _ => (((corrK (c ()).toNat (sh ()) (w ()) (mo ()).toNat 0 (forced q)).2.2).getD 4 (0, 0)).2), .z .f32 (fun _ => (((corrK (c ()).toNat (sh ()) (w ()) (mo ()).toNat 0 (forced q)).2.2).getD 5 (0, 0)).1) (fun _ => (((corrK (c ()).toNat (sh ()) (w ()) (mo ()).toNat 0 (forced q)).2.2).getD 5 (0, 0)).2), .z .f32 (fun _ => (((corrK (c ()).toNat (sh ()) (w ()) (mo ()).toNat 0 (forced q)).2.2).getD 6 (0, 0)).1) (fun _ => (((corrK (c ()).toNat (sh ()) (w ()) (mo ()).toNat 0 (forced q)).2.2).getD 6 (0, 0)).2), .z .f32 (fun _ => (((corrK (c ()).toNat (sh ()) (w ()) (mo ()).toNat 0 (forced q)).2.2).getD 7 (0, 0)).1) (fun _ => (((corrK (c ()).toNat (sh ()) (w ()) (mo ()).toNat 0 (forced q)).2.2).getD 7 (0, 0)).2), .z .f32 (fun _ => (((corrK (c ()).toNat (sh ()) (w ()) (mo ()).toNat 0 (forced q)).2.2).getD 8 (0, 0)).1) (fun _ => (((corrK (c ()).toNat (sh ()) (w ()) (mo ()).toNat 0 (forced q)).2.2).getD 8 (0, 0)).2), .z .f32 (fun _ => (((corrK (c ()).toNat (sh ()) (w ()) (mo ()).toNat 0 (forced q)).2.2).getD 9 (0, 0)).1) (fun _ => (((corrK (c ()).toNat (sh ()) (w ()) (mo ()).toNat 0 (forced q)).2.2).getD 9 (0, 0)).2), .z .f32 (fun _ => (((corrK (c ()).toNat (sh ()) (w ()) (mo ()).toNat 0 (forced q)).2.2).getD 10 (0, 0)).1) (fun _ => (((corrK (c ()).toNat (sh ()) (w ()) (mo ()).toNat 0 (forced q)).2.2).getD 10 (0, 0)).2), .z .f32 (fun _ => (((corrK (c ()).toNat (sh ()) (w ()) (mo ()).toNat 0 (forced q)).2.2).getD 11 (0, 0)).1) (fun _ => (((corrK (c ()).toNat (sh ()) (w ()) (mo ()).toNat 0 (forced q)).2.2).getD 11 (0, 0)).2), .z .f32 (fun _ => (((corrK (c ()).toNat (sh ()) (w ()) (mo ()).toNat 0 (forced q)).2.2).getD 12 (0, 0)).1) (fun _ => (((corrK (c ()).toNat (sh ()) (w ()) (mo ()).toNat 0 (forced q)).2.2).getD 12 (0, 0)).2), .z .f32 (fun _ => (((corrK (c ()).toNat (sh ()) (w ()) (mo ()).toNat 0 (forced q)).2.2).getD 13 (0, 0)).1) (fun _ => (((corrK (c ()).toNat (sh ()) (w ()) (mo ()).toNat 0 (forced q)).2.2).getD 13 (0, 0)).2), .z .f32 (fun _ => (((corrK (c ()).toNat (sh ()) (w ()) (mo ()).toNat 0 (forced q)).2.2).getD 14 (0, 0)).1) (fun _ => (((corrK (c ()).toNat (sh ()) (w ()) (mo ()).toNat 0 (forced q)).2.2).getD 14 (0, 0)).2), .z .f32 (fun _ => (((corrK (c ()).toNat (sh ()) (w ()) (mo ()).toNat 0 (forced q)).2.2).getD 15 (0, 0)).1) (fun _ => (((corrK (c ()).toNat (sh ()) (w ()) (mo ()).toNat 0 (forced q)).2.2).getD 15 (0, 0)).2)], vI ((corrK (c ()).toNat (sh ()) (w ()) (mo ()).toNat 0 (forced q)).2.1 : Nat), vI (corrK (c ()).toNat (sh ()) (w ()) (mo ()).toNat 0 (forced q)).1], [], [fun _ => q.length = 16 ∧ okS (forced q) = true ∧ (0 ≤ c () ∧ c () ≤ 3) ∧ isIn (sh ()) 0 1073741824 = true ∧ isIn (w ()) 0 1166016512 = true ∧ 0 ≤ mo () ∧ mo () ≤ 200])
    | none => none
  | _, _ => none
def E9 : Env := fun g => envGetL [(40, ⟨true, s40, none⟩), (41, ⟨true, s41, none⟩), (42, ⟨true, s42, none⟩), (43, ⟨true, s43, none⟩), (44, ⟨true, s44, none⟩), (45, ⟨true, s45, none⟩), (46, ⟨true, s46, none⟩), (47, ⟨true, s47, none⟩), (28, ⟨true, s28, none⟩)] g
theorem E9ok : EnvOk Try.prog E9 := envOk_cons ok40 (envOk_cons ok41 (envOk_cons ok42 (envOk_cons ok43 (envOk_cons ok44 (envOk_cons ok45 (envOk_cons ok46 (envOk_cons ok47 (envOk_cons ok28 (envOk_nil _)))))))))
set_option maxRecDepth 100000 in
set_option maxHeartbeats 4000000 in
theorem ok9 : Ok Try.prog 9 (s9) := ok_of_wpaH (E := E9) mixed tts E9ok fn9 fun args H v H' o hs ho => by
  split at hs
  · rename_i cs c sh w mo
    split at hs
    · rename_i q hq
      cases hs
      obtain ⟨hlen, hok, hc, hsh, hw, hmo⟩ := ho.one
      obtain ⟨e, m, rfl, rfl⟩ := cx16 hq hlen
      clear hq hlen
      have hok : okS [(e 0 ⟨⟩, m 0 ⟨⟩), (e 1 ⟨⟩, m 1 ⟨⟩), (e 2 ⟨⟩, m 2 ⟨⟩), (e 3 ⟨⟩, m 3 ⟨⟩), (e 4 ⟨⟩, m 4 ⟨⟩), (e 5 ⟨⟩, m 5 ⟨⟩), (e 6 ⟨⟩, m 6 ⟨⟩), (e 7 ⟨⟩, m 7 ⟨⟩), (e 8 ⟨⟩, m 8 ⟨⟩), (e 9 ⟨⟩, m 9 ⟨⟩), (e 10 ⟨⟩, m 10 ⟨⟩), (e 11 ⟨⟩, m 11 ⟨⟩), (e 12 ⟨⟩, m 12 ⟨⟩), (e 13 ⟨⟩, m 13 ⟨⟩), (e 14 ⟨⟩, m 14 ⟨⟩), (e 15 ⟨⟩, m 15 ⟨⟩)] = true := hok
      have hc : 0 ≤ c ⟨⟩ ∧ c ⟨⟩ ≤ 3 := hc
      have hmo : 0 ≤ mo ⟨⟩ ∧ mo ⟨⟩ ≤ 200 := hmo
      have hw : isIn (w ⟨⟩) 0 1166016512 = true := hw
      have hs1 : fcmp .geq .f32 (sh ⟨⟩) 0 = true := (Bool.and_eq_true_iff.1 hsh).1
      have hs2 : fcmp .leq .f32 (sh ⟨⟩) 1073741824 = true := (Bool.and_eq_true_iff.1 hsh).2
      have hm1 : ltB (mo ⟨⟩) 0 = false := ltB_no.2 (Int.not_lt.2 hmo.1)
      have hm2 : ltB 200 (mo ⟨⟩) = false := ltB_no.2 (Int.not_lt.2 hmo.2)
      have hm3 : inI (mo ⟨⟩) 0 200 = true := inI_iff.2 hmo
      have hc3 : inI (c ⟨⟩) 0 3 = true := inI_iff.2 hc
      clear ho
      have hcode : ((if okS [(e 0 ⟨⟩, m 0 ⟨⟩), (e 1 ⟨⟩, m 1 ⟨⟩), (e 2 ⟨⟩, m 2 ⟨⟩), (e 3 ⟨⟩, m 3 ⟨⟩), (e 4 ⟨⟩, m 4 ⟨⟩), (e 5 ⟨⟩, m 5 ⟨⟩), (e 6 ⟨⟩, m 6 ⟨⟩), (e 7 ⟨⟩, m 7 ⟨⟩), (e 8 ⟨⟩, m 8 ⟨⟩), (e 9 ⟨⟩, m 9 ⟨⟩), (e 10 ⟨⟩, m 10 ⟨⟩), (e 11 ⟨⟩, m 11 ⟨⟩), (e 12 ⟨⟩, m 12 ⟨⟩), (e 13 ⟨⟩, m 13 ⟨⟩), (e 14 ⟨⟩, m 14 ⟨⟩), (e 15 ⟨⟩, m 15 ⟨⟩)] = true then (0 : Int) else 1) != 0) = false := by rw [if_pos hok]; rfl
      refine ⟨_, HLe.refl _, ?_⟩
      cbv
      repeat' (refine Ob.mk ?_ ?_; (focus (first | exact rfl | exact ⟨rfl, rfl, rfl, hc.1, hc.2⟩)); cbv)
      refine Br.f hcode ?_
      cbv
      refine Br.t hs1 ?_
      cbv
      refine Br.f (ntf hs2) ?_
      cbv
      refine Br.f (ntf hw) ?_
      cbv
      refine Br.f hm1 ?_
      cbv
      refine Br.f hm2 ?_
      cbv
      refine loop_rule (α := (Unit → Nat) × (Unit → List M)) (c := ⟨tt, E9, 0⟩) (fun a => fr 91 [(1, .c (.i .i64 (.x c))), (2, .c (.f .f32 sh)), (3, .c (.f .f32 w)), (4, .c (.i .i64 (.x mo))), (5, .c (.p 0 (.l 0))), (10, .c (.p 1 (.l 0))), (14, .c (.i .i64 (.x fun _ => (a.1 () : Int))))]) (fun a => [some ⟨true, 0, .cx a.2⟩, some ⟨true, 0, .lit [.z .f32 (fun _ => 0) (fun _ => 0), .z .f32 (fun _ => 0) (fun _ => 0), .z .f32 (fun _ => 0) (fun _ => 0), .z .f32 (fun _ => 0) (fun _ => 0), .z .f32 (fun _ => 0) (fun _ => 0), .z .f32 (fun _ => 0) (fun _ => 0), .z .f32 (fun _ => 0) (fun _ => 0), .z .f32 (fun _ => 0) (fun _ => 0), .z .f32 (fun _ => 0) (fun _ => 0), .z .f32 (fun _ => 0) (fun _ => 0), .z .f32 (fun _ => 0) (fun _ => 0), .z .f32 (fun _ => 0) (fun _ => 0), .z .f32 (fun _ => 0) (fun _ => 0), .z .f32 (fun _ => 0) (fun _ => 0), .z .f32 (fun _ => 0) (fun _ => 0), .z .f32 (fun _ => 0) (fun _ => 0)]⟩])
        (fun a => a.1 () ≤ (mo ()).toNat ∧ okS (a.2 ()) = true ∧ (a.2 ()).length = 16 ∧ corrK (c ()).toNat (sh ()) (w ()) ((mo ()).toNat - a.1 ()) (a.1 ()) (a.2 ()) = corrK (c ⟨⟩).toNat (sh ⟨⟩) (w ⟨⟩) (mo ⟨⟩).toNat 0 [(e 0 ⟨⟩, m 0 ⟨⟩), (e 1 ⟨⟩, m 1 ⟨⟩), (e 2 ⟨⟩, m 2 ⟨⟩), (e 3 ⟨⟩, m 3 ⟨⟩), (e 4 ⟨⟩, m 4 ⟨⟩), (e 5 ⟨⟩, m 5 ⟨⟩), (e 6 ⟨⟩, m 6 ⟨⟩), (e 7 ⟨⟩, m 7 ⟨⟩), (e 8 ⟨⟩, m 8 ⟨⟩), (e 9 ⟨⟩, m 9 ⟨⟩), (e 10 ⟨⟩, m 10 ⟨⟩), (e 11 ⟨⟩, m 11 ⟨⟩), (e 12 ⟨⟩, m 12 ⟨⟩), (e 13 ⟨⟩, m 13 ⟨⟩), (e 14 ⟨⟩, m 14 ⟨⟩), (e 15 ⟨⟩, m 15 ⟨⟩)]) (fun a => (mo ()).toNat - a.1 ()) (fun _ => (mo ()).toNat + 1) ?_ ?_
      · refine .mk (fun _ => 0, fun _ => [(e 0 (), m 0 ()), (e 1 (), m 1 ()), (e 2 (), m 2 ()), (e 3 (), m 3 ()), (e 4 (), m 4 ()), (e 5 (), m 5 ()), (e 6 (), m 6 ()), (e 7 (), m 7 ()), (e 8 (), m 8 ()), (e 9 (), m 9 ()), (e 10 (), m 10 ()), (e 11 (), m 11 ()), (e 12 (), m 12 ()), (e 13 (), m 13 ()), (e 14 (), m 14 ()), (e 15 (), m 15 ())]) ⟨Nat.zero_le _, hok, rfl, rfl⟩ (by dsimp only; omega) ?_
        cbv
        repeat' (refine Ob.mk ?_ ?_; rotate_left)
        all_goals (try simp only [Unit.unit, Int.ofNat_lt, Int.ofNat_le, BE.val, IE.val, NE.val, ltB_iff, ltB_no, leB_iff, leB_no, Int.toNat_natCast, Nat.zero_add, Nat.add_zero, Nat.mul_one, forced, beq_iff_eq, beq_eq_false_iff_ne, bne_iff_ne, bne_eq_false_iff_eq] at *)
        all_goals first | with_reducible rfl | exact True.intro | rfl
      · rintro ⟨k, lk⟩ ⟨hk1, hkok, hkl, hkK⟩
        have hk1 : k ⟨⟩ ≤ (mo ⟨⟩).toNat := hk1
        have hkok : okS (lk ⟨⟩) = true := hkok
        have hkl : (lk ⟨⟩).length = 16 := hkl
        have hkK : corrK (c ⟨⟩).toNat (sh ⟨⟩) (w ⟨⟩) ((mo ⟨⟩).toNat - k ⟨⟩) (k ⟨⟩) (lk ⟨⟩) = corrK (c ⟨⟩).toNat (sh ⟨⟩) (w ⟨⟩) (mo ⟨⟩).toNat 0 [(e 0 ⟨⟩, m 0 ⟨⟩), (e 1 ⟨⟩, m 1 ⟨⟩), (e 2 ⟨⟩, m 2 ⟨⟩), (e 3 ⟨⟩, m 3 ⟨⟩), (e 4 ⟨⟩, m 4 ⟨⟩), (e 5 ⟨⟩, m 5 ⟨⟩), (e 6 ⟨⟩, m 6 ⟨⟩), (e 7 ⟨⟩, m 7 ⟨⟩), (e 8 ⟨⟩, m 8 ⟨⟩), (e 9 ⟨⟩, m 9 ⟨⟩), (e 10 ⟨⟩, m 10 ⟨⟩), (e 11 ⟨⟩, m 11 ⟨⟩), (e 12 ⟨⟩, m 12 ⟨⟩), (e 13 ⟨⟩, m 13 ⟨⟩), (e 14 ⟨⟩, m 14 ⟨⟩), (e 15 ⟨⟩, m 15 ⟨⟩)] := hkK
        have heta : [(((lk ⟨⟩).getD 0 (0, 0)).1, ((lk ⟨⟩).getD 0 (0, 0)).2), (((lk ⟨⟩).getD 1 (0, 0)).1, ((lk ⟨⟩).getD 1 (0, 0)).2), (((lk ⟨⟩).getD 2 (0, 0)).1, ((lk ⟨⟩).getD 2 (0, 0)).2), (((lk ⟨⟩).getD 3 (0, 0)).1, ((lk ⟨⟩).getD 3 (0, 0)).2), (((lk ⟨⟩).getD 4 (0, 0)).1, ((lk ⟨⟩).getD 4 (0, 0)).2), (((lk ⟨⟩).getD 5 (0, 0)).1, ((lk ⟨⟩).getD 5 (0, 0)).2), (((lk ⟨⟩).getD 6 (0, 0)).1, ((lk ⟨⟩).getD 6 (0, 0)).2), (((lk ⟨⟩).getD 7 (0, 0)).1, ((lk ⟨⟩).getD 7 (0, 0)).2), (((lk ⟨⟩).getD 8 (0, 0)).1, ((lk ⟨⟩).getD 8 (0, 0)).2), (((lk ⟨⟩).getD 9 (0, 0)).1, ((lk ⟨⟩).getD 9 (0, 0)).2), (((lk ⟨⟩).getD 10 (0, 0)).1, ((lk ⟨⟩).getD 10 (0, 0)).2), (((lk ⟨⟩).getD 11 (0, 0)).1, ((lk ⟨⟩).getD 11 (0, 0)).2), (((lk ⟨⟩).getD 12 (0, 0)).1, ((lk ⟨⟩).getD 12 (0, 0)).2), (((lk ⟨⟩).getD 13 (0, 0)).1, ((lk ⟨⟩).getD 13 (0, 0)).2), (((lk ⟨⟩).getD 14 (0, 0)).1, ((lk ⟨⟩).getD 14 (0, 0)).2), (((lk ⟨⟩).getD 15 (0, 0)).1, ((lk ⟨⟩).getD 15 (0, 0)).2)] = lk ⟨⟩ := eta16 hkl
        cbv
        repeat' (refine Ob.mk ?_ ?_; (focus (first | exact rfl | exact ⟨rfl, hc⟩ | exact ⟨hkl, hc⟩ | (dsimp only [IE.val, NE.val]; rw [hkl]; decide))); cbv)
        refine Br.mk (fun h => ?_) (fun h => ?_)
        · have h' : fcmp .leq .f32 (grS (lk ⟨⟩) (c ⟨⟩).toNat 3).2 (w ⟨⟩) = true := by rw [← heta]; exact h
          have hval : corrK (c ⟨⟩).toNat (sh ⟨⟩) (w ⟨⟩) (mo ⟨⟩).toNat 0 [(e 0 ⟨⟩, m 0 ⟨⟩), (e 1 ⟨⟩, m 1 ⟨⟩), (e 2 ⟨⟩, m 2 ⟨⟩), (e 3 ⟨⟩, m 3 ⟨⟩), (e 4 ⟨⟩, m 4 ⟨⟩), (e 5 ⟨⟩, m 5 ⟨⟩), (e 6 ⟨⟩, m 6 ⟨⟩), (e 7 ⟨⟩, m 7 ⟨⟩), (e 8 ⟨⟩, m 8 ⟨⟩), (e 9 ⟨⟩, m 9 ⟨⟩), (e 10 ⟨⟩, m 10 ⟨⟩), (e 11 ⟨⟩, m 11 ⟨⟩), (e 12 ⟨⟩, m 12 ⟨⟩), (e 13 ⟨⟩, m 13 ⟨⟩), (e 14 ⟨⟩, m 14 ⟨⟩), (e 15 ⟨⟩, m 15 ⟨⟩)] = (0, k ⟨⟩, lk ⟨⟩) := by rw [← hkK]; exact corr_hit h' _
          cbv
          repeat' (refine Ob.mk ?_ ?_; (focus (first | exact rfl | (dsimp only [IE.val, NE.val]; rw [hkl]; decide))); cbv)
          have hA : ∀ i, ((lk ⟨⟩).getD i (0, 0)).1 = ((corrK (c ⟨⟩).toNat (sh ⟨⟩) (w ⟨⟩) (mo ⟨⟩).toNat 0 [(e 0 ⟨⟩, m 0 ⟨⟩), (e 1 ⟨⟩, m 1 ⟨⟩), (e 2 ⟨⟩, m 2 ⟨⟩), (e 3 ⟨⟩, m 3 ⟨⟩), (e 4 ⟨⟩, m 4 ⟨⟩), (e 5 ⟨⟩, m 5 ⟨⟩), (e 6 ⟨⟩, m 6 ⟨⟩), (e 7 ⟨⟩, m 7 ⟨⟩), (e 8 ⟨⟩, m 8 ⟨⟩), (e 9 ⟨⟩, m 9 ⟨⟩), (e 10 ⟨⟩, m 10 ⟨⟩), (e 11 ⟨⟩, m 11 ⟨⟩), (e 12 ⟨⟩, m 12 ⟨⟩), (e 13 ⟨⟩, m 13 ⟨⟩), (e 14 ⟨⟩, m 14 ⟨⟩), (e 15 ⟨⟩, m 15 ⟨⟩)]).2.2.getD i (0, 0)).1 := fun i => by rw [hval]
          have hB : ∀ i, ((lk ⟨⟩).getD i (0, 0)).2 = ((corrK (c ⟨⟩).toNat (sh ⟨⟩) (w ⟨⟩) (mo ⟨⟩).toNat 0 [(e 0 ⟨⟩, m 0 ⟨⟩), (e 1 ⟨⟩, m 1 ⟨⟩), (e 2 ⟨⟩, m 2 ⟨⟩), (e 3 ⟨⟩, m 3 ⟨⟩), (e 4 ⟨⟩, m 4 ⟨⟩), (e 5 ⟨⟩, m 5 ⟨⟩), (e 6 ⟨⟩, m 6 ⟨⟩), (e 7 ⟨⟩, m 7 ⟨⟩), (e 8 ⟨⟩, m 8 ⟨⟩), (e 9 ⟨⟩, m 9 ⟨⟩), (e 10 ⟨⟩, m 10 ⟨⟩), (e 11 ⟨⟩, m 11 ⟨⟩), (e 12 ⟨⟩, m 12 ⟨⟩), (e 13 ⟨⟩, m 13 ⟨⟩), (e 14 ⟨⟩, m 14 ⟨⟩), (e 15 ⟨⟩, m 15 ⟨⟩)]).2.2.getD i (0, 0)).2 := fun i => by rw [hval]
          have hC : ((k ⟨⟩ : Int) : Int) = (((corrK (c ⟨⟩).toNat (sh ⟨⟩) (w ⟨⟩) (mo ⟨⟩).toNat 0 [(e 0 ⟨⟩, m 0 ⟨⟩), (e 1 ⟨⟩, m 1 ⟨⟩), (e 2 ⟨⟩, m 2 ⟨⟩), (e 3 ⟨⟩, m 3 ⟨⟩), (e 4 ⟨⟩, m 4 ⟨⟩), (e 5 ⟨⟩, m 5 ⟨⟩), (e 6 ⟨⟩, m 6 ⟨⟩), (e 7 ⟨⟩, m 7 ⟨⟩), (e 8 ⟨⟩, m 8 ⟨⟩), (e 9 ⟨⟩, m 9 ⟨⟩), (e 10 ⟨⟩, m 10 ⟨⟩), (e 11 ⟨⟩, m 11 ⟨⟩), (e 12 ⟨⟩, m 12 ⟨⟩), (e 13 ⟨⟩, m 13 ⟨⟩), (e 14 ⟨⟩, m 14 ⟨⟩), (e 15 ⟨⟩, m 15 ⟨⟩)]).2.1 : Nat) : Int) := by rw [hval]
          have hD : (0 : Int) = (corrK (c ⟨⟩).toNat (sh ⟨⟩) (w ⟨⟩) (mo ⟨⟩).toNat 0 [(e 0 ⟨⟩, m 0 ⟨⟩), (e 1 ⟨⟩, m 1 ⟨⟩), (e 2 ⟨⟩, m 2 ⟨⟩), (e 3 ⟨⟩, m 3 ⟨⟩), (e 4 ⟨⟩, m 4 ⟨⟩), (e 5 ⟨⟩, m 5 ⟨⟩), (e 6 ⟨⟩, m 6 ⟨⟩), (e 7 ⟨⟩, m 7 ⟨⟩), (e 8 ⟨⟩, m 8 ⟨⟩), (e 9 ⟨⟩, m 9 ⟨⟩), (e 10 ⟨⟩, m 10 ⟨⟩), (e 11 ⟨⟩, m 11 ⟨⟩), (e 12 ⟨⟩, m 12 ⟨⟩), (e 13 ⟨⟩, m 13 ⟨⟩), (e 14 ⟨⟩, m 14 ⟨⟩), (e 15 ⟨⟩, m 15 ⟨⟩)]).1 := by rw [hval]
          cbv
          repeat' (refine Ob.mk ?_ ?_; (focus (first | exact hA _ | exact hB _ | exact hC | exact hD | exact rfl | (dsimp only [IE.val, NE.val]; rw [hkl]; decide))); cbv)
        · have h' : fcmp .leq .f32 (grS (lk ⟨⟩) (c ⟨⟩).toNat 3).2 (w ⟨⟩) = false := by rw [← heta]; exact h
          clear h
          by_cases hend : (k ⟨⟩ : Int) = mo ⟨⟩
          · have hz : (mo ⟨⟩).toNat - k ⟨⟩ = 0 := by omega
            have hval : corrK (c ⟨⟩).toNat (sh ⟨⟩) (w ⟨⟩) (mo ⟨⟩).toNat 0 [(e 0 ⟨⟩, m 0 ⟨⟩), (e 1 ⟨⟩, m 1 ⟨⟩), (e 2 ⟨⟩, m 2 ⟨⟩), (e 3 ⟨⟩, m 3 ⟨⟩), (e 4 ⟨⟩, m 4 ⟨⟩), (e 5 ⟨⟩, m 5 ⟨⟩), (e 6 ⟨⟩, m 6 ⟨⟩), (e 7 ⟨⟩, m 7 ⟨⟩), (e 8 ⟨⟩, m 8 ⟨⟩), (e 9 ⟨⟩, m 9 ⟨⟩), (e 10 ⟨⟩, m 10 ⟨⟩), (e 11 ⟨⟩, m 11 ⟨⟩), (e 12 ⟨⟩, m 12 ⟨⟩), (e 13 ⟨⟩, m 13 ⟨⟩), (e 14 ⟨⟩, m 14 ⟨⟩), (e 15 ⟨⟩, m 15 ⟨⟩)] = (7, 0, noS) := by rw [← hkK, hz]; exact corr_end h'
            cbv
            refine Br.t (eqz_t hend) ?_
            have hA : ∀ i, (0 : Nat) = ((corrK (c ⟨⟩).toNat (sh ⟨⟩) (w ⟨⟩) (mo ⟨⟩).toNat 0 [(e 0 ⟨⟩, m 0 ⟨⟩), (e 1 ⟨⟩, m 1 ⟨⟩), (e 2 ⟨⟩, m 2 ⟨⟩), (e 3 ⟨⟩, m 3 ⟨⟩), (e 4 ⟨⟩, m 4 ⟨⟩), (e 5 ⟨⟩, m 5 ⟨⟩), (e 6 ⟨⟩, m 6 ⟨⟩), (e 7 ⟨⟩, m 7 ⟨⟩), (e 8 ⟨⟩, m 8 ⟨⟩), (e 9 ⟨⟩, m 9 ⟨⟩), (e 10 ⟨⟩, m 10 ⟨⟩), (e 11 ⟨⟩, m 11 ⟨⟩), (e 12 ⟨⟩, m 12 ⟨⟩), (e 13 ⟨⟩, m 13 ⟨⟩), (e 14 ⟨⟩, m 14 ⟨⟩), (e 15 ⟨⟩, m 15 ⟨⟩)]).2.2.getD i (0, 0)).1 := fun i => by rw [hval, noS_get]
            have hB : ∀ i, (0 : Nat) = ((corrK (c ⟨⟩).toNat (sh ⟨⟩) (w ⟨⟩) (mo ⟨⟩).toNat 0 [(e 0 ⟨⟩, m 0 ⟨⟩), (e 1 ⟨⟩, m 1 ⟨⟩), (e 2 ⟨⟩, m 2 ⟨⟩), (e 3 ⟨⟩, m 3 ⟨⟩), (e 4 ⟨⟩, m 4 ⟨⟩), (e 5 ⟨⟩, m 5 ⟨⟩), (e 6 ⟨⟩, m 6 ⟨⟩), (e 7 ⟨⟩, m 7 ⟨⟩), (e 8 ⟨⟩, m 8 ⟨⟩), (e 9 ⟨⟩, m 9 ⟨⟩), (e 10 ⟨⟩, m 10 ⟨⟩), (e 11 ⟨⟩, m 11 ⟨⟩), (e 12 ⟨⟩, m 12 ⟨⟩), (e 13 ⟨⟩, m 13 ⟨⟩), (e 14 ⟨⟩, m 14 ⟨⟩), (e 15 ⟨⟩, m 15 ⟨⟩)]).2.2.getD i (0, 0)).2 := fun i => by rw [hval, noS_get]
            have hC : (0 : Int) = (((corrK (c ⟨⟩).toNat (sh ⟨⟩) (w ⟨⟩) (mo ⟨⟩).toNat 0 [(e 0 ⟨⟩, m 0 ⟨⟩), (e 1 ⟨⟩, m 1 ⟨⟩), (e 2 ⟨⟩, m 2 ⟨⟩), (e 3 ⟨⟩, m 3 ⟨⟩), (e 4 ⟨⟩, m 4 ⟨⟩), (e 5 ⟨⟩, m 5 ⟨⟩), (e 6 ⟨⟩, m 6 ⟨⟩), (e 7 ⟨⟩, m 7 ⟨⟩), (e 8 ⟨⟩, m 8 ⟨⟩), (e 9 ⟨⟩, m 9 ⟨⟩), (e 10 ⟨⟩, m 10 ⟨⟩), (e 11 ⟨⟩, m 11 ⟨⟩), (e 12 ⟨⟩, m 12 ⟨⟩), (e 13 ⟨⟩, m 13 ⟨⟩), (e 14 ⟨⟩, m 14 ⟨⟩), (e 15 ⟨⟩, m 15 ⟨⟩)]).2.1 : Nat) : Int) := by rw [hval]; rfl
            have hD : (7 : Int) = (corrK (c ⟨⟩).toNat (sh ⟨⟩) (w ⟨⟩) (mo ⟨⟩).toNat 0 [(e 0 ⟨⟩, m 0 ⟨⟩), (e 1 ⟨⟩, m 1 ⟨⟩), (e 2 ⟨⟩, m 2 ⟨⟩), (e 3 ⟨⟩, m 3 ⟨⟩), (e 4 ⟨⟩, m 4 ⟨⟩), (e 5 ⟨⟩, m 5 ⟨⟩), (e 6 ⟨⟩, m 6 ⟨⟩), (e 7 ⟨⟩, m 7 ⟨⟩), (e 8 ⟨⟩, m 8 ⟨⟩), (e 9 ⟨⟩, m 9 ⟨⟩), (e 10 ⟨⟩, m 10 ⟨⟩), (e 11 ⟨⟩, m 11 ⟨⟩), (e 12 ⟨⟩, m 12 ⟨⟩), (e 13 ⟨⟩, m 13 ⟨⟩), (e 14 ⟨⟩, m 14 ⟨⟩), (e 15 ⟨⟩, m 15 ⟨⟩)]).1 := by rw [hval]
            cbv
            repeat' (refine Ob.mk ?_ ?_; (focus (first | exact hA _ | exact hB _ | exact hC | exact hD | exact rfl | (dsimp only [IE.val, NE.val]; rw [hkl]; decide))); cbv)
          · have hlt : k ⟨⟩ < (mo ⟨⟩).toNat := by omega
            obtain ⟨m', hm'⟩ : ∃ m', (mo ⟨⟩).toNat - k ⟨⟩ = m' + 1 := ⟨(mo ⟨⟩).toNat - k ⟨⟩ - 1, by omega⟩
            have hkn : m' = (mo ⟨⟩).toNat - (k ⟨⟩ + 1) := by omega
            have hmeas : (mo ⟨⟩).toNat - (k ⟨⟩ + 1) < (mo ⟨⟩).toNat - k ⟨⟩ := by omega
            have hnl : (nextS (lk ⟨⟩) (c ⟨⟩).toNat (sh ⟨⟩)).length = 16 := by rw [nextS_len, hkl]
            cbv
            refine Br.f (eqz_f hend) ?_
            cbv
            have hEX : moveS [(((lk ⟨⟩).getD 0 (0, 0)).1, ((lk ⟨⟩).getD 0 (0, 0)).2), (((lk ⟨⟩).getD 1 (0, 0)).1, ((lk ⟨⟩).getD 1 (0, 0)).2), (((lk ⟨⟩).getD 2 (0, 0)).1, ((lk ⟨⟩).getD 2 (0, 0)).2), (((lk ⟨⟩).getD 3 (0, 0)).1, ((lk ⟨⟩).getD 3 (0, 0)).2), (((lk ⟨⟩).getD 4 (0, 0)).1, ((lk ⟨⟩).getD 4 (0, 0)).2), (((lk ⟨⟩).getD 5 (0, 0)).1, ((lk ⟨⟩).getD 5 (0, 0)).2), (((lk ⟨⟩).getD 6 (0, 0)).1, ((lk ⟨⟩).getD 6 (0, 0)).2), (((lk ⟨⟩).getD 7 (0, 0)).1, ((lk ⟨⟩).getD 7 (0, 0)).2), (((lk ⟨⟩).getD 8 (0, 0)).1, ((lk ⟨⟩).getD 8 (0, 0)).2), (((lk ⟨⟩).getD 9 (0, 0)).1, ((lk ⟨⟩).getD 9 (0, 0)).2), (((lk ⟨⟩).getD 10 (0, 0)).1, ((lk ⟨⟩).getD 10 (0, 0)).2), (((lk ⟨⟩).getD 11 (0, 0)).1, ((lk ⟨⟩).getD 11 (0, 0)).2), (((lk ⟨⟩).getD 12 (0, 0)).1, ((lk ⟨⟩).getD 12 (0, 0)).2), (((lk ⟨⟩).getD 13 (0, 0)).1, ((lk ⟨⟩).getD 13 (0, 0)).2), (((lk ⟨⟩).getD 14 (0, 0)).1, ((lk ⟨⟩).getD 14 (0, 0)).2), (((lk ⟨⟩).getD 15 (0, 0)).1, ((lk ⟨⟩).getD 15 (0, 0)).2)] (c ⟨⟩).toNat (negM (meanO [(((lk ⟨⟩).getD 0 (0, 0)).1, ((lk ⟨⟩).getD 0 (0, 0)).2), (((lk ⟨⟩).getD 1 (0, 0)).1, ((lk ⟨⟩).getD 1 (0, 0)).2), (((lk ⟨⟩).getD 2 (0, 0)).1, ((lk ⟨⟩).getD 2 (0, 0)).2), (((lk ⟨⟩).getD 3 (0, 0)).1, ((lk ⟨⟩).getD 3 (0, 0)).2), (((lk ⟨⟩).getD 4 (0, 0)).1, ((lk ⟨⟩).getD 4 (0, 0)).2), (((lk ⟨⟩).getD 5 (0, 0)).1, ((lk ⟨⟩).getD 5 (0, 0)).2), (((lk ⟨⟩).getD 6 (0, 0)).1, ((lk ⟨⟩).getD 6 (0, 0)).2), (((lk ⟨⟩).getD 7 (0, 0)).1, ((lk ⟨⟩).getD 7 (0, 0)).2), (((lk ⟨⟩).getD 8 (0, 0)).1, ((lk ⟨⟩).getD 8 (0, 0)).2), (((lk ⟨⟩).getD 9 (0, 0)).1, ((lk ⟨⟩).getD 9 (0, 0)).2), (((lk ⟨⟩).getD 10 (0, 0)).1, ((lk ⟨⟩).getD 10 (0, 0)).2), (((lk ⟨⟩).getD 11 (0, 0)).1, ((lk ⟨⟩).getD 11 (0, 0)).2), (((lk ⟨⟩).getD 12 (0, 0)).1, ((lk ⟨⟩).getD 12 (0, 0)).2), (((lk ⟨⟩).getD 13 (0, 0)).1, ((lk ⟨⟩).getD 13 (0, 0)).2), (((lk ⟨⟩).getD 14 (0, 0)).1, ((lk ⟨⟩).getD 14 (0, 0)).2), (((lk ⟨⟩).getD 15 (0, 0)).1, ((lk ⟨⟩).getD 15 (0, 0)).2)] (c ⟨⟩).toNat) (sh ⟨⟩)) = nextS (lk ⟨⟩) (c ⟨⟩).toNat (sh ⟨⟩) := by rw [heta]; rfl
            have hEok : okS [(((lk ⟨⟩).getD 0 (0, 0)).1, ((lk ⟨⟩).getD 0 (0, 0)).2), (((lk ⟨⟩).getD 1 (0, 0)).1, ((lk ⟨⟩).getD 1 (0, 0)).2), (((lk ⟨⟩).getD 2 (0, 0)).1, ((lk ⟨⟩).getD 2 (0, 0)).2), (((lk ⟨⟩).getD 3 (0, 0)).1, ((lk ⟨⟩).getD 3 (0, 0)).2), (((lk ⟨⟩).getD 4 (0, 0)).1, ((lk ⟨⟩).getD 4 (0, 0)).2), (((lk ⟨⟩).getD 5 (0, 0)).1, ((lk ⟨⟩).getD 5 (0, 0)).2), (((lk ⟨⟩).getD 6 (0, 0)).1, ((lk ⟨⟩).getD 6 (0, 0)).2), (((lk ⟨⟩).getD 7 (0, 0)).1, ((lk ⟨⟩).getD 7 (0, 0)).2), (((lk ⟨⟩).getD 8 (0, 0)).1, ((lk ⟨⟩).getD 8 (0, 0)).2), (((lk ⟨⟩).getD 9 (0, 0)).1, ((lk ⟨⟩).getD 9 (0, 0)).2), (((lk ⟨⟩).getD 10 (0, 0)).1, ((lk ⟨⟩).getD 10 (0, 0)).2), (((lk ⟨⟩).getD 11 (0, 0)).1, ((lk ⟨⟩).getD 11 (0, 0)).2), (((lk ⟨⟩).getD 12 (0, 0)).1, ((lk ⟨⟩).getD 12 (0, 0)).2), (((lk ⟨⟩).getD 13 (0, 0)).1, ((lk ⟨⟩).getD 13 (0, 0)).2), (((lk ⟨⟩).getD 14 (0, 0)).1, ((lk ⟨⟩).getD 14 (0, 0)).2), (((lk ⟨⟩).getD 15 (0, 0)).1, ((lk ⟨⟩).getD 15 (0, 0)).2)] = true := by rw [heta]; exact hkok
            repeat' first
              | (refine Ob.mk ?_ ?_; (focus (first | exact rfl | exact ⟨rfl, hc⟩ | exact ⟨rfl, hEok, hc⟩ | (dsimp only [IE.val, NE.val]; rw [hkl]; decide))); cbv)
              | (refine Lex.pull [0, 1, 2, 3, 4, 5, 6, 7, 8, 9, 10, 11, 12, 13, 14, 15, 16] (by decide +kernel) ?_; cbv)
              | (refine Both.mk ?_ ?_ <;> cbv)
            refine Br.mk (fun h2 => ?_) (fun h2 => ?_)
            · have h3 : ((if okS (moveS [(((lk ⟨⟩).getD 0 (0, 0)).1, ((lk ⟨⟩).getD 0 (0, 0)).2), (((lk ⟨⟩).getD 1 (0, 0)).1, ((lk ⟨⟩).getD 1 (0, 0)).2), (((lk ⟨⟩).getD 2 (0, 0)).1, ((lk ⟨⟩).getD 2 (0, 0)).2), (((lk ⟨⟩).getD 3 (0, 0)).1, ((lk ⟨⟩).getD 3 (0, 0)).2), (((lk ⟨⟩).getD 4 (0, 0)).1, ((lk ⟨⟩).getD 4 (0, 0)).2), (((lk ⟨⟩).getD 5 (0, 0)).1, ((lk ⟨⟩).getD 5 (0, 0)).2), (((lk ⟨⟩).getD 6 (0, 0)).1, ((lk ⟨⟩).getD 6 (0, 0)).2), (((lk ⟨⟩).getD 7 (0, 0)).1, ((lk ⟨⟩).getD 7 (0, 0)).2), (((lk ⟨⟩).getD 8 (0, 0)).1, ((lk ⟨⟩).getD 8 (0, 0)).2), (((lk ⟨⟩).getD 9 (0, 0)).1, ((lk ⟨⟩).getD 9 (0, 0)).2), (((lk ⟨⟩).getD 10 (0, 0)).1, ((lk ⟨⟩).getD 10 (0, 0)).2), (((lk ⟨⟩).getD 11 (0, 0)).1, ((lk ⟨⟩).getD 11 (0, 0)).2), (((lk ⟨⟩).getD 12 (0, 0)).1, ((lk ⟨⟩).getD 12 (0, 0)).2), (((lk ⟨⟩).getD 13 (0, 0)).1, ((lk ⟨⟩).getD 13 (0, 0)).2), (((lk ⟨⟩).getD 14 (0, 0)).1, ((lk ⟨⟩).getD 14 (0, 0)).2), (((lk ⟨⟩).getD 15 (0, 0)).1, ((lk ⟨⟩).getD 15 (0, 0)).2)] (c ⟨⟩).toNat (negM (meanO [(((lk ⟨⟩).getD 0 (0, 0)).1, ((lk ⟨⟩).getD 0 (0, 0)).2), (((lk ⟨⟩).getD 1 (0, 0)).1, ((lk ⟨⟩).getD 1 (0, 0)).2), (((lk ⟨⟩).getD 2 (0, 0)).1, ((lk ⟨⟩).getD 2 (0, 0)).2), (((lk ⟨⟩).getD 3 (0, 0)).1, ((lk ⟨⟩).getD 3 (0, 0)).2), (((lk ⟨⟩).getD 4 (0, 0)).1, ((lk ⟨⟩).getD 4 (0, 0)).2), (((lk ⟨⟩).getD 5 (0, 0)).1, ((lk ⟨⟩).getD 5 (0, 0)).2), (((lk ⟨⟩).getD 6 (0, 0)).1, ((lk ⟨⟩).getD 6 (0, 0)).2), (((lk ⟨⟩).getD 7 (0, 0)).1, ((lk ⟨⟩).getD 7 (0, 0)).2), (((lk ⟨⟩).getD 8 (0, 0)).1, ((lk ⟨⟩).getD 8 (0, 0)).2), (((lk ⟨⟩).getD 9 (0, 0)).1, ((lk ⟨⟩).getD 9 (0, 0)).2), (((lk ⟨⟩).getD 10 (0, 0)).1, ((lk ⟨⟩).getD 10 (0, 0)).2), (((lk ⟨⟩).getD 11 (0, 0)).1, ((lk ⟨⟩).getD 11 (0, 0)).2), (((lk ⟨⟩).getD 12 (0, 0)).1, ((lk ⟨⟩).getD 12 (0, 0)).2), (((lk ⟨⟩).getD 13 (0, 0)).1, ((lk ⟨⟩).getD 13 (0, 0)).2), (((lk ⟨⟩).getD 14 (0, 0)).1, ((lk ⟨⟩).getD 14 (0, 0)).2), (((lk ⟨⟩).getD 15 (0, 0)).1, ((lk ⟨⟩).getD 15 (0, 0)).2)] (c ⟨⟩).toNat) (sh ⟨⟩))) = true then (0 : Int) else 4) != 0) = true := h2
              have h4 : okS (nextS (lk ⟨⟩) (c ⟨⟩).toNat (sh ⟨⟩)) = false := by
                rw [hEX] at h3
                cases ho : okS (nextS (lk ⟨⟩) (c ⟨⟩).toNat (sh ⟨⟩))
                · rfl
                · rw [ho] at h3; cases h3
              have hval : corrK (c ⟨⟩).toNat (sh ⟨⟩) (w ⟨⟩) (mo ⟨⟩).toNat 0 [(e 0 ⟨⟩, m 0 ⟨⟩), (e 1 ⟨⟩, m 1 ⟨⟩), (e 2 ⟨⟩, m 2 ⟨⟩), (e 3 ⟨⟩, m 3 ⟨⟩), (e 4 ⟨⟩, m 4 ⟨⟩), (e 5 ⟨⟩, m 5 ⟨⟩), (e 6 ⟨⟩, m 6 ⟨⟩), (e 7 ⟨⟩, m 7 ⟨⟩), (e 8 ⟨⟩, m 8 ⟨⟩), (e 9 ⟨⟩, m 9 ⟨⟩), (e 10 ⟨⟩, m 10 ⟨⟩), (e 11 ⟨⟩, m 11 ⟨⟩), (e 12 ⟨⟩, m 12 ⟨⟩), (e 13 ⟨⟩, m 13 ⟨⟩), (e 14 ⟨⟩, m 14 ⟨⟩), (e 15 ⟨⟩, m 15 ⟨⟩)] = (4, 0, noS) := by rw [← hkK, hm']; exact corr_stop h' h4
              have hcd : (if okS (moveS [(((lk ⟨⟩).getD 0 (0, 0)).1, ((lk ⟨⟩).getD 0 (0, 0)).2), (((lk ⟨⟩).getD 1 (0, 0)).1, ((lk ⟨⟩).getD 1 (0, 0)).2), (((lk ⟨⟩).getD 2 (0, 0)).1, ((lk ⟨⟩).getD 2 (0, 0)).2), (((lk ⟨⟩).getD 3 (0, 0)).1, ((lk ⟨⟩).getD 3 (0, 0)).2), (((lk ⟨⟩).getD 4 (0, 0)).1, ((lk ⟨⟩).getD 4 (0, 0)).2), (((lk ⟨⟩).getD 5 (0, 0)).1, ((lk ⟨⟩).getD 5 (0, 0)).2), (((lk ⟨⟩).getD 6 (0, 0)).1, ((lk ⟨⟩).getD 6 (0, 0)).2), (((lk ⟨⟩).getD 7 (0, 0)).1, ((lk ⟨⟩).getD 7 (0, 0)).2), (((lk ⟨⟩).getD 8 (0, 0)).1, ((lk ⟨⟩).getD 8 (0, 0)).2), (((lk ⟨⟩).getD 9 (0, 0)).1, ((lk ⟨⟩).getD 9 (0, 0)).2), (((lk ⟨⟩).getD 10 (0, 0)).1, ((lk ⟨⟩).getD 10 (0, 0)).2), (((lk ⟨⟩).getD 11 (0, 0)).1, ((lk ⟨⟩).getD 11 (0, 0)).2), (((lk ⟨⟩).getD 12 (0, 0)).1, ((lk ⟨⟩).getD 12 (0, 0)).2), (((lk ⟨⟩).getD 13 (0, 0)).1, ((lk ⟨⟩).getD 13 (0, 0)).2), (((lk ⟨⟩).getD 14 (0, 0)).1, ((lk ⟨⟩).getD 14 (0, 0)).2), (((lk ⟨⟩).getD 15 (0, 0)).1, ((lk ⟨⟩).getD 15 (0, 0)).2)] (c ⟨⟩).toNat (negM (meanO [(((lk ⟨⟩).getD 0 (0, 0)).1, ((lk ⟨⟩).getD 0 (0, 0)).2), (((lk ⟨⟩).getD 1 (0, 0)).1, ((lk ⟨⟩).getD 1 (0, 0)).2), (((lk ⟨⟩).getD 2 (0, 0)).1, ((lk ⟨⟩).getD 2 (0, 0)).2), (((lk ⟨⟩).getD 3 (0, 0)).1, ((lk ⟨⟩).getD 3 (0, 0)).2), (((lk ⟨⟩).getD 4 (0, 0)).1, ((lk ⟨⟩).getD 4 (0, 0)).2), (((lk ⟨⟩).getD 5 (0, 0)).1, ((lk ⟨⟩).getD 5 (0, 0)).2), (((lk ⟨⟩).getD 6 (0, 0)).1, ((lk ⟨⟩).getD 6 (0, 0)).2), (((lk ⟨⟩).getD 7 (0, 0)).1, ((lk ⟨⟩).getD 7 (0, 0)).2), (((lk ⟨⟩).getD 8 (0, 0)).1, ((lk ⟨⟩).getD 8 (0, 0)).2), (((lk ⟨⟩).getD 9 (0, 0)).1, ((lk ⟨⟩).getD 9 (0, 0)).2), (((lk ⟨⟩).getD 10 (0, 0)).1, ((lk ⟨⟩).getD 10 (0, 0)).2), (((lk ⟨⟩).getD 11 (0, 0)).1, ((lk ⟨⟩).getD 11 (0, 0)).2), (((lk ⟨⟩).getD 12 (0, 0)).1, ((lk ⟨⟩).getD 12 (0, 0)).2), (((lk ⟨⟩).getD 13 (0, 0)).1, ((lk ⟨⟩).getD 13 (0, 0)).2), (((lk ⟨⟩).getD 14 (0, 0)).1, ((lk ⟨⟩).getD 14 (0, 0)).2), (((lk ⟨⟩).getD 15 (0, 0)).1, ((lk ⟨⟩).getD 15 (0, 0)).2)] (c ⟨⟩).toNat) (sh ⟨⟩))) = true then (0 : Int) else 4) = (corrK (c ⟨⟩).toNat (sh ⟨⟩) (w ⟨⟩) (mo ⟨⟩).toNat 0 [(e 0 ⟨⟩, m 0 ⟨⟩), (e 1 ⟨⟩, m 1 ⟨⟩), (e 2 ⟨⟩, m 2 ⟨⟩), (e 3 ⟨⟩, m 3 ⟨⟩), (e 4 ⟨⟩, m 4 ⟨⟩), (e 5 ⟨⟩, m 5 ⟨⟩), (e 6 ⟨⟩, m 6 ⟨⟩), (e 7 ⟨⟩, m 7 ⟨⟩), (e 8 ⟨⟩, m 8 ⟨⟩), (e 9 ⟨⟩, m 9 ⟨⟩), (e 10 ⟨⟩, m 10 ⟨⟩), (e 11 ⟨⟩, m 11 ⟨⟩), (e 12 ⟨⟩, m 12 ⟨⟩), (e 13 ⟨⟩, m 13 ⟨⟩), (e 14 ⟨⟩, m 14 ⟨⟩), (e 15 ⟨⟩, m 15 ⟨⟩)]).1 := by rw [hEX, h4, hval]; rfl
              have hA : ∀ i, (0 : Nat) = ((corrK (c ⟨⟩).toNat (sh ⟨⟩) (w ⟨⟩) (mo ⟨⟩).toNat 0 [(e 0 ⟨⟩, m 0 ⟨⟩), (e 1 ⟨⟩, m 1 ⟨⟩), (e 2 ⟨⟩, m 2 ⟨⟩), (e 3 ⟨⟩, m 3 ⟨⟩), (e 4 ⟨⟩, m 4 ⟨⟩), (e 5 ⟨⟩, m 5 ⟨⟩), (e 6 ⟨⟩, m 6 ⟨⟩), (e 7 ⟨⟩, m 7 ⟨⟩), (e 8 ⟨⟩, m 8 ⟨⟩), (e 9 ⟨⟩, m 9 ⟨⟩), (e 10 ⟨⟩, m 10 ⟨⟩), (e 11 ⟨⟩, m 11 ⟨⟩), (e 12 ⟨⟩, m 12 ⟨⟩), (e 13 ⟨⟩, m 13 ⟨⟩), (e 14 ⟨⟩, m 14 ⟨⟩), (e 15 ⟨⟩, m 15 ⟨⟩)]).2.2.getD i (0, 0)).1 := fun i => by rw [hval, noS_get]
              have hB : ∀ i, (0 : Nat) = ((corrK (c ⟨⟩).toNat (sh ⟨⟩) (w ⟨⟩) (mo ⟨⟩).toNat 0 [(e 0 ⟨⟩, m 0 ⟨⟩), (e 1 ⟨⟩, m 1 ⟨⟩), (e 2 ⟨⟩, m 2 ⟨⟩), (e 3 ⟨⟩, m 3 ⟨⟩), (e 4 ⟨⟩, m 4 ⟨⟩), (e 5 ⟨⟩, m 5 ⟨⟩), (e 6 ⟨⟩, m 6 ⟨⟩), (e 7 ⟨⟩, m 7 ⟨⟩), (e 8 ⟨⟩, m 8 ⟨⟩), (e 9 ⟨⟩, m 9 ⟨⟩), (e 10 ⟨⟩, m 10 ⟨⟩), (e 11 ⟨⟩, m 11 ⟨⟩), (e 12 ⟨⟩, m 12 ⟨⟩), (e 13 ⟨⟩, m 13 ⟨⟩), (e 14 ⟨⟩, m 14 ⟨⟩), (e 15 ⟨⟩, m 15 ⟨⟩)]).2.2.getD i (0, 0)).2 := fun i => by rw [hval, noS_get]
              have hC : (0 : Int) = (((corrK (c ⟨⟩).toNat (sh ⟨⟩) (w ⟨⟩) (mo ⟨⟩).toNat 0 [(e 0 ⟨⟩, m 0 ⟨⟩), (e 1 ⟨⟩, m 1 ⟨⟩), (e 2 ⟨⟩, m 2 ⟨⟩), (e 3 ⟨⟩, m 3 ⟨⟩), (e 4 ⟨⟩, m 4 ⟨⟩), (e 5 ⟨⟩, m 5 ⟨⟩), (e 6 ⟨⟩, m 6 ⟨⟩), (e 7 ⟨⟩, m 7 ⟨⟩), (e 8 ⟨⟩, m 8 ⟨⟩), (e 9 ⟨⟩, m 9 ⟨⟩), (e 10 ⟨⟩, m 10 ⟨⟩), (e 11 ⟨⟩, m 11 ⟨⟩), (e 12 ⟨⟩, m 12 ⟨⟩), (e 13 ⟨⟩, m 13 ⟨⟩), (e 14 ⟨⟩, m 14 ⟨⟩), (e 15 ⟨⟩, m 15 ⟨⟩)]).2.1 : Nat) : Int) := by rw [hval]; rfl
              have hD : (4 : Int) = (corrK (c ⟨⟩).toNat (sh ⟨⟩) (w ⟨⟩) (mo ⟨⟩).toNat 0 [(e 0 ⟨⟩, m 0 ⟨⟩), (e 1 ⟨⟩, m 1 ⟨⟩), (e 2 ⟨⟩, m 2 ⟨⟩), (e 3 ⟨⟩, m 3 ⟨⟩), (e 4 ⟨⟩, m 4 ⟨⟩), (e 5 ⟨⟩, m 5 ⟨⟩), (e 6 ⟨⟩, m 6 ⟨⟩), (e 7 ⟨⟩, m 7 ⟨⟩), (e 8 ⟨⟩, m 8 ⟨⟩), (e 9 ⟨⟩, m 9 ⟨⟩), (e 10 ⟨⟩, m 10 ⟨⟩), (e 11 ⟨⟩, m 11 ⟨⟩), (e 12 ⟨⟩, m 12 ⟨⟩), (e 13 ⟨⟩, m 13 ⟨⟩), (e 14 ⟨⟩, m 14 ⟨⟩), (e 15 ⟨⟩, m 15 ⟨⟩)]).1 := by rw [hval]
              cbv
              repeat' (refine Ob.mk ?_ ?_; (focus (first | exact hA _ | exact hB _ | exact hC | exact hD | exact hcd | exact rfl | (dsimp only [IE.val, NE.val]; rw [hkl]; decide))); cbv)
            · have h3 : ((if okS (moveS [(((lk ⟨⟩).getD 0 (0, 0)).1, ((lk ⟨⟩).getD 0 (0, 0)).2), (((lk ⟨⟩).getD 1 (0, 0)).1, ((lk ⟨⟩).getD 1 (0, 0)).2), (((lk ⟨⟩).getD 2 (0, 0)).1, ((lk ⟨⟩).getD 2 (0, 0)).2), (((lk ⟨⟩).getD 3 (0, 0)).1, ((lk ⟨⟩).getD 3 (0, 0)).2), (((lk ⟨⟩).getD 4 (0, 0)).1, ((lk ⟨⟩).getD 4 (0, 0)).2), (((lk ⟨⟩).getD 5 (0, 0)).1, ((lk ⟨⟩).getD 5 (0, 0)).2), (((lk ⟨⟩).getD 6 (0, 0)).1, ((lk ⟨⟩).getD 6 (0, 0)).2), (((lk ⟨⟩).getD 7 (0, 0)).1, ((lk ⟨⟩).getD 7 (0, 0)).2), (((lk ⟨⟩).getD 8 (0, 0)).1, ((lk ⟨⟩).getD 8 (0, 0)).2), (((lk ⟨⟩).getD 9 (0, 0)).1, ((lk ⟨⟩).getD 9 (0, 0)).2), (((lk ⟨⟩).getD 10 (0, 0)).1, ((lk ⟨⟩).getD 10 (0, 0)).2), (((lk ⟨⟩).getD 11 (0, 0)).1, ((lk ⟨⟩).getD 11 (0, 0)).2), (((lk ⟨⟩).getD 12 (0, 0)).1, ((lk ⟨⟩).getD 12 (0, 0)).2), (((lk ⟨⟩).getD 13 (0, 0)).1, ((lk ⟨⟩).getD 13 (0, 0)).2), (((lk ⟨⟩).getD 14 (0, 0)).1, ((lk ⟨⟩).getD 14 (0, 0)).2), (((lk ⟨⟩).getD 15 (0, 0)).1, ((lk ⟨⟩).getD 15 (0, 0)).2)] (c ⟨⟩).toNat (negM (meanO [(((lk ⟨⟩).getD 0 (0, 0)).1, ((lk ⟨⟩).getD 0 (0, 0)).2), (((lk ⟨⟩).getD 1 (0, 0)).1, ((lk ⟨⟩).getD 1 (0, 0)).2), (((lk ⟨⟩).getD 2 (0, 0)).1, ((lk ⟨⟩).getD 2 (0, 0)).2), (((lk ⟨⟩).getD 3 (0, 0)).1, ((lk ⟨⟩).getD 3 (0, 0)).2), (((lk ⟨⟩).getD 4 (0, 0)).1, ((lk ⟨⟩).getD 4 (0, 0)).2), (((lk ⟨⟩).getD 5 (0, 0)).1, ((lk ⟨⟩).getD 5 (0, 0)).2), (((lk ⟨⟩).getD 6 (0, 0)).1, ((lk ⟨⟩).getD 6 (0, 0)).2), (((lk ⟨⟩).getD 7 (0, 0)).1, ((lk ⟨⟩).getD 7 (0, 0)).2), (((lk ⟨⟩).getD 8 (0, 0)).1, ((lk ⟨⟩).getD 8 (0, 0)).2), (((lk ⟨⟩).getD 9 (0, 0)).1, ((lk ⟨⟩).getD 9 (0, 0)).2), (((lk ⟨⟩).getD 10 (0, 0)).1, ((lk ⟨⟩).getD 10 (0, 0)).2), (((lk ⟨⟩).getD 11 (0, 0)).1, ((lk ⟨⟩).getD 11 (0, 0)).2), (((lk ⟨⟩).getD 12 (0, 0)).1, ((lk ⟨⟩).getD 12 (0, 0)).2), (((lk ⟨⟩).getD 13 (0, 0)).1, ((lk ⟨⟩).getD 13 (0, 0)).2), (((lk ⟨⟩).getD 14 (0, 0)).1, ((lk ⟨⟩).getD 14 (0, 0)).2), (((lk ⟨⟩).getD 15 (0, 0)).1, ((lk ⟨⟩).getD 15 (0, 0)).2)] (c ⟨⟩).toNat) (sh ⟨⟩))) = true then (0 : Int) else 4) != 0) = false := h2
              have h4 : okS (nextS (lk ⟨⟩) (c ⟨⟩).toNat (sh ⟨⟩)) = true := by
                rw [hEX] at h3
                cases ho : okS (nextS (lk ⟨⟩) (c ⟨⟩).toNat (sh ⟨⟩))
                · rw [ho] at h3; cases h3
                · rfl
              have hr : (resS (moveS [(((lk ⟨⟩).getD 0 (0, 0)).1, ((lk ⟨⟩).getD 0 (0, 0)).2), (((lk ⟨⟩).getD 1 (0, 0)).1, ((lk ⟨⟩).getD 1 (0, 0)).2), (((lk ⟨⟩).getD 2 (0, 0)).1, ((lk ⟨⟩).getD 2 (0, 0)).2), (((lk ⟨⟩).getD 3 (0, 0)).1, ((lk ⟨⟩).getD 3 (0, 0)).2), (((lk ⟨⟩).getD 4 (0, 0)).1, ((lk ⟨⟩).getD 4 (0, 0)).2), (((lk ⟨⟩).getD 5 (0, 0)).1, ((lk ⟨⟩).getD 5 (0, 0)).2), (((lk ⟨⟩).getD 6 (0, 0)).1, ((lk ⟨⟩).getD 6 (0, 0)).2), (((lk ⟨⟩).getD 7 (0, 0)).1, ((lk ⟨⟩).getD 7 (0, 0)).2), (((lk ⟨⟩).getD 8 (0, 0)).1, ((lk ⟨⟩).getD 8 (0, 0)).2), (((lk ⟨⟩).getD 9 (0, 0)).1, ((lk ⟨⟩).getD 9 (0, 0)).2), (((lk ⟨⟩).getD 10 (0, 0)).1, ((lk ⟨⟩).getD 10 (0, 0)).2), (((lk ⟨⟩).getD 11 (0, 0)).1, ((lk ⟨⟩).getD 11 (0, 0)).2), (((lk ⟨⟩).getD 12 (0, 0)).1, ((lk ⟨⟩).getD 12 (0, 0)).2), (((lk ⟨⟩).getD 13 (0, 0)).1, ((lk ⟨⟩).getD 13 (0, 0)).2), (((lk ⟨⟩).getD 14 (0, 0)).1, ((lk ⟨⟩).getD 14 (0, 0)).2), (((lk ⟨⟩).getD 15 (0, 0)).1, ((lk ⟨⟩).getD 15 (0, 0)).2)] (c ⟨⟩).toNat (negM (meanO [(((lk ⟨⟩).getD 0 (0, 0)).1, ((lk ⟨⟩).getD 0 (0, 0)).2), (((lk ⟨⟩).getD 1 (0, 0)).1, ((lk ⟨⟩).getD 1 (0, 0)).2), (((lk ⟨⟩).getD 2 (0, 0)).1, ((lk ⟨⟩).getD 2 (0, 0)).2), (((lk ⟨⟩).getD 3 (0, 0)).1, ((lk ⟨⟩).getD 3 (0, 0)).2), (((lk ⟨⟩).getD 4 (0, 0)).1, ((lk ⟨⟩).getD 4 (0, 0)).2), (((lk ⟨⟩).getD 5 (0, 0)).1, ((lk ⟨⟩).getD 5 (0, 0)).2), (((lk ⟨⟩).getD 6 (0, 0)).1, ((lk ⟨⟩).getD 6 (0, 0)).2), (((lk ⟨⟩).getD 7 (0, 0)).1, ((lk ⟨⟩).getD 7 (0, 0)).2), (((lk ⟨⟩).getD 8 (0, 0)).1, ((lk ⟨⟩).getD 8 (0, 0)).2), (((lk ⟨⟩).getD 9 (0, 0)).1, ((lk ⟨⟩).getD 9 (0, 0)).2), (((lk ⟨⟩).getD 10 (0, 0)).1, ((lk ⟨⟩).getD 10 (0, 0)).2), (((lk ⟨⟩).getD 11 (0, 0)).1, ((lk ⟨⟩).getD 11 (0, 0)).2), (((lk ⟨⟩).getD 12 (0, 0)).1, ((lk ⟨⟩).getD 12 (0, 0)).2), (((lk ⟨⟩).getD 13 (0, 0)).1, ((lk ⟨⟩).getD 13 (0, 0)).2), (((lk ⟨⟩).getD 14 (0, 0)).1, ((lk ⟨⟩).getD 14 (0, 0)).2), (((lk ⟨⟩).getD 15 (0, 0)).1, ((lk ⟨⟩).getD 15 (0, 0)).2)] (c ⟨⟩).toNat) (sh ⟨⟩)))) = nextS (lk ⟨⟩) (c ⟨⟩).toNat (sh ⟨⟩) := by rw [hEX]; exact resS_t h4
              have hset := (set16 (l := lk ⟨⟩) (r := resS (moveS [(((lk ⟨⟩).getD 0 (0, 0)).1, ((lk ⟨⟩).getD 0 (0, 0)).2), (((lk ⟨⟩).getD 1 (0, 0)).1, ((lk ⟨⟩).getD 1 (0, 0)).2), (((lk ⟨⟩).getD 2 (0, 0)).1, ((lk ⟨⟩).getD 2 (0, 0)).2), (((lk ⟨⟩).getD 3 (0, 0)).1, ((lk ⟨⟩).getD 3 (0, 0)).2), (((lk ⟨⟩).getD 4 (0, 0)).1, ((lk ⟨⟩).getD 4 (0, 0)).2), (((lk ⟨⟩).getD 5 (0, 0)).1, ((lk ⟨⟩).getD 5 (0, 0)).2), (((lk ⟨⟩).getD 6 (0, 0)).1, ((lk ⟨⟩).getD 6 (0, 0)).2), (((lk ⟨⟩).getD 7 (0, 0)).1, ((lk ⟨⟩).getD 7 (0, 0)).2), (((lk ⟨⟩).getD 8 (0, 0)).1, ((lk ⟨⟩).getD 8 (0, 0)).2), (((lk ⟨⟩).getD 9 (0, 0)).1, ((lk ⟨⟩).getD 9 (0, 0)).2), (((lk ⟨⟩).getD 10 (0, 0)).1, ((lk ⟨⟩).getD 10 (0, 0)).2), (((lk ⟨⟩).getD 11 (0, 0)).1, ((lk ⟨⟩).getD 11 (0, 0)).2), (((lk ⟨⟩).getD 12 (0, 0)).1, ((lk ⟨⟩).getD 12 (0, 0)).2), (((lk ⟨⟩).getD 13 (0, 0)).1, ((lk ⟨⟩).getD 13 (0, 0)).2), (((lk ⟨⟩).getD 14 (0, 0)).1, ((lk ⟨⟩).getD 14 (0, 0)).2), (((lk ⟨⟩).getD 15 (0, 0)).1, ((lk ⟨⟩).getD 15 (0, 0)).2)] (c ⟨⟩).toNat (negM (meanO [(((lk ⟨⟩).getD 0 (0, 0)).1, ((lk ⟨⟩).getD 0 (0, 0)).2), (((lk ⟨⟩).getD 1 (0, 0)).1, ((lk ⟨⟩).getD 1 (0, 0)).2), (((lk ⟨⟩).getD 2 (0, 0)).1, ((lk ⟨⟩).getD 2 (0, 0)).2), (((lk ⟨⟩).getD 3 (0, 0)).1, ((lk ⟨⟩).getD 3 (0, 0)).2), (((lk ⟨⟩).getD 4 (0, 0)).1, ((lk ⟨⟩).getD 4 (0, 0)).2), (((lk ⟨⟩).getD 5 (0, 0)).1, ((lk ⟨⟩).getD 5 (0, 0)).2), (((lk ⟨⟩).getD 6 (0, 0)).1, ((lk ⟨⟩).getD 6 (0, 0)).2), (((lk ⟨⟩).getD 7 (0, 0)).1, ((lk ⟨⟩).getD 7 (0, 0)).2), (((lk ⟨⟩).getD 8 (0, 0)).1, ((lk ⟨⟩).getD 8 (0, 0)).2), (((lk ⟨⟩).getD 9 (0, 0)).1, ((lk ⟨⟩).getD 9 (0, 0)).2), (((lk ⟨⟩).getD 10 (0, 0)).1, ((lk ⟨⟩).getD 10 (0, 0)).2), (((lk ⟨⟩).getD 11 (0, 0)).1, ((lk ⟨⟩).getD 11 (0, 0)).2), (((lk ⟨⟩).getD 12 (0, 0)).1, ((lk ⟨⟩).getD 12 (0, 0)).2), (((lk ⟨⟩).getD 13 (0, 0)).1, ((lk ⟨⟩).getD 13 (0, 0)).2), (((lk ⟨⟩).getD 14 (0, 0)).1, ((lk ⟨⟩).getD 14 (0, 0)).2), (((lk ⟨⟩).getD 15 (0, 0)).1, ((lk ⟨⟩).getD 15 (0, 0)).2)] (c ⟨⟩).toNat) (sh ⟨⟩)))) hkl (by rw [hr]; exact hnl)).trans hr
              have hstep : corrK (c ⟨⟩).toNat (sh ⟨⟩) (w ⟨⟩) ((mo ⟨⟩).toNat - (k ⟨⟩ + 1)) (k ⟨⟩ + 1) (nextS (lk ⟨⟩) (c ⟨⟩).toNat (sh ⟨⟩)) = corrK (c ⟨⟩).toNat (sh ⟨⟩) (w ⟨⟩) (mo ⟨⟩).toNat 0 [(e 0 ⟨⟩, m 0 ⟨⟩), (e 1 ⟨⟩, m 1 ⟨⟩), (e 2 ⟨⟩, m 2 ⟨⟩), (e 3 ⟨⟩, m 3 ⟨⟩), (e 4 ⟨⟩, m 4 ⟨⟩), (e 5 ⟨⟩, m 5 ⟨⟩), (e 6 ⟨⟩, m 6 ⟨⟩), (e 7 ⟨⟩, m 7 ⟨⟩), (e 8 ⟨⟩, m 8 ⟨⟩), (e 9 ⟨⟩, m 9 ⟨⟩), (e 10 ⟨⟩, m 10 ⟨⟩), (e 11 ⟨⟩, m 11 ⟨⟩), (e 12 ⟨⟩, m 12 ⟨⟩), (e 13 ⟨⟩, m 13 ⟨⟩), (e 14 ⟨⟩, m 14 ⟨⟩), (e 15 ⟨⟩, m 15 ⟨⟩)] := by rw [← hkK, hm', ← hkn]; exact (corr_next h' h4).symm
              cbv
              repeat' first
                | (refine Ob.mk ?_ ?_; (focus (first | exact rfl | (dsimp only [IE.val, NE.val]; rw [hkl]; decide) | (dsimp only [IE.val, NE.val]; simp only [List.length_set]; rw [hkl]; decide))); cbv)
                | (refine Next.mk (fun _ => k () + 1, fun _ => nextS (lk ()) (c ()).toNat (sh ())) ⟨hlt, h4, hnl, hstep⟩ hmeas ?_; cbv)
                | (refine Ob.mk ?_ ?_; (focus (first | exact hset | exact wrap64_nat (by omega) | trace_state)); cbv)
    · cases hs
  · cases hs
end
section
theorem fn13 : FnOk Try.prog 13 Try.f13 (bodyOf Try.f13) := ⟨Try.func13, rfl, by rfl⟩
def s13 : Spec := hspec fun args H => match args, H with
  | [.a cs, .c (.i .i64 (.x c)), .c (.f .f32 sh), .c (.f .f32 w), .c (.i .i64 (.x mo))], [] => match cxsOf cs with
    | some q => some (.t [.a [.z .f32 (fun _ => (((corrK (c ()).toNat (sh ()) (w ()) (mo ()).toNat 0 (forced q)).2.2).getD 0 (0, 0)).1) (fun _ => (((corrK (c ()).toNat (sh ()) (w ()) (mo ()).toNat 0 (forced q)).2.2).getD 0 (0, 0)).2), .z .f32 (fun _ => (((corrK (c ()).toNat (sh ()) (w ()) (mo ()).toNat 0 (forced q)).2.2).getD 1 (0, 0)).1) (fun _ => (((corrK (c ()).toNat (sh ()) (w ()) (mo ()).toNat 0 (forced q)).2.2).getD 1 (0, 0)).2), .z .f32 (fun _ => (((corrK (c ()).toNat (sh ()) (w ()) (mo ()).toNat 0 (forced q)).2.2).getD 2 (0, 0)).1) (fun _ => (((corrK (c ()).toNat (sh ()) (w ()) (mo ()).toNat 0 (forced q)).2.2).getD 2 (0, 0)).2), .z .f32 (fun _ => (((corrK (c ()).toNat (sh ()) (w ()) (mo ()).toNat 0 (forced q)).2.2).getD 3 (0, 0)).1) (fun _ => (((corrK (c ()).toNat (sh ()) (w ()) (mo ()).toNat 0 (forced q)).2.2).getD 3 (0, 0)).2), .z .f32 (fun _ => (((corrK (c ()).toNat (sh ()) (w ()) (mo ()).toNat 0 (forced q)).2.2).getD 4 (0, 0)).1) (fun _ => (((corrK (c ()).toNat (sh ()) (w ()) (mo ()).toNat 0 (forced q)).2.2).getD 4 (0, 0)).2), .z .f32 (fun _ => (((corrK (c ()).toNat (sh ()) (w ()) (mo ()).toNat 0 (forced q)).2.2).getD 5 (0, 0)).1) (fun _ => (((corrK (c ()).toNat (sh ()) (w ()) (mo ()).toNat 0 (forced q)).2.2).getD 5 (0, 0)).2), .z .f32 (fun _ => (((corrK (c ()).toNat (sh ()) (w ()) (mo ()).toNat 0 (forced q)).2.2).getD 6 (0, 0)).1) (fun _ => (((corrK (c ()).toNat (sh ()) (w ()) (mo ()).toNat 0 (forced q)).2.2).getD 6 (0, 0)).2), .z .f32 (fun _ => (((corrK (c ()).toNat (sh ()) (w ()) (mo ()).toNat 0 (forced q)).2.2).getD 7 (0, 0)).1) (fun _ => (((corrK (c ()).toNat (sh ()) (w ()) (mo ()).toNat 0 (forced q)).2.2).getD 7 (0, 0)).2), .z .f32 (fun _ => (((corrK (c ()).toNat (sh ()) (w ()) (mo ()).toNat 0 (forced q)).2.2).getD 8 (0, 0)).1) (fun _ => (((corrK (c ()).toNat (sh ()) (w ()) (mo ()).toNat 0 (forced q)).2.2).getD 8 (0, 0)).2), .z .f32 (fun _ => (((corrK (c ()).toNat (sh ()) (w ()) (mo ()).toNat 0 (forced q)).2.2).getD 9 (0, 0)).1) (fun _ => (((corrK (c ()).toNat (sh ()) (w ()) (mo ()).toNat 0 (forced q)).2.2).getD 9 (0, 0)).2), .z .f32 (fun _ => (((corrK (c ()).toNat (sh ()) (w ()) (mo ()).toNat 0 (forced q)).2.2).getD 10 (0, 0)).1) (fun _ => (((corrK (c ()).toNat (sh ()) (w ()) (mo ()).toNat 0 (forced q)).2.2).getD 10 (0, 0)).2), .z .f32 (fun _ => (((corrK (c ()).toNat (sh ()) (w ()) (mo ()).toNat 0 (forced q)).2.2).getD 11 (0, 0)).1) (fun _ => (((corrK (c ()).toNat (sh ()) (w ()) (mo ()).toNat 0 (forced q)).2.2).getD 11 (0, 0)).2), .z .f32 (fun _ => (((corrK (c ()).toNat (sh ()) (w ()) (mo ()).toNat 0 (forced q)).2.2).getD 12 (0, 0)).1) (fun _ => (((corrK (c ()).toNat (sh ()) (w ()) (mo ()).toNat 0 (forced q)).2.2).getD 12 (0, 0)).2), .z .f32 (fun _ => (((corrK (c ()).toNat (sh ()) (w ()) (mo ()).toNat 0 (forced q)).2.2).getD 13 (0, 0)).1) (fun _ => (((corrK (c ()).toNat (sh ()) (w ()) (mo ()).toNat 0 (forced q)).2.2).getD 13 (0, 0)).2), .z .f32 (fun _ => (((corrK (c ()).toNat (sh ()) (w ()) (mo ()).toNat 0 (forced q)).2.2).getD 14 (0, 0)).1) (fun _ => (((corrK (c ()).toNat (sh ()) (w ()) (mo ()).toNat 0 (forced q)).2.2).getD 14 (0, 0)).2), .z .f32 (fun _ => (((corrK (c ()).toNat (sh ()) (w ()) (mo ()).toNat 0 (forced q)).2.2).getD 15 (0, 0)).1) (fun _ => (((corrK (c ()).toNat (sh ()) (w ()) (mo ()).toNat 0 (forced q)).2.2).getD 15 (0, 0)).2)], vI ((corrK (c ()).toNat (sh ()) (w ()) (mo ()).toNat 0 (forced q)).2.1 : Nat), vI (corrK (c ()).toNat (sh ()) (w ()) (mo ()).toNat 0 (forced q)).1], [], [fun _ => q.length = 16 ∧ okS (forced q) = true ∧ (0 ≤ c () ∧ c () ≤ 3) ∧ isIn (sh ()) 0 1073741824 = true ∧ isIn (w ()) 0 1166016512 = true ∧ 0 ≤ mo () ∧ mo () ≤ 200])
    | none => none
  | _, _ => none
def E13 : Env := fun g => envGetL [(51, ⟨true, s51, none⟩), (52, ⟨true, s52, none⟩), (53, ⟨true, s53, none⟩), (54, ⟨true, s54, none⟩), (55, ⟨true, s55, none⟩), (56, ⟨true, s56, none⟩), (57, ⟨true, s57, none⟩), (38, ⟨true, s38, none⟩), (39, ⟨true, s39, none⟩), (58, ⟨true, s58, none⟩)] g
theorem E13ok : EnvOk Try.prog E13 := envOk_cons ok51 (envOk_cons ok52 (envOk_cons ok53 (envOk_cons ok54 (envOk_cons ok55 (envOk_cons ok56 (envOk_cons ok57 (envOk_cons ok38 (envOk_cons ok39 (envOk_cons ok58 (envOk_nil _))))))))))
set_option maxRecDepth 100000 in
set_option maxHeartbeats 4000000 in
theorem ok13 : Ok Try.prog 13 (s13) := ok_of_wpaH (E := E13) mixed tts E13ok fn13 fun args H v H' o hs ho => by
  split at hs
  · rename_i cs c sh w mo
    split at hs
    · rename_i q hq
      cases hs
      obtain ⟨hlen, hok, hc, hsh, hw, hmo⟩ := ho.one
      obtain ⟨e, m, rfl, rfl⟩ := cx16 hq hlen
      clear hq hlen
      have hok : okS [(e 0 ⟨⟩, m 0 ⟨⟩), (e 1 ⟨⟩, m 1 ⟨⟩), (e 2 ⟨⟩, m 2 ⟨⟩), (e 3 ⟨⟩, m 3 ⟨⟩), (e 4 ⟨⟩, m 4 ⟨⟩), (e 5 ⟨⟩, m 5 ⟨⟩), (e 6 ⟨⟩, m 6 ⟨⟩), (e 7 ⟨⟩, m 7 ⟨⟩), (e 8 ⟨⟩, m 8 ⟨⟩), (e 9 ⟨⟩, m 9 ⟨⟩), (e 10 ⟨⟩, m 10 ⟨⟩), (e 11 ⟨⟩, m 11 ⟨⟩), (e 12 ⟨⟩, m 12 ⟨⟩), (e 13 ⟨⟩, m 13 ⟨⟩), (e 14 ⟨⟩, m 14 ⟨⟩), (e 15 ⟨⟩, m 15 ⟨⟩)] = true := hok
      have hc : 0 ≤ c ⟨⟩ ∧ c ⟨⟩ ≤ 3 := hc
      have hmo : 0 ≤ mo ⟨⟩ ∧ mo ⟨⟩ ≤ 200 := hmo
      have hw : isIn (w ⟨⟩) 0 1166016512 = true := hw
      have hs1 : fcmp .geq .f32 (sh ⟨⟩) 0 = true := (Bool.and_eq_true_iff.1 hsh).1
      have hs2 : fcmp .leq .f32 (sh ⟨⟩) 1073741824 = true := (Bool.and_eq_true_iff.1 hsh).2
      have hm1 : ltB (mo ⟨⟩) 0 = false := ltB_no.2 (Int.not_lt.2 hmo.1)
      have hm2 : ltB 200 (mo ⟨⟩) = false := ltB_no.2 (Int.not_lt.2 hmo.2)
      have hm3 : inI (mo ⟨⟩) 0 200 = true := inI_iff.2 hmo
      have hc3 : inI (c ⟨⟩) 0 3 = true := inI_iff.2 hc
      clear ho
      have hcode : ((if okS [(e 0 ⟨⟩, m 0 ⟨⟩), (e 1 ⟨⟩, m 1 ⟨⟩), (e 2 ⟨⟩, m 2 ⟨⟩), (e 3 ⟨⟩, m 3 ⟨⟩), (e 4 ⟨⟩, m 4 ⟨⟩), (e 5 ⟨⟩, m 5 ⟨⟩), (e 6 ⟨⟩, m 6 ⟨⟩), (e 7 ⟨⟩, m 7 ⟨⟩), (e 8 ⟨⟩, m 8 ⟨⟩), (e 9 ⟨⟩, m 9 ⟨⟩), (e 10 ⟨⟩, m 10 ⟨⟩), (e 11 ⟨⟩, m 11 ⟨⟩), (e 12 ⟨⟩, m 12 ⟨⟩), (e 13 ⟨⟩, m 13 ⟨⟩), (e 14 ⟨⟩, m 14 ⟨⟩), (e 15 ⟨⟩, m 15 ⟨⟩)] = true then if inI (c ⟨⟩) 0 3 = true ∧ inI (mo ⟨⟩) 0 200 = true then (0 : Int) else 2 else 1) != 0) = false := by rw [if_pos hok, if_pos ⟨hc3, hm3⟩]; rfl
      refine ⟨_, HLe.refl _, ?_⟩
      cbv
      refine Br.t hs1 ?_
      cbv
      refine Br.t hs2 ?_
      cbv
      refine Br.t hw ?_
      cbv
      repeat' (refine Ob.mk ?_ ?_; (focus (first | exact rfl)); cbv)
      refine Br.f hcode ?_
      cbv
      refine loop_rule (α := (Unit → Nat) × (Unit → List M)) (c := ⟨tt, E13, 0⟩) (fun a => fr 80 [(1, .c (.i .i64 (.x c))), (2, .c (.f .f32 sh)), (3, .c (.f .f32 w)), (4, .c (.i .i64 (.x mo))), (5, .c (.p 0 (.l 0))), (10, .c (.p 1 (.l 0))), (15, .c (.i .i64 (.x fun _ => (a.1 () : Int))))]) (fun a => [some ⟨true, 0, .cx a.2⟩, some ⟨true, 0, .lit [.z .f32 (fun _ => 0) (fun _ => 0), .z .f32 (fun _ => 0) (fun _ => 0), .z .f32 (fun _ => 0) (fun _ => 0), .z .f32 (fun _ => 0) (fun _ => 0), .z .f32 (fun _ => 0) (fun _ => 0), .z .f32 (fun _ => 0) (fun _ => 0), .z .f32 (fun _ => 0) (fun _ => 0), .z .f32 (fun _ => 0) (fun _ => 0), .z .f32 (fun _ => 0) (fun _ => 0), .z .f32 (fun _ => 0) (fun _ => 0), .z .f32 (fun _ => 0) (fun _ => 0), .z .f32 (fun _ => 0) (fun _ => 0), .z .f32 (fun _ => 0) (fun _ => 0), .z .f32 (fun _ => 0) (fun _ => 0), .z .f32 (fun _ => 0) (fun _ => 0), .z .f32 (fun _ => 0) (fun _ => 0)]⟩])
        (fun a => a.1 () ≤ (mo ()).toNat ∧ okS (a.2 ()) = true ∧ (a.2 ()).length = 16 ∧ corrK (c ()).toNat (sh ()) (w ()) ((mo ()).toNat - a.1 ()) (a.1 ()) (a.2 ()) = corrK (c ⟨⟩).toNat (sh ⟨⟩) (w ⟨⟩) (mo ⟨⟩).toNat 0 [(e 0 ⟨⟩, m 0 ⟨⟩), (e 1 ⟨⟩, m 1 ⟨⟩), (e 2 ⟨⟩, m 2 ⟨⟩), (e 3 ⟨⟩, m 3 ⟨⟩), (e 4 ⟨⟩, m 4 ⟨⟩), (e 5 ⟨⟩, m 5 ⟨⟩), (e 6 ⟨⟩, m 6 ⟨⟩), (e 7 ⟨⟩, m 7 ⟨⟩), (e 8 ⟨⟩, m 8 ⟨⟩), (e 9 ⟨⟩, m 9 ⟨⟩), (e 10 ⟨⟩, m 10 ⟨⟩), (e 11 ⟨⟩, m 11 ⟨⟩), (e 12 ⟨⟩, m 12 ⟨⟩), (e 13 ⟨⟩, m 13 ⟨⟩), (e 14 ⟨⟩, m 14 ⟨⟩), (e 15 ⟨⟩, m 15 ⟨⟩)]) (fun a => (mo ()).toNat - a.1 ()) (fun _ => (mo ()).toNat + 1) ?_ ?_
      · refine .mk (fun _ => 0, fun _ => [(e 0 (), m 0 ()), (e 1 (), m 1 ()), (e 2 (), m 2 ()), (e 3 (), m 3 ()), (e 4 (), m 4 ()), (e 5 (), m 5 ()), (e 6 (), m 6 ()), (e 7 (), m 7 ()), (e 8 (), m 8 ()), (e 9 (), m 9 ()), (e 10 (), m 10 ()), (e 11 (), m 11 ()), (e 12 (), m 12 ()), (e 13 (), m 13 ()), (e 14 (), m 14 ()), (e 15 (), m 15 ())]) ⟨Nat.zero_le _, hok, rfl, rfl⟩ (by dsimp only; omega) ?_
        cbv
        repeat' (refine Ob.mk ?_ ?_; rotate_left)
        all_goals (try simp only [Unit.unit, Int.ofNat_lt, Int.ofNat_le, BE.val, IE.val, NE.val, ltB_iff, ltB_no, leB_iff, leB_no, Int.toNat_natCast, Nat.zero_add, Nat.add_zero, Nat.mul_one, forced, beq_iff_eq, beq_eq_false_iff_ne, bne_iff_ne, bne_eq_false_iff_eq] at *)
        all_goals first | with_reducible rfl | exact True.intro | rfl
      · rintro ⟨k, lk⟩ ⟨hk1, hkok, hkl, hkK⟩
        have hk1 : k ⟨⟩ ≤ (mo ⟨⟩).toNat := hk1
        have hkok : okS (lk ⟨⟩) = true := hkok
        have hkl : (lk ⟨⟩).length = 16 := hkl
        have hkK : corrK (c ⟨⟩).toNat (sh ⟨⟩) (w ⟨⟩) ((mo ⟨⟩).toNat - k ⟨⟩) (k ⟨⟩) (lk ⟨⟩) = corrK (c ⟨⟩).toNat (sh ⟨⟩) (w ⟨⟩) (mo ⟨⟩).toNat 0 [(e 0 ⟨⟩, m 0 ⟨⟩), (e 1 ⟨⟩, m 1 ⟨⟩), (e 2 ⟨⟩, m 2 ⟨⟩), (e 3 ⟨⟩, m 3 ⟨⟩), (e 4 ⟨⟩, m 4 ⟨⟩), (e 5 ⟨⟩, m 5 ⟨⟩), (e 6 ⟨⟩, m 6 ⟨⟩), (e 7 ⟨⟩, m 7 ⟨⟩), (e 8 ⟨⟩, m 8 ⟨⟩), (e 9 ⟨⟩, m 9 ⟨⟩), (e 10 ⟨⟩, m 10 ⟨⟩), (e 11 ⟨⟩, m 11 ⟨⟩), (e 12 ⟨⟩, m 12 ⟨⟩), (e 13 ⟨⟩, m 13 ⟨⟩), (e 14 ⟨⟩, m 14 ⟨⟩), (e 15 ⟨⟩, m 15 ⟨⟩)] := hkK
        have heta : [(((lk ⟨⟩).getD 0 (0, 0)).1, ((lk ⟨⟩).getD 0 (0, 0)).2), (((lk ⟨⟩).getD 1 (0, 0)).1, ((lk ⟨⟩).getD 1 (0, 0)).2), (((lk ⟨⟩).getD 2 (0, 0)).1, ((lk ⟨⟩).getD 2 (0, 0)).2), (((lk ⟨⟩).getD 3 (0, 0)).1, ((lk ⟨⟩).getD 3 (0, 0)).2), (((lk ⟨⟩).getD 4 (0, 0)).1, ((lk ⟨⟩).getD 4 (0, 0)).2), (((lk ⟨⟩).getD 5 (0, 0)).1, ((lk ⟨⟩).getD 5 (0, 0)).2), (((lk ⟨⟩).getD 6 (0, 0)).1, ((lk ⟨⟩).getD 6 (0, 0)).2), (((lk ⟨⟩).getD 7 (0, 0)).1, ((lk ⟨⟩).getD 7 (0, 0)).2), (((lk ⟨⟩).getD 8 (0, 0)).1, ((lk ⟨⟩).getD 8 (0, 0)).2), (((lk ⟨⟩).getD 9 (0, 0)).1, ((lk ⟨⟩).getD 9 (0, 0)).2), (((lk ⟨⟩).getD 10 (0, 0)).1, ((lk ⟨⟩).getD 10 (0, 0)).2), (((lk ⟨⟩).getD 11 (0, 0)).1, ((lk ⟨⟩).getD 11 (0, 0)).2), (((lk ⟨⟩).getD 12 (0, 0)).1, ((lk ⟨⟩).getD 12 (0, 0)).2), (((lk ⟨⟩).getD 13 (0, 0)).1, ((lk ⟨⟩).getD 13 (0, 0)).2), (((lk ⟨⟩).getD 14 (0, 0)).1, ((lk ⟨⟩).getD 14 (0, 0)).2), (((lk ⟨⟩).getD 15 (0, 0)).1, ((lk ⟨⟩).getD 15 (0, 0)).2)] = lk ⟨⟩ := eta16 hkl
        cbv
        repeat' (refine Ob.mk ?_ ?_; (focus (first | exact rfl | exact ⟨rfl, hc⟩ | exact ⟨hkl, hc⟩ | (dsimp only [IE.val, NE.val]; rw [hkl]; decide))); cbv)
        refine Br.mk (fun h => ?_) (fun h => ?_)
        · have h' : fcmp .leq .f32 (grS (lk ⟨⟩) (c ⟨⟩).toNat 3).2 (w ⟨⟩) = true := by exact h
          have hval : corrK (c ⟨⟩).toNat (sh ⟨⟩) (w ⟨⟩) (mo ⟨⟩).toNat 0 [(e 0 ⟨⟩, m 0 ⟨⟩), (e 1 ⟨⟩, m 1 ⟨⟩), (e 2 ⟨⟩, m 2 ⟨⟩), (e 3 ⟨⟩, m 3 ⟨⟩), (e 4 ⟨⟩, m 4 ⟨⟩), (e 5 ⟨⟩, m 5 ⟨⟩), (e 6 ⟨⟩, m 6 ⟨⟩), (e 7 ⟨⟩, m 7 ⟨⟩), (e 8 ⟨⟩, m 8 ⟨⟩), (e 9 ⟨⟩, m 9 ⟨⟩), (e 10 ⟨⟩, m 10 ⟨⟩), (e 11 ⟨⟩, m 11 ⟨⟩), (e 12 ⟨⟩, m 12 ⟨⟩), (e 13 ⟨⟩, m 13 ⟨⟩), (e 14 ⟨⟩, m 14 ⟨⟩), (e 15 ⟨⟩, m 15 ⟨⟩)] = (0, k ⟨⟩, lk ⟨⟩) := by rw [← hkK]; exact corr_hit h' _
          cbv
          repeat' (refine Ob.mk ?_ ?_; (focus (first | exact rfl | (dsimp only [IE.val, NE.val]; rw [hkl]; decide))); cbv)
          have hA : ∀ i, ((lk ⟨⟩).getD i (0, 0)).1 = ((corrK (c ⟨⟩).toNat (sh ⟨⟩) (w ⟨⟩) (mo ⟨⟩).toNat 0 [(e 0 ⟨⟩, m 0 ⟨⟩), (e 1 ⟨⟩, m 1 ⟨⟩), (e 2 ⟨⟩, m 2 ⟨⟩), (e 3 ⟨⟩, m 3 ⟨⟩), (e 4 ⟨⟩, m 4 ⟨⟩), (e 5 ⟨⟩, m 5 ⟨⟩), (e 6 ⟨⟩, m 6 ⟨⟩), (e 7 ⟨⟩, m 7 ⟨⟩), (e 8 ⟨⟩, m 8 ⟨⟩), (e 9 ⟨⟩, m 9 ⟨⟩), (e 10 ⟨⟩, m 10 ⟨⟩), (e 11 ⟨⟩, m 11 ⟨⟩), (e 12 ⟨⟩, m 12 ⟨⟩), (e 13 ⟨⟩, m 13 ⟨⟩), (e 14 ⟨⟩, m 14 ⟨⟩), (e 15 ⟨⟩, m 15 ⟨⟩)]).2.2.getD i (0, 0)).1 := fun i => by rw [hval]
          have hB : ∀ i, ((lk ⟨⟩).getD i (0, 0)).2 = ((corrK (c ⟨⟩).toNat (sh ⟨⟩) (w ⟨⟩) (mo ⟨⟩).toNat 0 [(e 0 ⟨⟩, m 0 ⟨⟩), (e 1 ⟨⟩, m 1 ⟨⟩), (e 2 ⟨⟩, m 2 ⟨⟩), (e 3 ⟨⟩, m 3 ⟨⟩), (e 4 ⟨⟩, m 4 ⟨⟩), (e 5 ⟨⟩, m 5 ⟨⟩), (e 6 ⟨⟩, m 6 ⟨⟩), (e 7 ⟨⟩, m 7 ⟨⟩), (e 8 ⟨⟩, m 8 ⟨⟩), (e 9 ⟨⟩, m 9 ⟨⟩), (e 10 ⟨⟩, m 10 ⟨⟩), (e 11 ⟨⟩, m 11 ⟨⟩), (e 12 ⟨⟩, m 12 ⟨⟩), (e 13 ⟨⟩, m 13 ⟨⟩), (e 14 ⟨⟩, m 14 ⟨⟩), (e 15 ⟨⟩, m 15 ⟨⟩)]).2.2.getD i (0, 0)).2 := fun i => by rw [hval]
          have hC : ((k ⟨⟩ : Int) : Int) = (((corrK (c ⟨⟩).toNat (sh ⟨⟩) (w ⟨⟩) (mo ⟨⟩).toNat 0 [(e 0 ⟨⟩, m 0 ⟨⟩), (e 1 ⟨⟩, m 1 ⟨⟩), (e 2 ⟨⟩, m 2 ⟨⟩), (e 3 ⟨⟩, m 3 ⟨⟩), (e 4 ⟨⟩, m 4 ⟨⟩), (e 5 ⟨⟩, m 5 ⟨⟩), (e 6 ⟨⟩, m 6 ⟨⟩), (e 7 ⟨⟩, m 7 ⟨⟩), (e 8 ⟨⟩, m 8 ⟨⟩), (e 9 ⟨⟩, m 9 ⟨⟩), (e 10 ⟨⟩, m 10 ⟨⟩), (e 11 ⟨⟩, m 11 ⟨⟩), (e 12 ⟨⟩, m 12 ⟨⟩), (e 13 ⟨⟩, m 13 ⟨⟩), (e 14 ⟨⟩, m 14 ⟨⟩), (e 15 ⟨⟩, m 15 ⟨⟩)]).2.1 : Nat) : Int) := by rw [hval]
          have hD : (0 : Int) = (corrK (c ⟨⟩).toNat (sh ⟨⟩) (w ⟨⟩) (mo ⟨⟩).toNat 0 [(e 0 ⟨⟩, m 0 ⟨⟩), (e 1 ⟨⟩, m 1 ⟨⟩), (e 2 ⟨⟩, m 2 ⟨⟩), (e 3 ⟨⟩, m 3 ⟨⟩), (e 4 ⟨⟩, m 4 ⟨⟩), (e 5 ⟨⟩, m 5 ⟨⟩), (e 6 ⟨⟩, m 6 ⟨⟩), (e 7 ⟨⟩, m 7 ⟨⟩), (e 8 ⟨⟩, m 8 ⟨⟩), (e 9 ⟨⟩, m 9 ⟨⟩), (e 10 ⟨⟩, m 10 ⟨⟩), (e 11 ⟨⟩, m 11 ⟨⟩), (e 12 ⟨⟩, m 12 ⟨⟩), (e 13 ⟨⟩, m 13 ⟨⟩), (e 14 ⟨⟩, m 14 ⟨⟩), (e 15 ⟨⟩, m 15 ⟨⟩)]).1 := by rw [hval]
          cbv
          repeat' (refine Ob.mk ?_ ?_; (focus (first | exact hA _ | exact hB _ | exact hC | exact hD | exact rfl | (dsimp only [IE.val, NE.val]; rw [hkl]; decide))); cbv)
        · have h' : fcmp .leq .f32 (grS (lk ⟨⟩) (c ⟨⟩).toNat 3).2 (w ⟨⟩) = false := by exact h
          clear h
          by_cases hend : (k ⟨⟩ : Int) = mo ⟨⟩
          · have hz : (mo ⟨⟩).toNat - k ⟨⟩ = 0 := by omega
            have hval : corrK (c ⟨⟩).toNat (sh ⟨⟩) (w ⟨⟩) (mo ⟨⟩).toNat 0 [(e 0 ⟨⟩, m 0 ⟨⟩), (e 1 ⟨⟩, m 1 ⟨⟩), (e 2 ⟨⟩, m 2 ⟨⟩), (e 3 ⟨⟩, m 3 ⟨⟩), (e 4 ⟨⟩, m 4 ⟨⟩), (e 5 ⟨⟩, m 5 ⟨⟩), (e 6 ⟨⟩, m 6 ⟨⟩), (e 7 ⟨⟩, m 7 ⟨⟩), (e 8 ⟨⟩, m 8 ⟨⟩), (e 9 ⟨⟩, m 9 ⟨⟩), (e 10 ⟨⟩, m 10 ⟨⟩), (e 11 ⟨⟩, m 11 ⟨⟩), (e 12 ⟨⟩, m 12 ⟨⟩), (e 13 ⟨⟩, m 13 ⟨⟩), (e 14 ⟨⟩, m 14 ⟨⟩), (e 15 ⟨⟩, m 15 ⟨⟩)] = (7, 0, noS) := by rw [← hkK, hz]; exact corr_end h'
            cbv
            refine Br.t (eqz_t hend) ?_
            have hA : ∀ i, (0 : Nat) = ((corrK (c ⟨⟩).toNat (sh ⟨⟩) (w ⟨⟩) (mo ⟨⟩).toNat 0 [(e 0 ⟨⟩, m 0 ⟨⟩), (e 1 ⟨⟩, m 1 ⟨⟩), (e 2 ⟨⟩, m 2 ⟨⟩), (e 3 ⟨⟩, m 3 ⟨⟩), (e 4 ⟨⟩, m 4 ⟨⟩), (e 5 ⟨⟩, m 5 ⟨⟩), (e 6 ⟨⟩, m 6 ⟨⟩), (e 7 ⟨⟩, m 7 ⟨⟩), (e 8 ⟨⟩, m 8 ⟨⟩), (e 9 ⟨⟩, m 9 ⟨⟩), (e 10 ⟨⟩, m 10 ⟨⟩), (e 11 ⟨⟩, m 11 ⟨⟩), (e 12 ⟨⟩, m 12 ⟨⟩), (e 13 ⟨⟩, m 13 ⟨⟩), (e 14 ⟨⟩, m 14 ⟨⟩), (e 15 ⟨⟩, m 15 ⟨⟩)]).2.2.getD i (0, 0)).1 := fun i => by rw [hval, noS_get]
            have hB : ∀ i, (0 : Nat) = ((corrK (c ⟨⟩).toNat (sh ⟨⟩) (w ⟨⟩) (mo ⟨⟩).toNat 0 [(e 0 ⟨⟩, m 0 ⟨⟩), (e 1 ⟨⟩, m 1 ⟨⟩), (e 2 ⟨⟩, m 2 ⟨⟩), (e 3 ⟨⟩, m 3 ⟨⟩), (e 4 ⟨⟩, m 4 ⟨⟩), (e 5 ⟨⟩, m 5 ⟨⟩), (e 6 ⟨⟩, m 6 ⟨⟩), (e 7 ⟨⟩, m 7 ⟨⟩), (e 8 ⟨⟩, m 8 ⟨⟩), (e 9 ⟨⟩, m 9 ⟨⟩), (e 10 ⟨⟩, m 10 ⟨⟩), (e 11 ⟨⟩, m 11 ⟨⟩), (e 12 ⟨⟩, m 12 ⟨⟩), (e 13 ⟨⟩, m 13 ⟨⟩), (e 14 ⟨⟩, m 14 ⟨⟩), (e 15 ⟨⟩, m 15 ⟨⟩)]).2.2.getD i (0, 0)).2 := fun i => by rw [hval, noS_get]
            have hC : (0 : Int) = (((corrK (c ⟨⟩).toNat (sh ⟨⟩) (w ⟨⟩) (mo ⟨⟩).toNat 0 [(e 0 ⟨⟩, m 0 ⟨⟩), (e 1 ⟨⟩, m 1 ⟨⟩), (e 2 ⟨⟩, m 2 ⟨⟩), (e 3 ⟨⟩, m 3 ⟨⟩), (e 4 ⟨⟩, m 4 ⟨⟩), (e 5 ⟨⟩, m 5 ⟨⟩), (e 6 ⟨⟩, m 6 ⟨⟩), (e 7 ⟨⟩, m 7 ⟨⟩), (e 8 ⟨⟩, m 8 ⟨⟩), (e 9 ⟨⟩, m 9 ⟨⟩), (e 10 ⟨⟩, m 10 ⟨⟩), (e 11 ⟨⟩, m 11 ⟨⟩), (e 12 ⟨⟩, m 12 ⟨⟩), (e 13 ⟨⟩, m 13 ⟨⟩), (e 14 ⟨⟩, m 14 ⟨⟩), (e 15 ⟨⟩, m 15 ⟨⟩)]).2.1 : Nat) : Int) := by rw [hval]; rfl
            have hD : (7 : Int) = (corrK (c ⟨⟩).toNat (sh ⟨⟩) (w ⟨⟩) (mo ⟨⟩).toNat 0 [(e 0 ⟨⟩, m 0 ⟨⟩), (e 1 ⟨⟩, m 1 ⟨⟩), (e 2 ⟨⟩, m 2 ⟨⟩), (e 3 ⟨⟩, m 3 ⟨⟩), (e 4 ⟨⟩, m 4 ⟨⟩), (e 5 ⟨⟩, m 5 ⟨⟩), (e 6 ⟨⟩, m 6 ⟨⟩), (e 7 ⟨⟩, m 7 ⟨⟩), (e 8 ⟨⟩, m 8 ⟨⟩), (e 9 ⟨⟩, m 9 ⟨⟩), (e 10 ⟨⟩, m 10 ⟨⟩), (e 11 ⟨⟩, m 11 ⟨⟩), (e 12 ⟨⟩, m 12 ⟨⟩), (e 13 ⟨⟩, m 13 ⟨⟩), (e 14 ⟨⟩, m 14 ⟨⟩), (e 15 ⟨⟩, m 15 ⟨⟩)]).1 := by rw [hval]
            cbv
            repeat' (refine Ob.mk ?_ ?_; (focus (first | exact hA _ | exact hB _ | exact hC | exact hD | exact rfl | (dsimp only [IE.val, NE.val]; rw [hkl]; decide))); cbv)
          · have hlt : k ⟨⟩ < (mo ⟨⟩).toNat := by omega
            obtain ⟨m', hm'⟩ : ∃ m', (mo ⟨⟩).toNat - k ⟨⟩ = m' + 1 := ⟨(mo ⟨⟩).toNat - k ⟨⟩ - 1, by omega⟩
            have hkn : m' = (mo ⟨⟩).toNat - (k ⟨⟩ + 1) := by omega
            have hmeas : (mo ⟨⟩).toNat - (k ⟨⟩ + 1) < (mo ⟨⟩).toNat - k ⟨⟩ := by omega
            have hnl : (nextS (lk ⟨⟩) (c ⟨⟩).toNat (sh ⟨⟩)).length = 16 := by rw [nextS_len, hkl]
            cbv
            refine Br.f (eqz_f hend) ?_
            cbv
            have hEX : moveS [(((lk ⟨⟩).getD 0 (0, 0)).1, ((lk ⟨⟩).getD 0 (0, 0)).2), (((lk ⟨⟩).getD 1 (0, 0)).1, ((lk ⟨⟩).getD 1 (0, 0)).2), (((lk ⟨⟩).getD 2 (0, 0)).1, ((lk ⟨⟩).getD 2 (0, 0)).2), (((lk ⟨⟩).getD 3 (0, 0)).1, ((lk ⟨⟩).getD 3 (0, 0)).2), (((lk ⟨⟩).getD 4 (0, 0)).1, ((lk ⟨⟩).getD 4 (0, 0)).2), (((lk ⟨⟩).getD 5 (0, 0)).1, ((lk ⟨⟩).getD 5 (0, 0)).2), (((lk ⟨⟩).getD 6 (0, 0)).1, ((lk ⟨⟩).getD 6 (0, 0)).2), (((lk ⟨⟩).getD 7 (0, 0)).1, ((lk ⟨⟩).getD 7 (0, 0)).2), (((lk ⟨⟩).getD 8 (0, 0)).1, ((lk ⟨⟩).getD 8 (0, 0)).2), (((lk ⟨⟩).getD 9 (0, 0)).1, ((lk ⟨⟩).getD 9 (0, 0)).2), (((lk ⟨⟩).getD 10 (0, 0)).1, ((lk ⟨⟩).getD 10 (0, 0)).2), (((lk ⟨⟩).getD 11 (0, 0)).1, ((lk ⟨⟩).getD 11 (0, 0)).2), (((lk ⟨⟩).getD 12 (0, 0)).1, ((lk ⟨⟩).getD 12 (0, 0)).2), (((lk ⟨⟩).getD 13 (0, 0)).1, ((lk ⟨⟩).getD 13 (0, 0)).2), (((lk ⟨⟩).getD 14 (0, 0)).1, ((lk ⟨⟩).getD 14 (0, 0)).2), (((lk ⟨⟩).getD 15 (0, 0)).1, ((lk ⟨⟩).getD 15 (0, 0)).2)] (c ⟨⟩).toNat (negM (meanO (lk ⟨⟩) (c ⟨⟩).toNat) (sh ⟨⟩)) = nextS (lk ⟨⟩) (c ⟨⟩).toNat (sh ⟨⟩) := by rw [heta]; rfl
            have hset := (set16 (l := lk ⟨⟩) (r := moveS [(((lk ⟨⟩).getD 0 (0, 0)).1, ((lk ⟨⟩).getD 0 (0, 0)).2), (((lk ⟨⟩).getD 1 (0, 0)).1, ((lk ⟨⟩).getD 1 (0, 0)).2), (((lk ⟨⟩).getD 2 (0, 0)).1, ((lk ⟨⟩).getD 2 (0, 0)).2), (((lk ⟨⟩).getD 3 (0, 0)).1, ((lk ⟨⟩).getD 3 (0, 0)).2), (((lk ⟨⟩).getD 4 (0, 0)).1, ((lk ⟨⟩).getD 4 (0, 0)).2), (((lk ⟨⟩).getD 5 (0, 0)).1, ((lk ⟨⟩).getD 5 (0, 0)).2), (((lk ⟨⟩).getD 6 (0, 0)).1, ((lk ⟨⟩).getD 6 (0, 0)).2), (((lk ⟨⟩).getD 7 (0, 0)).1, ((lk ⟨⟩).getD 7 (0, 0)).2), (((lk ⟨⟩).getD 8 (0, 0)).1, ((lk ⟨⟩).getD 8 (0, 0)).2), (((lk ⟨⟩).getD 9 (0, 0)).1, ((lk ⟨⟩).getD 9 (0, 0)).2), (((lk ⟨⟩).getD 10 (0, 0)).1, ((lk ⟨⟩).getD 10 (0, 0)).2), (((lk ⟨⟩).getD 11 (0, 0)).1, ((lk ⟨⟩).getD 11 (0, 0)).2), (((lk ⟨⟩).getD 12 (0, 0)).1, ((lk ⟨⟩).getD 12 (0, 0)).2), (((lk ⟨⟩).getD 13 (0, 0)).1, ((lk ⟨⟩).getD 13 (0, 0)).2), (((lk ⟨⟩).getD 14 (0, 0)).1, ((lk ⟨⟩).getD 14 (0, 0)).2), (((lk ⟨⟩).getD 15 (0, 0)).1, ((lk ⟨⟩).getD 15 (0, 0)).2)] (c ⟨⟩).toNat (negM (meanO (lk ⟨⟩) (c ⟨⟩).toNat) (sh ⟨⟩))) hkl (by rw [hEX]; exact hnl)).trans hEX
            repeat' first
              | (refine Ob.mk ?_ ?_; (focus (first | exact rfl | exact ⟨rfl, hc⟩ | exact ⟨hkl, hc⟩ | (dsimp only [IE.val, NE.val]; rw [hkl]; decide) | (dsimp only [IE.val, NE.val]; simp only [List.length_set]; rw [hkl]; decide) | (simp only [List.length_set]; exact hkl))); cbv)
            refine Br.mk (fun h2 => ?_) (fun h2 => ?_)
            · have h4 : okS (nextS (lk ⟨⟩) (c ⟨⟩).toNat (sh ⟨⟩)) = false := by rw [← hset]; exact nbt h2
              have hval : corrK (c ⟨⟩).toNat (sh ⟨⟩) (w ⟨⟩) (mo ⟨⟩).toNat 0 [(e 0 ⟨⟩, m 0 ⟨⟩), (e 1 ⟨⟩, m 1 ⟨⟩), (e 2 ⟨⟩, m 2 ⟨⟩), (e 3 ⟨⟩, m 3 ⟨⟩), (e 4 ⟨⟩, m 4 ⟨⟩), (e 5 ⟨⟩, m 5 ⟨⟩), (e 6 ⟨⟩, m 6 ⟨⟩), (e 7 ⟨⟩, m 7 ⟨⟩), (e 8 ⟨⟩, m 8 ⟨⟩), (e 9 ⟨⟩, m 9 ⟨⟩), (e 10 ⟨⟩, m 10 ⟨⟩), (e 11 ⟨⟩, m 11 ⟨⟩), (e 12 ⟨⟩, m 12 ⟨⟩), (e 13 ⟨⟩, m 13 ⟨⟩), (e 14 ⟨⟩, m 14 ⟨⟩), (e 15 ⟨⟩, m 15 ⟨⟩)] = (4, 0, noS) := by rw [← hkK, hm']; exact corr_stop h' h4
              have hA : ∀ i, (0 : Nat) = ((corrK (c ⟨⟩).toNat (sh ⟨⟩) (w ⟨⟩) (mo ⟨⟩).toNat 0 [(e 0 ⟨⟩, m 0 ⟨⟩), (e 1 ⟨⟩, m 1 ⟨⟩), (e 2 ⟨⟩, m 2 ⟨⟩), (e 3 ⟨⟩, m 3 ⟨⟩), (e 4 ⟨⟩, m 4 ⟨⟩), (e 5 ⟨⟩, m 5 ⟨⟩), (e 6 ⟨⟩, m 6 ⟨⟩), (e 7 ⟨⟩, m 7 ⟨⟩), (e 8 ⟨⟩, m 8 ⟨⟩), (e 9 ⟨⟩, m 9 ⟨⟩), (e 10 ⟨⟩, m 10 ⟨⟩), (e 11 ⟨⟩, m 11 ⟨⟩), (e 12 ⟨⟩, m 12 ⟨⟩), (e 13 ⟨⟩, m 13 ⟨⟩), (e 14 ⟨⟩, m 14 ⟨⟩), (e 15 ⟨⟩, m 15 ⟨⟩)]).2.2.getD i (0, 0)).1 := fun i => by rw [hval, noS_get]
              have hB : ∀ i, (0 : Nat) = ((corrK (c ⟨⟩).toNat (sh ⟨⟩) (w ⟨⟩) (mo ⟨⟩).toNat 0 [(e 0 ⟨⟩, m 0 ⟨⟩), (e 1 ⟨⟩, m 1 ⟨⟩), (e 2 ⟨⟩, m 2 ⟨⟩), (e 3 ⟨⟩, m 3 ⟨⟩), (e 4 ⟨⟩, m 4 ⟨⟩), (e 5 ⟨⟩, m 5 ⟨⟩), (e 6 ⟨⟩, m 6 ⟨⟩), (e 7 ⟨⟩, m 7 ⟨⟩), (e 8 ⟨⟩, m 8 ⟨⟩), (e 9 ⟨⟩, m 9 ⟨⟩), (e 10 ⟨⟩, m 10 ⟨⟩), (e 11 ⟨⟩, m 11 ⟨⟩), (e 12 ⟨⟩, m 12 ⟨⟩), (e 13 ⟨⟩, m 13 ⟨⟩), (e 14 ⟨⟩, m 14 ⟨⟩), (e 15 ⟨⟩, m 15 ⟨⟩)]).2.2.getD i (0, 0)).2 := fun i => by rw [hval, noS_get]
              have hC : (0 : Int) = (((corrK (c ⟨⟩).toNat (sh ⟨⟩) (w ⟨⟩) (mo ⟨⟩).toNat 0 [(e 0 ⟨⟩, m 0 ⟨⟩), (e 1 ⟨⟩, m 1 ⟨⟩), (e 2 ⟨⟩, m 2 ⟨⟩), (e 3 ⟨⟩, m 3 ⟨⟩), (e 4 ⟨⟩, m 4 ⟨⟩), (e 5 ⟨⟩, m 5 ⟨⟩), (e 6 ⟨⟩, m 6 ⟨⟩), (e 7 ⟨⟩, m 7 ⟨⟩), (e 8 ⟨⟩, m 8 ⟨⟩), (e 9 ⟨⟩, m 9 ⟨⟩), (e 10 ⟨⟩, m 10 ⟨⟩), (e 11 ⟨⟩, m 11 ⟨⟩), (e 12 ⟨⟩, m 12 ⟨⟩), (e 13 ⟨⟩, m 13 ⟨⟩), (e 14 ⟨⟩, m 14 ⟨⟩), (e 15 ⟨⟩, m 15 ⟨⟩)]).2.1 : Nat) : Int) := by rw [hval]; rfl
              have hD : (4 : Int) = (corrK (c ⟨⟩).toNat (sh ⟨⟩) (w ⟨⟩) (mo ⟨⟩).toNat 0 [(e 0 ⟨⟩, m 0 ⟨⟩), (e 1 ⟨⟩, m 1 ⟨⟩), (e 2 ⟨⟩, m 2 ⟨⟩), (e 3 ⟨⟩, m 3 ⟨⟩), (e 4 ⟨⟩, m 4 ⟨⟩), (e 5 ⟨⟩, m 5 ⟨⟩), (e 6 ⟨⟩, m 6 ⟨⟩), (e 7 ⟨⟩, m 7 ⟨⟩), (e 8 ⟨⟩, m 8 ⟨⟩), (e 9 ⟨⟩, m 9 ⟨⟩), (e 10 ⟨⟩, m 10 ⟨⟩), (e 11 ⟨⟩, m 11 ⟨⟩), (e 12 ⟨⟩, m 12 ⟨⟩), (e 13 ⟨⟩, m 13 ⟨⟩), (e 14 ⟨⟩, m 14 ⟨⟩), (e 15 ⟨⟩, m 15 ⟨⟩)]).1 := by rw [hval]
              cbv
              repeat' (refine Ob.mk ?_ ?_; (focus (first | exact hA _ | exact hB _ | exact hC | exact hD | exact rfl | (dsimp only [IE.val, NE.val]; rw [hkl]; decide))); cbv)
            · have h4 : okS (nextS (lk ⟨⟩) (c ⟨⟩).toNat (sh ⟨⟩)) = true := by rw [← hset]; exact nbf h2
              have hstep : corrK (c ⟨⟩).toNat (sh ⟨⟩) (w ⟨⟩) ((mo ⟨⟩).toNat - (k ⟨⟩ + 1)) (k ⟨⟩ + 1) (nextS (lk ⟨⟩) (c ⟨⟩).toNat (sh ⟨⟩)) = corrK (c ⟨⟩).toNat (sh ⟨⟩) (w ⟨⟩) (mo ⟨⟩).toNat 0 [(e 0 ⟨⟩, m 0 ⟨⟩), (e 1 ⟨⟩, m 1 ⟨⟩), (e 2 ⟨⟩, m 2 ⟨⟩), (e 3 ⟨⟩, m 3 ⟨⟩), (e 4 ⟨⟩, m 4 ⟨⟩), (e 5 ⟨⟩, m 5 ⟨⟩), (e 6 ⟨⟩, m 6 ⟨⟩), (e 7 ⟨⟩, m 7 ⟨⟩), (e 8 ⟨⟩, m 8 ⟨⟩), (e 9 ⟨⟩, m 9 ⟨⟩), (e 10 ⟨⟩, m 10 ⟨⟩), (e 11 ⟨⟩, m 11 ⟨⟩), (e 12 ⟨⟩, m 12 ⟨⟩), (e 13 ⟨⟩, m 13 ⟨⟩), (e 14 ⟨⟩, m 14 ⟨⟩), (e 15 ⟨⟩, m 15 ⟨⟩)] := by rw [← hkK, hm', ← hkn]; exact (corr_next h' h4).symm
              cbv
              repeat' first
                | (refine Ob.mk ?_ ?_; (focus (first | exact rfl | (dsimp only [IE.val, NE.val]; rw [hkl]; decide) | (dsimp only [IE.val, NE.val]; simp only [List.length_set]; rw [hkl]; decide))); cbv)
                | (refine Next.mk (fun _ => k () + 1, fun _ => nextS (lk ()) (c ()).toNat (sh ())) ⟨hlt, h4, hnl, hstep⟩ hmeas ?_; cbv)
                | (refine Ob.mk ?_ ?_; (focus (first | exact hset | exact wrap64_nat (by omega) | trace_state)); cbv)
    · cases hs
  · cases hs
end
section
def nxB (L : List Int) (a : Int) : Int := if a < (L.length : Int) then IntKind.wrap .i64 (L.getD a.toNat 0) else 0
def nxS (L : List Int) (q : Int × Int) : Int := IntKind.wrap .u64 (IntKind.wrap .u64 (IntKind.wrap .u64 (q.2 * 6364136223846793005) + IntKind.wrap .u64 (nxB L q.1)) + 1442695040888963407)
def nxV (L : List Int) (q : Int × Int) : Int := if q.1 + 1 ≤ (L.length : Int) then nxB L q.1 else IntKind.wrap .i64 (iand .u64 (ishr .u64 (nxS L q) 40) 255)
def nxQ (L : List Int) (q : Int × Int) : Int × Int := (q.1 + 1, nxS L q)
def pkV (L : List Int) (k : Int) (q : Int × Int) : Int :=
  if k ≤ 1 then 0 else if 200 < k then (IntKind.wrap .i64 (IntKind.wrap .i64 (nxV L q * 256) + nxV L (nxQ L q))).tmod k else (nxV L q).tmod k
def pkQ (L : List Int) (k : Int) (q : Int × Int) : Int × Int :=
  if k ≤ 1 then q else if 200 < k then nxQ L (nxQ L q) else nxQ L q
def bytesOk (L : List Int) : Prop := ∀ x ∈ L, 0 ≤ x ∧ x ≤ 255
theorem natlt {a : Int} {n : Nat} (h0 : 0 ≤ a) (h : a < (n : Int)) : a.toNat < n := by omega
theorem bytes_nil : bytesOk [] := fun x hx => by cases hx
theorem nxB_bd {L : List Int} (h : bytesOk L) (a : Int) : 0 ≤ nxB L a ∧ nxB L a ≤ 255 := by
  unfold nxB
  split
  · have : 0 ≤ L.getD a.toNat 0 ∧ L.getD a.toNat 0 ≤ 255 := by
      rw [List.getD_eq_getElem?_getD]
      cases e : L[a.toNat]? with
      | none => decide
      | some x => exact h x (List.mem_of_getElem? e)
    rw [wrap64 (by omega) (by omega)]
    exact this
  · decide
theorem iand_bd (x : Int) : 0 ≤ iand .u64 x 255 ∧ iand .u64 x 255 ≤ 255 := by
  have h : (BitVec.ofInt 64 x &&& BitVec.ofInt 64 255).toNat ≤ 255 := by
    rw [BitVec.toNat_and]
    exact Nat.le_trans Nat.and_le_right (by decide)
  unfold iand
  show 0 ≤ IntKind.wrap .u64 ((BitVec.ofInt 64 x &&& BitVec.ofInt 64 255).toNat : Int) ∧ IntKind.wrap .u64 ((BitVec.ofInt 64 x &&& BitVec.ofInt 64 255).toNat : Int) ≤ 255
  generalize (BitVec.ofInt 64 x &&& BitVec.ofInt 64 255).toNat = y at h
  simp [IntKind.wrap, IntKind.signed, IntKind.bits]
  omega
theorem nxV_bd {L : List Int} (h : bytesOk L) (q : Int × Int) : 0 ≤ nxV L q ∧ nxV L q ≤ 255 := by
  unfold nxV
  split
  · exact nxB_bd h _
  · have := iand_bd (ishr .u64 (nxS L q) 40)
    rw [wrap64 (by omega) (by omega)]
    exact this
theorem tmod_bd {x k : Int} (hx : 0 ≤ x) (hk : 1 < k) : 0 ≤ x.tmod k ∧ x.tmod k < k := ⟨Int.tmod_nonneg _ hx, Int.tmod_lt_of_pos _ (by omega)⟩
theorem pkV_bd {L : List Int} (h : bytesOk L) {k : Int} (hk : 1 ≤ k) (q : Int × Int) : 0 ≤ pkV L k q ∧ pkV L k q < k := by
  unfold pkV
  split
  · omega
  · split
    · have h1 := nxV_bd h q
      have h2 := nxV_bd h (nxQ L q)
      rw [wrap64 (x := nxV L q * 256) (by omega) (by omega), wrap64 (by omega) (by omega)]
      exact tmod_bd (by omega) (by omega)
    · exact tmod_bd (nxV_bd h q).1 (by omega)
theorem pkQ_bd {L : List Int} {k : Int} {q : Int × Int} : q.1 ≤ (pkQ L k q).1 ∧ (pkQ L k q).1 ≤ q.1 + 2 := by
  unfold pkQ nxQ
  repeat' split
  · omega
  · show q.1 ≤ q.1 + 1 + 1 ∧ q.1 + 1 + 1 ≤ q.1 + 2; omega
  · show q.1 ≤ q.1 + 1 ∧ q.1 + 1 ≤ q.1 + 2; omega
theorem fn91 : FnOk Try.prog 91 Try.f91 (bodyOf Try.f91) := ⟨Try.func91, rfl, by rfl⟩
def s91 : Spec := hspec fun args H => match args, H with
  | [.c (.p 0 (.l 0))], [some ⟨true, 0, .lit [.sl 1 (.x o) (.x n), .i .i64 (.x a), .i .u64 (.x s)]⟩, some ⟨false, 0, .it .u8 L⟩] => some (vI (nxV (L ()) (a (), s ())), [some ⟨true, 0, .lit [.sl 1 (.x o) (.x n), .i .i64 (.x fun _ => (nxQ (L ()) (a (), s ())).1), .i .u64 (.x fun _ => (nxQ (L ()) (a (), s ())).2)]⟩, some ⟨false, 0, .it .u8 L⟩], [fun _ => 0 ≤ a () ∧ a () ≤ 100000, fun _ => o () = 0 ∧ (L ()).length = n () ∧ n () ≤ 4096 ∧ bytesOk (L ())])
  | [.c (.p 0 (.l 0))], [some ⟨true, 0, .lit [.sn, .i .i64 (.x a), .i .u64 (.x s)]⟩] => some (vI (nxV [] (a (), s ())), [some ⟨true, 0, .lit [.sn, .i .i64 (.x fun _ => (nxQ [] (a (), s ())).1), .i .u64 (.x fun _ => (nxQ [] (a (), s ())).2)]⟩], [fun _ => 0 ≤ a () ∧ a () ≤ 100000])
  | _, _ => none
set_option maxRecDepth 100000 in
set_option maxHeartbeats 1000000 in
theorem ok91 : Ok Try.prog 91 (s91) := ok_of_wpaH (E := envGetL []) mixed tts (envOk_nil _) fn91 fun args H v H' o hs ho => by
  split at hs
  · rename_i o n a s L
    cases hs
    obtain ⟨⟨ha0, ha1⟩, ⟨ho0, hlen, hbig, hby⟩⟩ := ho.two
    try simp only [Unit.unit] at ha0 ha1 ho0 hlen hbig 
    refine ⟨_, HLe.refl _, ?_⟩
    cbv
    have hB : nxB (L ⟨⟩) (a ⟨⟩) = if a ⟨⟩ < (n ⟨⟩ : Int) then IntKind.wrap .i64 (((L ⟨⟩)).getD (a ⟨⟩).toNat 0) else 0 := by rw [← hlen]; rfl
    have hV : nxV (L ⟨⟩) (a ⟨⟩, s ⟨⟩) = if a ⟨⟩ + 1 ≤ (n ⟨⟩ : Int) then nxB (L ⟨⟩) (a ⟨⟩) else IntKind.wrap .i64 (iand .u64 (ishr .u64 (nxS (L ⟨⟩) (a ⟨⟩, s ⟨⟩)) 40) 255) := by rw [← hlen]; rfl
    have hS : nxS (L ⟨⟩) (a ⟨⟩, s ⟨⟩) = IntKind.wrap .u64 (IntKind.wrap .u64 (IntKind.wrap .u64 (s ⟨⟩ * 6364136223846793005) + IntKind.wrap .u64 (nxB (L ⟨⟩) (a ⟨⟩))) + 1442695040888963407) := rfl
    have hw : IntKind.wrap .i64 (a ⟨⟩ + 1) = a ⟨⟩ + 1 := wrap64 (by omega) (by omega)
    by_cases hc : a ⟨⟩ < (n ⟨⟩ : Int)
    · rw [if_pos hc] at hB
      rw [hB] at hS hV
      repeat' first
        | (refine Br.mk (fun h => ?_) (fun h => ?_) <;> cbv)
        | (refine Ob.mk ?_ ?_; rotate_left; cbv)
        | (refine Lex.mk (by decide +kernel) ?_; cbv)
      all_goals (try simp only [Unit.unit, Int.ofNat_lt, Int.ofNat_le, BE.val, IE.val, NE.val, ltB_iff, ltB_no, leB_iff, leB_no, Int.toNat_natCast, Nat.zero_add, Nat.add_zero, Nat.mul_one, forced, beq_iff_eq, beq_eq_false_iff_ne, bne_iff_ne, bne_eq_false_iff_eq] at *)
      all_goals (try simp only [hw, ho0, hlen, Nat.zero_add, Nat.mul_one] at *)
      all_goals first | with_reducible rfl | omega | (refine ⟨by omega, ?_⟩; omega) | (exfalso; omega) | exact natlt ha0 hc | exact ⟨ha0, hc⟩ | exact hS.symm | exact hS | (rw [hV, if_pos (by omega)]; done) | (rw [hV, if_neg (by omega)]; done) | (rw [hV, if_neg (by omega), hS]; done) | rfl
    · rw [if_neg hc] at hB
      rw [hB, show IntKind.wrap .u64 0 = 0 from rfl] at hS
      rw [hB] at hV
      repeat' first
        | (refine Br.mk (fun h => ?_) (fun h => ?_) <;> cbv)
        | (refine Ob.mk ?_ ?_; rotate_left; cbv)
        | (refine Lex.mk (by decide +kernel) ?_; cbv)
      all_goals (try simp only [Unit.unit, Int.ofNat_lt, Int.ofNat_le, BE.val, IE.val, NE.val, ltB_iff, ltB_no, leB_iff, leB_no, Int.toNat_natCast, Nat.zero_add, Nat.add_zero, Nat.mul_one, forced, beq_iff_eq, beq_eq_false_iff_ne, bne_iff_ne, bne_eq_false_iff_eq] at *)
      all_goals (try simp only [hw, ho0, hlen, Nat.zero_add, Nat.mul_one] at *)
      all_goals first | with_reducible rfl | omega | (refine ⟨by omega, ?_⟩; omega) | (exfalso; omega) | exact natlt ha0 hc | exact ⟨ha0, hc⟩ | exact hS.symm | exact hS | (rw [hV, if_pos (by omega)]; done) | (rw [hV, if_neg (by omega)]; done) | (rw [hV, if_neg (by omega), hS]; done) | rfl
  · rename_i a s
    cases hs
    obtain ⟨ha0, ha1⟩ := ho.one
    have hby := bytes_nil
    try simp only [Unit.unit] at ha0 ha1 
    refine ⟨_, HLe.refl _, ?_⟩
    cbv
    have hB : nxB [] (a ⟨⟩) = if a ⟨⟩ < ((0 : Nat) : Int) then IntKind.wrap .i64 (([]).getD (a ⟨⟩).toNat 0) else 0 := by rfl
    have hV : nxV [] (a ⟨⟩, s ⟨⟩) = if a ⟨⟩ + 1 ≤ ((0 : Nat) : Int) then nxB [] (a ⟨⟩) else IntKind.wrap .i64 (iand .u64 (ishr .u64 (nxS [] (a ⟨⟩, s ⟨⟩)) 40) 255) := by rfl
    have hS : nxS [] (a ⟨⟩, s ⟨⟩) = IntKind.wrap .u64 (IntKind.wrap .u64 (IntKind.wrap .u64 (s ⟨⟩ * 6364136223846793005) + IntKind.wrap .u64 (nxB [] (a ⟨⟩))) + 1442695040888963407) := rfl
    have hw : IntKind.wrap .i64 (a ⟨⟩ + 1) = a ⟨⟩ + 1 := wrap64 (by omega) (by omega)
    by_cases hc : a ⟨⟩ < ((0 : Nat) : Int)
    · rw [if_pos hc] at hB
      rw [hB] at hS hV
      exfalso; omega
    · rw [if_neg hc] at hB
      rw [hB, show IntKind.wrap .u64 0 = 0 from rfl] at hS
      rw [hB] at hV
      repeat' first
        | (refine Br.mk (fun h => ?_) (fun h => ?_) <;> cbv)
        | (refine Ob.mk ?_ ?_; rotate_left; cbv)
        | (refine Lex.mk (by decide +kernel) ?_; cbv)
      all_goals (try simp only [Unit.unit, Int.ofNat_lt, Int.ofNat_le, BE.val, IE.val, NE.val, ltB_iff, ltB_no, leB_iff, leB_no, Int.toNat_natCast, Nat.zero_add, Nat.add_zero, Nat.mul_one, forced, beq_iff_eq, beq_eq_false_iff_ne, bne_iff_ne, bne_eq_false_iff_eq] at *)
      all_goals (try simp only [hw, Nat.zero_add, Nat.mul_one] at *)
      all_goals first | with_reducible rfl | omega | (refine ⟨by omega, ?_⟩; omega) | (exfalso; omega) | exact natlt ha0 hc | exact ⟨ha0, hc⟩ | exact hS.symm | exact hS | (rw [hV, if_pos (by omega)]; done) | (rw [hV, if_neg (by omega)]; done) | (rw [hV, if_neg (by omega), hS]; done) | rfl
  · cases hs
end
section
theorem nx_bd {L : List Int} {q : Int × Int} (h0 : 0 ≤ q.1) (h1 : q.1 ≤ 50000) : 0 ≤ (nxQ L q).1 ∧ (nxQ L q).1 ≤ 100000 := ⟨by show 0 ≤ q.1 + 1; omega, by show q.1 + 1 ≤ 100000; omega⟩
theorem pkV_0 {L : List Int} {k : Int} {q : Int × Int} (h : k ≤ 1) : pkV L k q = 0 := if_pos h
theorem pkQ_0 {L : List Int} {k : Int} {q : Int × Int} (h : k ≤ 1) : pkQ L k q = q := if_pos h
theorem pkV_1 {L : List Int} {k : Int} {q : Int × Int} (h : ¬ k ≤ 1) (h2 : ¬ 200 < k) : pkV L k q = (nxV L q).tmod k := by unfold pkV; rw [if_neg h, if_neg h2]
theorem pkQ_1 {L : List Int} {k : Int} {q : Int × Int} (h : ¬ k ≤ 1) (h2 : ¬ 200 < k) : pkQ L k q = nxQ L q := by unfold pkQ; rw [if_neg h, if_neg h2]
theorem pkV_2 {L : List Int} {k : Int} {q : Int × Int} (h : ¬ k ≤ 1) (h2 : 200 < k) : pkV L k q = (IntKind.wrap .i64 (IntKind.wrap .i64 (nxV L q * 256) + nxV L (nxQ L q))).tmod k := by unfold pkV; rw [if_neg h, if_pos h2]
theorem pkQ_2 {L : List Int} {k : Int} {q : Int × Int} (h : ¬ k ≤ 1) (h2 : 200 < k) : pkQ L k q = nxQ L (nxQ L q) := by unfold pkQ; rw [if_neg h, if_pos h2]
theorem fn37 : FnOk Try.prog 37 Try.f37 (bodyOf Try.f37) := ⟨Try.func37, rfl, by rfl⟩
def s37 : Spec := hspec fun args H => match args, H with
  | [.c (.p 0 (.l 0)), .c (.i .i64 (.x k))], [some ⟨true, 0, .lit [.sl 1 (.x o) (.x n), .i .i64 (.x a), .i .u64 (.x s)]⟩, some ⟨false, 0, .it .u8 L⟩] => some (vI (pkV (L ()) (k ()) (a (), s ())), [some ⟨true, 0, .lit [.sl 1 (.x o) (.x n), .i .i64 (.x fun _ => (pkQ (L ()) (k ()) (a (), s ())).1), .i .u64 (.x fun _ => (pkQ (L ()) (k ()) (a (), s ())).2)]⟩, some ⟨false, 0, .it .u8 L⟩], [fun _ => 0 ≤ a () ∧ a () ≤ 100000, fun _ => o () = 0 ∧ (L ()).length = n () ∧ n () ≤ 4096 ∧ bytesOk (L ()), fun _ => a () ≤ 50000])
  | [.c (.p 0 (.l 0)), .c (.i .i64 (.x k))], [some ⟨true, 0, .lit [.sn, .i .i64 (.x a), .i .u64 (.x s)]⟩] => some (vI (pkV [] (k ()) (a (), s ())), [some ⟨true, 0, .lit [.sn, .i .i64 (.x fun _ => (pkQ [] (k ()) (a (), s ())).1), .i .u64 (.x fun _ => (pkQ [] (k ()) (a (), s ())).2)]⟩], [fun _ => 0 ≤ a () ∧ a () ≤ 100000, fun _ => a () ≤ 50000])
  | _, _ => none
def E37 : Env := fun g => envGetL [(91, ⟨false, s91, none⟩)] g
theorem E37ok : EnvOk Try.prog E37 := envOk_cons ok91 (envOk_nil _)
set_option maxRecDepth 100000 in
set_option maxHeartbeats 1000000 in
theorem ok37 : Ok Try.prog 37 (s37) := ok_of_wpaH (E := E37) mixed tts E37ok fn37 fun args H v H' o hs ho => by
  split at hs
  · rename_i k o n a s L
    cases hs
    obtain ⟨⟨ha0, ha1⟩, ⟨ho0, hlen, hbig, hby⟩, hx0⟩ := ho.three
    try simp only [Unit.unit] at ha0 ha1 ho0 hlen hbig hx0
    refine ⟨_, HLe.refl _, ?_⟩
    cbv
    by_cases h1 : k ⟨⟩ ≤ 1
    · have hV := pkV_0 (L := (L ⟨⟩)) (q := (a ⟨⟩, s ⟨⟩)) h1
      have hQ := pkQ_0 (L := (L ⟨⟩)) (q := (a ⟨⟩, s ⟨⟩)) h1
      repeat' first
        | (refine Br.mk (fun h => ?_) (fun h => ?_) <;> cbv)
        | (refine Ob.mk ?_ ?_; rotate_left; cbv)
        | (refine Lex.mk (by decide +kernel) ?_; cbv)
      all_goals try (first | exact ⟨ha0, ha1⟩ | exact nx_bd ha0 hx0 | exact ⟨ho0, hlen, hbig, hby⟩ | exact ⟨by trivial, hlen, hbig, hby⟩)
      all_goals (try simp only [Unit.unit, Int.ofNat_lt, Int.ofNat_le, BE.val, IE.val, NE.val, ltB_iff, ltB_no, leB_iff, leB_no, Int.toNat_natCast, Nat.zero_add, Nat.add_zero, Nat.mul_one, forced, beq_iff_eq, beq_eq_false_iff_ne, bne_iff_ne, bne_eq_false_iff_eq] at *)
      all_goals first | with_reducible rfl | (exfalso; omega) | omega | (rw [hV]; done) | (rw [hV]; rfl) | (rw [hQ]; done) | (rw [hQ]; rfl) | rfl
    · by_cases h2 : 200 < k ⟨⟩
      · have hV := pkV_2 (L := (L ⟨⟩)) (q := (a ⟨⟩, s ⟨⟩)) h1 h2
        have hQ := pkQ_2 (L := (L ⟨⟩)) (q := (a ⟨⟩, s ⟨⟩)) h1 h2
        repeat' first
          | (refine Br.mk (fun h => ?_) (fun h => ?_) <;> cbv)
          | (refine Ob.mk ?_ ?_; rotate_left; cbv)
          | (refine Lex.mk (by decide +kernel) ?_; cbv)
        all_goals try (first | exact ⟨ha0, ha1⟩ | exact nx_bd ha0 hx0 | exact ⟨ho0, hlen, hbig, hby⟩ | exact ⟨by trivial, hlen, hbig, hby⟩)
        all_goals (try simp only [Unit.unit, Int.ofNat_lt, Int.ofNat_le, BE.val, IE.val, NE.val, ltB_iff, ltB_no, leB_iff, leB_no, Int.toNat_natCast, Nat.zero_add, Nat.add_zero, Nat.mul_one, forced, beq_iff_eq, beq_eq_false_iff_ne, bne_iff_ne, bne_eq_false_iff_eq] at *)
        all_goals first | with_reducible rfl | (exfalso; omega) | omega | (rw [hV]; done) | (rw [hV]; rfl) | (rw [hQ]; done) | (rw [hQ]; rfl) | rfl
      · have hV := pkV_1 (L := (L ⟨⟩)) (q := (a ⟨⟩, s ⟨⟩)) h1 h2
        have hQ := pkQ_1 (L := (L ⟨⟩)) (q := (a ⟨⟩, s ⟨⟩)) h1 h2
        repeat' first
          | (refine Br.mk (fun h => ?_) (fun h => ?_) <;> cbv)
          | (refine Ob.mk ?_ ?_; rotate_left; cbv)
          | (refine Lex.mk (by decide +kernel) ?_; cbv)
        all_goals try (first | exact ⟨ha0, ha1⟩ | exact nx_bd ha0 hx0 | exact ⟨ho0, hlen, hbig, hby⟩ | exact ⟨by trivial, hlen, hbig, hby⟩)
        all_goals (try simp only [Unit.unit, Int.ofNat_lt, Int.ofNat_le, BE.val, IE.val, NE.val, ltB_iff, ltB_no, leB_iff, leB_no, Int.toNat_natCast, Nat.zero_add, Nat.add_zero, Nat.mul_one, forced, beq_iff_eq, beq_eq_false_iff_ne, bne_iff_ne, bne_eq_false_iff_eq] at *)
        all_goals first | with_reducible rfl | (exfalso; omega) | omega | (rw [hV]; done) | (rw [hV]; rfl) | (rw [hQ]; done) | (rw [hQ]; rfl) | rfl
  · rename_i k a s
    cases hs
    obtain ⟨⟨ha0, ha1⟩, hx0⟩ := ho.two
    have hby := bytes_nil
    try simp only [Unit.unit] at ha0 ha1 hx0
    refine ⟨_, HLe.refl _, ?_⟩
    cbv
    by_cases h1 : k ⟨⟩ ≤ 1
    · have hV := pkV_0 (L := []) (q := (a ⟨⟩, s ⟨⟩)) h1
      have hQ := pkQ_0 (L := []) (q := (a ⟨⟩, s ⟨⟩)) h1
      repeat' first
        | (refine Br.mk (fun h => ?_) (fun h => ?_) <;> cbv)
        | (refine Ob.mk ?_ ?_; rotate_left; cbv)
        | (refine Lex.mk (by decide +kernel) ?_; cbv)
      all_goals try (first | exact ⟨ha0, ha1⟩ | exact nx_bd ha0 hx0)
      all_goals (try simp only [Unit.unit, Int.ofNat_lt, Int.ofNat_le, BE.val, IE.val, NE.val, ltB_iff, ltB_no, leB_iff, leB_no, Int.toNat_natCast, Nat.zero_add, Nat.add_zero, Nat.mul_one, forced, beq_iff_eq, beq_eq_false_iff_ne, bne_iff_ne, bne_eq_false_iff_eq] at *)
      all_goals first | with_reducible rfl | (exfalso; omega) | omega | (rw [hV]; done) | (rw [hV]; rfl) | (rw [hQ]; done) | (rw [hQ]; rfl) | rfl
    · by_cases h2 : 200 < k ⟨⟩
      · have hV := pkV_2 (L := []) (q := (a ⟨⟩, s ⟨⟩)) h1 h2
        have hQ := pkQ_2 (L := []) (q := (a ⟨⟩, s ⟨⟩)) h1 h2
        repeat' first
          | (refine Br.mk (fun h => ?_) (fun h => ?_) <;> cbv)
          | (refine Ob.mk ?_ ?_; rotate_left; cbv)
          | (refine Lex.mk (by decide +kernel) ?_; cbv)
        all_goals try (first | exact ⟨ha0, ha1⟩ | exact nx_bd ha0 hx0)
        all_goals (try simp only [Unit.unit, Int.ofNat_lt, Int.ofNat_le, BE.val, IE.val, NE.val, ltB_iff, ltB_no, leB_iff, leB_no, Int.toNat_natCast, Nat.zero_add, Nat.add_zero, Nat.mul_one, forced, beq_iff_eq, beq_eq_false_iff_ne, bne_iff_ne, bne_eq_false_iff_eq] at *)
        all_goals first | with_reducible rfl | (exfalso; omega) | omega | (rw [hV]; done) | (rw [hV]; rfl) | (rw [hQ]; done) | (rw [hQ]; rfl) | rfl
      · have hV := pkV_1 (L := []) (q := (a ⟨⟩, s ⟨⟩)) h1 h2
        have hQ := pkQ_1 (L := []) (q := (a ⟨⟩, s ⟨⟩)) h1 h2
        repeat' first
          | (refine Br.mk (fun h => ?_) (fun h => ?_) <;> cbv)
          | (refine Ob.mk ?_ ?_; rotate_left; cbv)
          | (refine Lex.mk (by decide +kernel) ?_; cbv)
        all_goals try (first | exact ⟨ha0, ha1⟩ | exact nx_bd ha0 hx0)
        all_goals (try simp only [Unit.unit, Int.ofNat_lt, Int.ofNat_le, BE.val, IE.val, NE.val, ltB_iff, ltB_no, leB_iff, leB_no, Int.toNat_natCast, Nat.zero_add, Nat.add_zero, Nat.mul_one, forced, beq_iff_eq, beq_eq_false_iff_ne, bne_iff_ne, bne_eq_false_iff_eq] at *)
        all_goals first | with_reducible rfl | (exfalso; omega) | omega | (rw [hV]; done) | (rw [hV]; rfl) | (rw [hQ]; done) | (rw [hQ]; rfl) | rfl
  · cases hs
theorem fn96 : FnOk Try.prog 96 Try.f96 (bodyOf Try.f96) := ⟨Try.func96, rfl, by rfl⟩
def s96 : Spec := hspec fun args H => match args, H with
  | [.c (.p 0 (.l 0)), .c (.i .i64 (.x k))], [some ⟨true, 0, .lit [.sl 1 (.x o) (.x n), .i .i64 (.x a), .i .u64 (.x s)]⟩, some ⟨false, 0, .it .u8 L⟩] => some (vB (pkV (L ()) (k ()) (a (), s ()) == 0), [some ⟨true, 0, .lit [.sl 1 (.x o) (.x n), .i .i64 (.x fun _ => (pkQ (L ()) (k ()) (a (), s ())).1), .i .u64 (.x fun _ => (pkQ (L ()) (k ()) (a (), s ())).2)]⟩, some ⟨false, 0, .it .u8 L⟩], [fun _ => 0 ≤ a () ∧ a () ≤ 100000, fun _ => o () = 0 ∧ (L ()).length = n () ∧ n () ≤ 4096 ∧ bytesOk (L ()), fun _ => a () ≤ 50000])
  | [.c (.p 0 (.l 0)), .c (.i .i64 (.x k))], [some ⟨true, 0, .lit [.sn, .i .i64 (.x a), .i .u64 (.x s)]⟩] => some (vB (pkV [] (k ()) (a (), s ()) == 0), [some ⟨true, 0, .lit [.sn, .i .i64 (.x fun _ => (pkQ [] (k ()) (a (), s ())).1), .i .u64 (.x fun _ => (pkQ [] (k ()) (a (), s ())).2)]⟩], [fun _ => 0 ≤ a () ∧ a () ≤ 100000, fun _ => a () ≤ 50000])
  | _, _ => none
def E96 : Env := fun g => envGetL [(37, ⟨false, s37, none⟩)] g
theorem E96ok : EnvOk Try.prog E96 := envOk_cons ok37 (envOk_nil _)
set_option maxRecDepth 100000 in
set_option maxHeartbeats 1000000 in
theorem ok96 : Ok Try.prog 96 (s96) := ok_of_wpaH (E := E96) mixed tts E96ok fn96 fun args H v H' o hs ho => by
  split at hs
  · rename_i k o n a s L
    cases hs
    obtain ⟨⟨ha0, ha1⟩, ⟨ho0, hlen, hbig, hby⟩, hx0⟩ := ho.three
    try simp only [Unit.unit] at ha0 ha1 ho0 hlen hbig hx0
    refine ⟨_, HLe.refl _, ?_⟩
    cbv
    repeat' first
      | (refine Br.mk (fun h => ?_) (fun h => ?_) <;> cbv)
      | (refine Ob.mk ?_ ?_; rotate_left; cbv)
      | (refine Lex.mk (by decide +kernel) ?_; cbv)
    all_goals try (first | exact ⟨ha0, ha1⟩ | exact ⟨ho0, hlen, hbig, hby⟩ | exact ⟨by trivial, hlen, hbig, hby⟩)
    all_goals (try simp only [Unit.unit, Int.ofNat_lt, Int.ofNat_le, BE.val, IE.val, NE.val, ltB_iff, ltB_no, leB_iff, leB_no, Int.toNat_natCast, Nat.zero_add, Nat.add_zero, Nat.mul_one, forced, beq_iff_eq, beq_eq_false_iff_ne, bne_iff_ne, bne_eq_false_iff_eq] at *)
    all_goals first | with_reducible rfl | omega | exact hx0 | rfl
  · rename_i k a s
    cases hs
    obtain ⟨⟨ha0, ha1⟩, hx0⟩ := ho.two
    have hby := bytes_nil
    try simp only [Unit.unit] at ha0 ha1 hx0
    refine ⟨_, HLe.refl _, ?_⟩
    cbv
    repeat' first
      | (refine Br.mk (fun h => ?_) (fun h => ?_) <;> cbv)
      | (refine Ob.mk ?_ ?_; rotate_left; cbv)
      | (refine Lex.mk (by decide +kernel) ?_; cbv)
    all_goals try (first | exact ⟨ha0, ha1⟩)
    all_goals (try simp only [Unit.unit, Int.ofNat_lt, Int.ofNat_le, BE.val, IE.val, NE.val, ltB_iff, ltB_no, leB_iff, leB_no, Int.toNat_natCast, Nat.zero_add, Nat.add_zero, Nat.mul_one, forced, beq_iff_eq, beq_eq_false_iff_ne, bne_iff_ne, bne_eq_false_iff_eq] at *)
    all_goals first | with_reducible rfl | omega | exact hx0 | rfl
  · cases hs
end
section
theorem fn36 : FnOk Try.prog 36 Try.f36 (bodyOf Try.f36) := ⟨Try.func36, rfl, by rfl⟩
def s36 : Spec := hspec fun args H => match args, H with
  | [.c (.sl 0 (.x o) (.x n))], [some ⟨false, 0, .it .u8 L⟩] => some (.c (.p 1 (.l 0)), [some ⟨false, 0, .it .u8 L⟩, some ⟨true, 0, .lit [.sl 0 (.x o) (.x n), .i .i64 (.l 0), .i .u64 (.l 0)]⟩], [])
  | [.c .sn], [] => some (.c (.p 0 (.l 0)), [some ⟨true, 0, .lit [.sn, .i .i64 (.l 0), .i .u64 (.l 0)]⟩], [])
  | _, _ => none
theorem ok36 : Ok Try.prog 36 (s36) := ok_of_wpaH (E := envGetL []) mixed tts (envOk_nil _) fn36 fun args H v H' o hs ho => by
  split at hs
  · rename_i o n L
    cases hs
    refine ⟨_, HLe.refl _, ?_⟩
    cbv
    repeat' first
      | (refine alt_t (by assumption) ?_; cbv)
      | (refine alt_f (by assumption) ?_; cbv)
      | (refine alt_b (fun h => ?_) (fun h => ?_) <;> cbv)
      | (refine Br.mk (fun h => ?_) (fun h => ?_) <;> cbv)
      | (refine Ob.mk ?_ ?_; rotate_left; cbv)
      | (refine Lex.mk (by decide +kernel) ?_; cbv)
    all_goals (try simp only [Unit.unit, Int.ofNat_lt, Int.ofNat_le, BE.val, IE.val, NE.val, ltB_iff, ltB_no, leB_iff, leB_no, Int.toNat_natCast, Nat.zero_add, Nat.add_zero, Nat.mul_one, forced, beq_iff_eq, beq_eq_false_iff_ne, bne_iff_ne, bne_eq_false_iff_eq] at *)
    all_goals first | with_reducible rfl | grind | rfl
  · cases hs
    refine ⟨_, HLe.refl _, ?_⟩
    cbv
    repeat' first
      | (refine alt_t (by assumption) ?_; cbv)
      | (refine alt_f (by assumption) ?_; cbv)
      | (refine alt_b (fun h => ?_) (fun h => ?_) <;> cbv)
      | (refine Br.mk (fun h => ?_) (fun h => ?_) <;> cbv)
      | (refine Ob.mk ?_ ?_; rotate_left; cbv)
      | (refine Lex.mk (by decide +kernel) ?_; cbv)
    all_goals (try simp only [Unit.unit, Int.ofNat_lt, Int.ofNat_le, BE.val, IE.val, NE.val, ltB_iff, ltB_no, leB_iff, leB_no, Int.toNat_natCast, Nat.zero_add, Nat.add_zero, Nat.mul_one, forced, beq_iff_eq, beq_eq_false_iff_ne, bne_iff_ne, bne_eq_false_iff_eq] at *)
    all_goals first | with_reducible rfl | grind | rfl
  · cases hs
theorem fn5 : FnOk Try.prog 5 Try.f5 (bodyOf Try.f5) := ⟨Try.func5, rfl, by rfl⟩
def s5 : Spec := hspec fun args H => match args, H with
  | [.c (.sl 0 (.x _) (.x n))], [some ⟨false, 0, .it .u8 _⟩] => some (vB (ltB 4096 (n () : Int)), [none], [])
  | [.c .sn], [] => some (.c (.b (.l false)), [], [])
  | _, _ => none
theorem ok5 : Ok Try.prog 5 (s5) := ok_of_wpaH (E := envGetL []) mixed tts (envOk_nil _) fn5 fun args H v H' o hs ho => by
  split at hs
  · rename_i o n L
    cases hs
    refine ⟨_, HLe.refl _, ?_⟩
    cbv
    repeat' first
      | (refine alt_t (by assumption) ?_; cbv)
      | (refine alt_f (by assumption) ?_; cbv)
      | (refine alt_b (fun h => ?_) (fun h => ?_) <;> cbv)
      | (refine Br.mk (fun h => ?_) (fun h => ?_) <;> cbv)
      | (refine Ob.mk ?_ ?_; rotate_left; cbv)
      | (refine Lex.mk (by decide +kernel) ?_; cbv)
    all_goals (try simp only [Unit.unit, Int.ofNat_lt, Int.ofNat_le, BE.val, IE.val, NE.val, ltB_iff, ltB_no, leB_iff, leB_no, Int.toNat_natCast, Nat.zero_add, Nat.add_zero, Nat.mul_one, forced, beq_iff_eq, beq_eq_false_iff_ne, bne_iff_ne, bne_eq_false_iff_eq] at *)
    all_goals first | with_reducible rfl | grind | rfl
  · cases hs
    refine ⟨_, HLe.refl _, ?_⟩
    cbv
    repeat' first
      | (refine alt_t (by assumption) ?_; cbv)
      | (refine alt_f (by assumption) ?_; cbv)
      | (refine alt_b (fun h => ?_) (fun h => ?_) <;> cbv)
      | (refine Br.mk (fun h => ?_) (fun h => ?_) <;> cbv)
      | (refine Ob.mk ?_ ?_; rotate_left; cbv)
      | (refine Lex.mk (by decide +kernel) ?_; cbv)
    all_goals (try simp only [Unit.unit, Int.ofNat_lt, Int.ofNat_le, BE.val, IE.val, NE.val, ltB_iff, ltB_no, leB_iff, leB_no, Int.toNat_natCast, Nat.zero_add, Nat.add_zero, Nat.mul_one, forced, beq_iff_eq, beq_eq_false_iff_ne, bne_iff_ne, bne_eq_false_iff_eq] at *)
    all_goals first | with_reducible rfl | grind | rfl
  · cases hs
theorem fn7 : FnOk Try.prog 7 Try.f7 (bodyOf Try.f7) := ⟨Try.func7, rfl, by rfl⟩
def s7 : Spec := hspec fun args H => match args, H with
  | [.c (.sl 0 (.x o) (.x n)), .c (.i .i64 (.x k))], [some ⟨false, 0, .it .u8 L⟩] => some (vI (pkV (L ()) (k ()) (0, 0)), [none], [fun _ => o () = 0 ∧ (L ()).length = n () ∧ n () ≤ 4096 ∧ bytesOk (L ())])
  | [.c .sn, .c (.i .i64 (.x k))], [] => some (vI (pkV [] (k ()) (0, 0)), [], [])
  | _, _ => none
def E7 : Env := fun g => envGetL [(36, ⟨false, s36, none⟩), (37, ⟨false, s37, none⟩)] g
theorem E7ok : EnvOk Try.prog E7 := envOk_cons ok36 (envOk_cons ok37 (envOk_nil _))
theorem ok7 : Ok Try.prog 7 (s7) := ok_of_wpaH (E := E7) mixed tts E7ok fn7 fun args H v H' o hs ho => by
  split at hs
  · rename_i o n k L
    cases hs
    have hcb := ho.one
    refine ⟨_, HLe.refl _, ?_⟩
    cbv
    repeat' first
      | (refine alt_t (by assumption) ?_; cbv)
      | (refine alt_f (by assumption) ?_; cbv)
      | (refine alt_b (fun h => ?_) (fun h => ?_) <;> cbv)
      | (refine Br.mk (fun h => ?_) (fun h => ?_) <;> cbv)
      | (refine Ob.mk ?_ ?_; rotate_left; cbv)
      | (refine Lex.mk (by decide +kernel) ?_; cbv)
    all_goals (try simp only [Unit.unit, Int.ofNat_lt, Int.ofNat_le, BE.val, IE.val, NE.val, ltB_iff, ltB_no, leB_iff, leB_no, Int.toNat_natCast, Nat.zero_add, Nat.add_zero, Nat.mul_one, forced, beq_iff_eq, beq_eq_false_iff_ne, bne_iff_ne, bne_eq_false_iff_eq] at *)
    all_goals first | with_reducible rfl | exact hcb | exact ⟨by decide, by decide⟩ | decide | rfl
  · rename_i k
    cases hs
    refine ⟨_, HLe.refl _, ?_⟩
    cbv
    repeat' first
      | (refine alt_t (by assumption) ?_; cbv)
      | (refine alt_f (by assumption) ?_; cbv)
      | (refine alt_b (fun h => ?_) (fun h => ?_) <;> cbv)
      | (refine Br.mk (fun h => ?_) (fun h => ?_) <;> cbv)
      | (refine Ob.mk ?_ ?_; rotate_left; cbv)
      | (refine Lex.mk (by decide +kernel) ?_; cbv)
    all_goals (try simp only [Unit.unit, Int.ofNat_lt, Int.ofNat_le, BE.val, IE.val, NE.val, ltB_iff, ltB_no, leB_iff, leB_no, Int.toNat_natCast, Nat.zero_add, Nat.add_zero, Nat.mul_one, forced, beq_iff_eq, beq_eq_false_iff_ne, bne_iff_ne, bne_eq_false_iff_eq] at *)
    all_goals first | with_reducible rfl | exact hcb | exact ⟨by decide, by decide⟩ | decide | rfl
  · cases hs
end
end Go.Proofs.Ytanndlifpojenaa.Sh
