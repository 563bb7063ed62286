/- Lines of three numbers; webs that are compared and valid; what both readings of webs share. No condition. -/
import Derived.Test.YteifneielgnniaaDoorVc
set_option linter.unusedVariables false
set_option linter.unusedSimpArgs false
set_option linter.unusedSectionVars false
section
namespace Go.Proofs.YteifneielgnniaaDoor.Sh
open Go Go.Proofs
/-! ## spec.l04Read: a line of three numbers -/
theorem list3 {α : Type} {l : List α} {d : α} (h : l.length = 3) : l = [l.getD 0 d, l.getD 1 d, l.getD 2 d] := by
  match l, h with
  | [a, b, c], _ => rfl
theorem three_ok {t : ByteArray} : nrOk 3 t = true ↔ (wds 32 t).length = 3 ∧ rnOk (wAt t 0) = true ∧ rnOk (wAt t 1) = true ∧ rnOk (wAt t 2) = true := by
  constructor
  · intro h
    have hl := nr_num h
    have ha := (nr_len h).2
    exact ⟨hl, all_at (by omega) ha, all_at (by omega) ha, all_at (by omega) ha⟩
  · rintro ⟨hl, h0, h1, h2⟩
    have hw : wds 32 t = [wAt t 0, wAt t 1, wAt t 2] := list3 hl
    have ha : (wds 32 t).all rnOk = true := by rw [hw]; simp [h0, h1, h2]
    have h8 : ∀ w ∈ wds 32 t, w.length = 8 := fun w hw => (rnOk_p16 (t := tx w) (List.all_eq_true.1 ha w hw)).2.2.2
    have hs := sumL_all h8
    have ht : sumL (wds 32 t) = t.size + 1 := by
      show sumL (splA 32 [] (bl t)) = _
      rw [splA_tot, bl_len]; simp
    unfold nrOk
    rw [ha, Bool.and_true]
    exact decide_eq_true (by rw [ht, hl] at hs; omega)
def n3 (t : ByteArray) (i : Nat) : Nat := rn (wAt t i)
def ok3a (t : ByteArray) : Bool := decide ((wds 32 t).length = 3) && rnOk (wAt t 0)
def ok3b (t : ByteArray) : Bool := ok3a t && rnOk (wAt t 1)
def v3a (t : ByteArray) : Nat := if ok3a t = true then n3 t 0 else 0
def v3b (t : ByteArray) : Nat := if ok3b t = true then n3 t 1 else 0
def v3c (t : ByteArray) : Nat := if nrOk 3 t = true then n3 t 2 else 0
theorem nrOk3 (t : ByteArray) : nrOk 3 t = (ok3b t && rnOk (wAt t 2)) := by
  rw [Bool.eq_iff_iff, three_ok]
  unfold ok3b ok3a
  simp only [Bool.and_eq_true, decide_eq_true_eq]
  constructor
  · rintro ⟨a, b, c, d⟩; exact ⟨⟨⟨a, b⟩, c⟩, d⟩
  · rintro ⟨⟨⟨a, b⟩, c⟩, d⟩; exact ⟨a, b, c, d⟩
theorem n3_at (t : ByteArray) (i : Nat) : rn (bl (((wds 32 t).map tx).getD i ByteArray.empty)) = n3 t i := by rw [bl_at]; rfl
theorem fn19 : FnOk Tryd.prog 19 Tryd.f19 (bodyOf Tryd.f19) := ⟨Tryd.func19, rfl, by rfl⟩
attribute [local irreducible] wds tx rn rnC rnOk nrOk v3a v3b v3c wAt n3
def s19 : Spec := hspec fun args H => match args, H with
  | [.c (.s t)], [] => some (.t [.a [.f .f32 fun _ => v3a (t ()), .f .f32 fun _ => v3b (t ()), .f .f32 fun _ => v3c (t ())], .c (.b (.x fun _ => nrOk 3 (t ())))], [], [fun _ => (t ()).size ≤ 1048576])
  | _, _ => none
def E19 : Env := fun g => envGetL [(13, ⟨true, s13 32, none⟩), (14, ⟨true, s14, none⟩)] g
theorem E19ok : EnvOk Tryd.prog E19 := envOk_cons (ok13 32) (envOk_cons ok14 (envOk_nil _))
set_option maxRecDepth 100000 in
set_option maxHeartbeats 4000000 in
theorem ok19 : Ok Tryd.prog 19 s19 := ok_of_wpaH (E := E19) mixed tts E19ok fn19 fun args H v H' o hs ho => by
  split at hs
  · rename_i t
    cases hs
    have hsz : (t ⟨⟩).size ≤ 1048576 := ho.one
    have hsp : (32 : Int) = (((32 : UInt8).toNat : Nat) : Int) ∧ (t ⟨⟩).size ≤ 1048576 := ⟨rfl, hsz⟩
    have hc0 : rnC (bl (((wds 32 (t ⟨⟩)).map tx).getD 0 ByteArray.empty)) = rnC (wAt (t ⟨⟩) 0) := by rw [bl_at]
    have hc1 : rnC (bl (((wds 32 (t ⟨⟩)).map tx).getD 1 ByteArray.empty)) = rnC (wAt (t ⟨⟩) 1) := by rw [bl_at]
    have hc2 : rnC (bl (((wds 32 (t ⟨⟩)).map tx).getD 2 ByteArray.empty)) = rnC (wAt (t ⟨⟩) 2) := by rw [bl_at]
    have hr0 : rn (bl (((wds 32 (t ⟨⟩)).map tx).getD 0 ByteArray.empty)) = n3 (t ⟨⟩) 0 := n3_at _ _
    have hr1 : rn (bl (((wds 32 (t ⟨⟩)).map tx).getD 1 ByteArray.empty)) = n3 (t ⟨⟩) 1 := n3_at _ _
    have hr2 : rn (bl (((wds 32 (t ⟨⟩)).map tx).getD 2 ByteArray.empty)) = n3 (t ⟨⟩) 2 := n3_at _ _
    have e3 := nrOk3 (t ⟨⟩)
    rcases Nat.decEq (wds 32 (t ⟨⟩)).length 3 with hl | hl
    · have a1 : ok3a (t ⟨⟩) = false := by unfold ok3a; rw [decide_eq_false hl]; rfl
      have a2 : ok3b (t ⟨⟩) = false := by unfold ok3b; rw [a1]; rfl
      have a3 : false = nrOk 3 (t ⟨⟩) := by rw [e3, a2]; rfl
      have k1 : 0 = v3a (t ⟨⟩) := by unfold v3a; rw [a1]; rfl
      have k2 : 0 = v3b (t ⟨⟩) := by unfold v3b; rw [a2]; rfl
      have k3 : 0 = v3c (t ⟨⟩) := by unfold v3c; rw [← a3]; rfl
      have hb : ((((wds 32 (t ⟨⟩)).length : Nat) : Int) != 3) = true := bne_iff_ne.2 (by omega)
      refine ⟨_, HLe.refl _, ?_⟩
      cbv
      refine Ob.mk hsp ?_
      cbv
      refine Br.t hb ?_
      cbv
      repeat' (refine Ob.mk ?_ ?_; (focus (first | exact k1 | exact k2 | exact k3 | exact a3)); cbv)
    have hb : ((((wds 32 (t ⟨⟩)).length : Nat) : Int) != 3) = false := bne_eq_false_iff_eq.2 (by omega)
    have hi0 : (0 : Int) ≤ 0 ∧ (0 : Int) < (((wds 32 (t ⟨⟩)).length : Nat) : Int) := ⟨by omega, by omega⟩
    have hi1 : (0 : Int) ≤ 1 ∧ (1 : Int) < (((wds 32 (t ⟨⟩)).length : Nat) : Int) := ⟨by omega, by omega⟩
    have hi2 : (0 : Int) ≤ 2 ∧ (2 : Int) < (((wds 32 (t ⟨⟩)).length : Nat) : Int) := ⟨by omega, by omega⟩
    have hj0 : 0 < ((wds 32 (t ⟨⟩)).map tx).length := by rw [List.length_map]; omega
    have hj1 : 1 < ((wds 32 (t ⟨⟩)).map tx).length := by rw [List.length_map]; omega
    have hj2 : 2 < ((wds 32 (t ⟨⟩)).map tx).length := by rw [List.length_map]; omega
    rcases bool_ft (rnOk (wAt (t ⟨⟩) 0)) with h0 | h0
    · have a1 : ok3a (t ⟨⟩) = false := by unfold ok3a; rw [h0, Bool.and_false]
      have a2 : ok3b (t ⟨⟩) = false := by unfold ok3b; rw [a1]; rfl
      have a3 : false = nrOk 3 (t ⟨⟩) := by rw [e3, a2]; rfl
      have k1 : 0 = v3a (t ⟨⟩) := by unfold v3a; rw [a1]; rfl
      have k2 : 0 = v3b (t ⟨⟩) := by unfold v3b; rw [a2]; rfl
      have k3 : 0 = v3c (t ⟨⟩) := by unfold v3c; rw [← a3]; rfl
      have hb0 : (rnC (bl (((wds 32 (t ⟨⟩)).map tx).getD 0 ByteArray.empty)) != 0) = true := by rw [hc0]; exact rnC_f h0
      refine ⟨_, HLe.refl _, ?_⟩
      cbv
      refine Ob.mk hsp ?_
      cbv
      refine Br.f hb ?_
      cbv
      refine Loop.mk 70 ?_
      cbv
      repeat' first | (refine Ob.mk ?_ ?_; (focus (first | exact hi0 | exact hj0 | exact k1 | exact k2 | exact k3 | exact a3)); cbv) | (refine Br.t hb0 ?_; cbv) | (refine Gen.same ?_; cbv)
    have b1 : ok3a (t ⟨⟩) = true := by unfold ok3a; rw [h0, decide_eq_true hl]; rfl
    have hb0 : (rnC (bl (((wds 32 (t ⟨⟩)).map tx).getD 0 ByteArray.empty)) != 0) = false := by rw [hc0]; exact rnC_t h0
    have k1 : rn (bl (((wds 32 (t ⟨⟩)).map tx).getD 0 ByteArray.empty)) = v3a (t ⟨⟩) := by unfold v3a; rw [b1]; exact hr0
    rcases bool_ft (rnOk (wAt (t ⟨⟩) 1)) with h1 | h1
    · have a2 : ok3b (t ⟨⟩) = false := by unfold ok3b; rw [h1, Bool.and_false]
      have a3 : false = nrOk 3 (t ⟨⟩) := by rw [e3, a2]; rfl
      have k2 : 0 = v3b (t ⟨⟩) := by unfold v3b; rw [a2]; rfl
      have k3 : 0 = v3c (t ⟨⟩) := by unfold v3c; rw [← a3]; rfl
      have hb1 : (rnC (bl (((wds 32 (t ⟨⟩)).map tx).getD 1 ByteArray.empty)) != 0) = true := by rw [hc1]; exact rnC_f h1
      refine ⟨_, HLe.refl _, ?_⟩
      cbv
      refine Ob.mk hsp ?_
      cbv
      refine Br.f hb ?_
      cbv
      refine Loop.mk 70 ?_
      cbv
      repeat' first | (refine Ob.mk ?_ ?_; (focus (first | exact hi0 | exact hj0 | exact hi1 | exact hj1 | exact k1 | exact k2 | exact k3 | exact a3)); cbv) | (refine Br.f hb0 ?_; cbv) | (refine Br.t hb1 ?_; cbv) | (refine Gen.same ?_; cbv)
    have b2 : ok3b (t ⟨⟩) = true := by unfold ok3b; rw [b1, h1]; rfl
    have hb1 : (rnC (bl (((wds 32 (t ⟨⟩)).map tx).getD 1 ByteArray.empty)) != 0) = false := by rw [hc1]; exact rnC_t h1
    have k2 : rn (bl (((wds 32 (t ⟨⟩)).map tx).getD 1 ByteArray.empty)) = v3b (t ⟨⟩) := by unfold v3b; rw [b2]; exact hr1
    rcases bool_ft (rnOk (wAt (t ⟨⟩) 2)) with h2 | h2
    · have a3 : false = nrOk 3 (t ⟨⟩) := by rw [e3, h2, Bool.and_false]
      have k3 : 0 = v3c (t ⟨⟩) := by unfold v3c; rw [← a3]; rfl
      have hb2 : (rnC (bl (((wds 32 (t ⟨⟩)).map tx).getD 2 ByteArray.empty)) != 0) = true := by rw [hc2]; exact rnC_f h2
      refine ⟨_, HLe.refl _, ?_⟩
      cbv
      refine Ob.mk hsp ?_
      cbv
      refine Br.f hb ?_
      cbv
      refine Loop.mk 70 ?_
      cbv
      repeat' first | (refine Ob.mk ?_ ?_; (focus (first | exact hi0 | exact hj0 | exact hi1 | exact hj1 | exact hi2 | exact hj2 | exact k1 | exact k2 | exact k3 | exact a3)); cbv) | (refine Br.f hb0 ?_; cbv) | (refine Br.f hb1 ?_; cbv) | (refine Br.t hb2 ?_; cbv) | (refine Gen.same ?_; cbv)
    have a3 : true = nrOk 3 (t ⟨⟩) := by rw [e3, b2, h2]; rfl
    have k3 : rn (bl (((wds 32 (t ⟨⟩)).map tx).getD 2 ByteArray.empty)) = v3c (t ⟨⟩) := by unfold v3c; rw [← a3]; exact hr2
    have hb2 : (rnC (bl (((wds 32 (t ⟨⟩)).map tx).getD 2 ByteArray.empty)) != 0) = false := by rw [hc2]; exact rnC_t h2
    refine ⟨_, HLe.refl _, ?_⟩
    cbv
    refine Ob.mk hsp ?_
    cbv
    refine Br.f hb ?_
    cbv
    refine Loop.mk 70 ?_
    cbv
    repeat' first | (refine Ob.mk ?_ ?_; (focus (first | exact hi0 | exact hj0 | exact hi1 | exact hj1 | exact hi2 | exact hj2 | exact k1 | exact k2 | exact k3 | exact a3)); cbv) | (refine Br.f hb0 ?_; cbv) | (refine Br.f hb1 ?_; cbv) | (refine Br.f hb2 ?_; cbv) | (refine Gen.same ?_; cbv)
  · cases hs
end Go.Proofs.YteifneielgnniaaDoor.Sh
end
section
namespace Go.Proofs.YteifneielgnniaaDoor.Sh
open Go Go.Proofs
def markF (k : Int) (j : Nat) : Nat := floatOfInt .f32 (k + (j : Int))
def marks (k : Int) (l : List Nat) (i : Nat) : List Nat := fillTo (markF k) l (i * 3)
theorem marks_len (k : Int) (l : List Nat) {i : Nat} (h : i * 3 ≤ l.length) : (marks k l i).length = l.length := fillTo_len _ _ h
theorem marks_zero (k : Int) (l : List Nat) : marks k l 0 = l := fillTo_zero _ _
theorem marks_step (k : Int) (l : List Nat) {i : Nat} (h : i * 3 + 2 < l.length) : (((marks k l i).set (i * 3) (markF k (i * 3))).set (i * 3 + 1) (markF k (i * 3 + 1))).set (i * 3 + 2) (markF k (i * 3 + 2)) = marks k l (i + 1) := fill3 _ _ h
def heldI (k : Int) (l : List Nat) (j : Nat) : Bool := !fcmp .neq .f32 (l.getD j 0) (markF k j)
def heldW (k : Int) (l : List Nat) (i : Nat) : Bool := allI (heldI k l) (i * 3)
theorem fint_eq (k : FloatKind) (n : Int) : fcmp .neq k (floatOfInt k n) (floatOfInt k n) = false := by
  have h : (k.format.read (floatOfInt k n)).isNaN = false := nan_write k (.number (n < 0) n.natAbs 0) rfl
  unfold fcmp
  simp only [Ieee.Format.order]
  cases hx : k.format.read (floatOfInt k n) with
  | nan s t => rw [hx] at h; simp [Ieee.Datum.isNaN] at h
  | infinity s => simp [Ieee.Datum.order]
  | number s m e => simp [Ieee.Datum.order]
theorem held_marks (k : Int) (l : List Nat) (n : Nat) : heldW k (marks k l n) n = true := allI_all fun i hi => by
  unfold heldI marks
  rw [fillTo_lo _ _ hi, markF, fint_eq]; rfl
theorem fn18 : FnOk Tryd.prog 18 Tryd.f18 (bodyOf Tryd.f18) := ⟨Tryd.func18, rfl, by rfl⟩
def s18 : Spec := hspec fun args H => match args, H with
  | [.c (.f .f64 a), .c (.f .f64 b)], [] => some (vB (sameF (a ()) (b ())), [], [])
  | _, _ => none
theorem ok18 : Ok Tryd.prog 18 (s18) := ok_of_wpaH (E := envGetL []) mixed tts (envOk_nil _) fn18 fun args H v H' o hs ho => by
  split at hs
  · rename_i a b
    cases hs
    refine ⟨_, HLe.nil, ?_⟩
    cbv
    repeat' first
      | (refine alt_t (by assumption) ?_; cbv)
      | (refine alt_f (by assumption) ?_; cbv)
      | (refine alt_b (fun h => ?_) (fun h => ?_) <;> cbv)
      | (refine Br.mk (fun h => ?_) (fun h => ?_) <;> cbv)
      | (refine Ob.mk ?_ ?_; rotate_left; cbv)
      | (refine Lex.mk (by kernel_rfl) ?_; cbv)
    all_goals (try simp only [Unit.unit, Int.ofNat_lt, Int.ofNat_le, BE.val, IE.val, NE.val, ltB_iff, ltB_no, leB_iff, leB_no, Int.toNat_natCast, Nat.zero_add, Nat.add_zero, Nat.mul_one, forced, beq_iff_eq, beq_eq_false_iff_ne] at *)
    all_goals first | with_reducible rfl | (simp_all [sameF]; done) | grind [sameF]
  · cases hs
theorem fn35 : FnOk Tryd.prog 35 Tryd.f35 (bodyOf Tryd.f35) := ⟨Tryd.func35, rfl, by rfl⟩
def s35 : Spec := hspec fun args H => match args, H with
  | [.a [.f .f32 a, .f .f32 b, .f .f32 d], .a [.f .f32 a', .f .f32 b', .f .f32 d']], [] => some (vB (sameF (cv (a ())) (cv (a' ())) && sameF (cv (b ())) (cv (b' ())) && sameF (cv (d ())) (cv (d' ()))), [], [])
  | _, _ => none
def E35 : Env := fun g => envGetL [(18, ⟨true, s18, none⟩)] g
theorem E35ok : EnvOk Tryd.prog E35 := envOk_cons ok18 (envOk_nil _)
theorem ok35 : Ok Tryd.prog 35 (s35) := ok_of_wpaH (E := E35) mixed tts E35ok fn35 fun args H v H' o hs ho => by
  split at hs
  · rename_i a b d a' b' d'
    cases hs
    refine ⟨_, HLe.nil, ?_⟩
    cbv
    repeat' first
      | (refine Br.mk (fun h => ?_) (fun h => ?_) <;> cbv)
      | (refine Ob.mk ?_ ?_; rotate_left; cbv)
    all_goals (try simp only [Unit.unit, Int.ofNat_lt, Int.ofNat_le, BE.val, IE.val, NE.val, ltB_iff, ltB_no, leB_iff, leB_no, Int.toNat_natCast, Nat.zero_add, Nat.add_zero, Nat.mul_one, forced, beq_iff_eq, beq_eq_false_iff_ne] at *)
    all_goals first | with_reducible rfl | (simp_all [cv]; done) | grind [cv]
  · cases hs
theorem fn23 : FnOk Tryd.prog 23 Tryd.f23 (bodyOf Tryd.f23) := ⟨Tryd.func23, rfl, by rfl⟩
def s23 : Spec := hspec fun args H => match args, H with
  | [.c (.sl 0 (.x o) (.x n)), .c (.sl 1 (.x o') (.x n'))], [some ⟨false, 0, x⟩, some ⟨false, 0, x'⟩] => match x.toFl, x'.toFl with
    | some l, some l' => some (vB (n () == n' () && sameSps (l ()) (l' ()) (n ())), [none, none], [fun _ => o () = 0 ∧ (l ()).length = 3 * n () ∧ n () ≤ 1048576, fun _ => o' () = 0 ∧ (l' ()).length = 3 * n' () ∧ n' () ≤ 1048576])
    | _, _ => none
  | [.c .sn, .c .sn], [] => some (vB true, [], [])
  | _, _ => none
def E23 : Env := fun g => envGetL [(35, ⟨true, s35, none⟩)] g
theorem E23ok : EnvOk Tryd.prog E23 := envOk_cons ok35 (envOk_nil _)
theorem ok23 : Ok Tryd.prog 23 (s23) := ok_of_wpaH (E := E23) mixed tts E23ok fn23 fun args H v H' o hs ho => by
  split at hs
  · rename_i o n o' n' x x'
    split at hs
    · rename_i l l' hl hl'
      cases hs
      obtain ⟨⟨ho0, hlen, hbig⟩, ⟨ho0', hlen', hbig'⟩⟩ := ho.two
      refine ⟨_, HLe.cons (BLe.fl hl) (HLe.cons (BLe.fl hl') HLe.nil), ?_⟩
      cbv
      refine Br.mk (fun hne => ?_) (fun hne => ?_)
      · cbv
        repeat' (refine Ob.mk ?_ ?_; rotate_left; cbv)
        all_goals (try simp only [Unit.unit, Int.ofNat_lt, Int.ofNat_le, BE.val, IE.val, NE.val, ltB_iff, ltB_no, leB_iff, leB_no, Int.toNat_natCast, Nat.zero_add, Nat.add_zero, Nat.mul_one, forced, beq_iff_eq, beq_eq_false_iff_ne] at *)
        all_goals grind
      · cbv
        have hnn : n () = n' () := by
          (try simp only [Unit.unit, Int.ofNat_lt, Int.ofNat_le, BE.val, IE.val, NE.val, ltB_iff, ltB_no, leB_iff, leB_no, Int.toNat_natCast, Nat.zero_add, Nat.add_zero, Nat.mul_one, forced, beq_iff_eq, beq_eq_false_iff_ne] at *)
          grind
        refine loop_rule (α := Unit → Nat) (c := ⟨tt, E23, 2⟩)
            (fun i => fr 27 [(0, .c (.sl 0 (.x o) (.x n))), (1, .c (.sl 1 (.x o') (.x n'))), (5, .c (.i .i64 (.x fun _ => i ())))]) (fun i => [some ⟨false, 0, .fl l⟩, some ⟨false, 0, .fl l'⟩])
            (fun i => i () ≤ n () ∧ sameSps (l ()) (l' ()) (i ()) = true) (fun i => n () - i ()) (fun _ => n () + 1) ?_ ?_
        · refine .mk (fun _ => 0) ⟨Nat.zero_le _, rfl⟩ (by dsimp only; omega) ?_
          cbv
          repeat' (refine Ob.mk ?_ ?_; rotate_left)
          all_goals (try simp only [Unit.unit, Int.ofNat_lt, Int.ofNat_le, BE.val, IE.val, NE.val, ltB_iff, ltB_no, leB_iff, leB_no, Int.toNat_natCast, Nat.zero_add, Nat.add_zero, Nat.mul_one, forced, beq_iff_eq, beq_eq_false_iff_ne] at *)
          all_goals first | with_reducible rfl | trivial
        · intro i hi
          cbv
          repeat' first
            | (refine alt_t (by assumption) ?_; cbv)
            | (refine alt_f (by assumption) ?_; cbv)
            | (refine alt_b (fun h => ?_) (fun h => ?_) <;> cbv)
            | (refine Br.mk (fun h => ?_) (fun h => ?_) <;> cbv)
            | (refine Ob.mk ?_ ?_; rotate_left; cbv)
            | (refine Lex.mk (by kernel_rfl) ?_; cbv)
            | (refine Next.mk (fun _ => i () + 1) ?_ ?_ ?_)
          all_goals (try simp only [Unit.unit, Int.ofNat_lt, Int.ofNat_le, BE.val, IE.val, NE.val, ltB_iff, ltB_no, leB_iff, leB_no, Int.toNat_natCast, Nat.zero_add, Nat.add_zero, Nat.mul_one, forced, beq_iff_eq, beq_eq_false_iff_ne] at *)
          all_goals (try simp only [ho0, ho0', Nat.zero_add] at *)
          all_goals first | with_reducible rfl | omega | exact wrap64_nat (by omega) | (refine ⟨Int.natCast_nonneg _, ?_⟩; omega) | grind [sameSps, sameSp, allI_no, allI, cv]
    · cases hs
  · cases hs
    refine ⟨_, HLe.nil, ?_⟩
    cbv
    repeat' first
      | (refine Loop.mk 5 ?_; cbv)
      | (refine Gen.same ?_; cbv)
      | (refine Ob.mk ?_ ?_; rotate_left; cbv)
    all_goals (try simp only [Unit.unit, Int.ofNat_lt, Int.ofNat_le, BE.val, IE.val, NE.val, ltB_iff, ltB_no, leB_iff, leB_no, Int.toNat_natCast, Nat.zero_add, Nat.add_zero, Nat.mul_one, forced, beq_iff_eq, beq_eq_false_iff_ne] at *)
    all_goals first | with_reducible rfl | grind
  · cases hs
theorem fn10 : FnOk Tryd.prog 10 Tryd.f10 (bodyOf Tryd.f10) := ⟨Tryd.func10, rfl, by rfl⟩
def sameW (st sp fd st' sp' fd' : Nat) : Bool := sameF (cv st) (cv st') && sameF (cv sp) (cv sp') && sameF (cv fd) (cv fd')
theorem sameW_self (st sp fd : Nat) : sameW st sp fd st sp fd = true := by simp [sameW, sameF_refl]
def s10 : Spec := hspec fun args H => match args, H with
  | [.a [.f .f32 st, .f .f32 sp, .f .f32 fd, .sl 0 (.x o) (.x n)], .a [.f .f32 st', .f .f32 sp', .f .f32 fd', .sl 1 (.x o') (.x n')]], [some ⟨false, 0, x⟩, some ⟨false, 0, x'⟩] => match x.toFl, x'.toFl with
    | some l, some l' => some (vB (sameW (st ()) (sp ()) (fd ()) (st' ()) (sp' ()) (fd' ()) && (n () == n' () && sameSps (l ()) (l' ()) (n ()))), [none, none], [fun _ => o () = 0 ∧ (l ()).length = 3 * n () ∧ n () ≤ 1048576, fun _ => o' () = 0 ∧ (l' ()).length = 3 * n' () ∧ n' () ≤ 1048576])
    | _, _ => none
  | [.a [.f .f32 st, .f .f32 sp, .f .f32 fd, .sn], .a [.f .f32 st', .f .f32 sp', .f .f32 fd', .sn]], [] => some (vB (sameW (st ()) (sp ()) (fd ()) (st' ()) (sp' ()) (fd' ())), [], [])
  | _, _ => none
def E10 : Env := fun g => envGetL [(18, ⟨true, s18, none⟩), (23, ⟨true, s23, none⟩)] g
theorem E10ok : EnvOk Tryd.prog E10 := envOk_cons ok18 (envOk_cons ok23 (envOk_nil _))
theorem ok10 : Ok Tryd.prog 10 (s10) := ok_of_wpaH (E := E10) mixed tts E10ok fn10 fun args H v H' o hs ho => by
  split at hs
  · rename_i st sp fd o n st' sp' fd' o' n' x x'
    split at hs
    · rename_i l l' hl hl'
      cases hs
      obtain ⟨hw, hw'⟩ := ho.two
      refine ⟨_, HLe.cons (BLe.fl hl) (HLe.cons (BLe.fl hl') HLe.nil), ?_⟩
      cbv
      repeat' first
        | (refine Br.mk (fun h => ?_) (fun h => ?_) <;> cbv)
        | (refine Ob.mk ?_ ?_; rotate_left; cbv)
      all_goals (try simp only [Unit.unit, Int.ofNat_lt, Int.ofNat_le, BE.val, IE.val, NE.val, ltB_iff, ltB_no, leB_iff, leB_no, Int.toNat_natCast, Nat.zero_add, Nat.add_zero, Nat.mul_one, forced, beq_iff_eq, beq_eq_false_iff_ne] at *)
      all_goals first | with_reducible rfl | exact hw | exact hw' | (simp_all [sameW, cv]; done) | grind [sameW, cv]
    · cases hs
  · rename_i st sp fd st' sp' fd'
    cases hs
    refine ⟨_, HLe.nil, ?_⟩
    cbv
    repeat' first
      | (refine Br.mk (fun h => ?_) (fun h => ?_) <;> cbv)
      | (refine Ob.mk ?_ ?_; rotate_left; cbv)
    all_goals (try simp only [Unit.unit, Int.ofNat_lt, Int.ofNat_le, BE.val, IE.val, NE.val, ltB_iff, ltB_no, leB_iff, leB_no, Int.toNat_natCast, Nat.zero_add, Nat.add_zero, Nat.mul_one, forced, beq_iff_eq, beq_eq_false_iff_ne] at *)
    all_goals first | with_reducible rfl | (simp_all [sameW, cv]; done) | grind [sameW, cv]
  · cases hs
theorem fn24 : FnOk Tryd.prog 24 Tryd.f24 (bodyOf Tryd.f24) := ⟨Tryd.func24, rfl, by rfl⟩
def s24 : Spec := hspec fun args H => match args, H with
  | [.c (.sl 0 (.x o) (.x n)), .c (.i .i64 (.x k))], [some ⟨true, 3, x⟩] => match x.toFl with
    | some l => some (vI (k () + ((n () * 3 : Nat) : Int)), [some ⟨true, 3, .fl fun _ => marks (k ()) (l ()) (n ())⟩], [fun _ => o () = 0 ∧ (l ()).length = 3 * n () ∧ n () ≤ 1048576, fun _ => 0 ≤ k () ∧ k () < 4294967296])
    | _ => none
  | [.c .sn, .c (.i .i64 (.x k))], [] => some (vI (k ()), [], [])
  | _, _ => none
theorem wrapK {k : Int} {m : Nat} (h0 : 0 ≤ k) (h1 : k < 4294967296) (h2 : m < 4294967296) : IntKind.wrap .i64 (k + (m : Int) + 1) = k + ((m + 1 : Nat) : Int) := by
  rw [wrap64 (by omega) (by omega)]; omega
theorem marks_step' (k : Int) (l : List Nat) {i : Nat} (h : i * 3 + 2 < l.length) (h0 : 0 ≤ k) (h1 : k < 4294967296) (h2 : i < 1048577) :
    (((marks k l i).set (i * 3) (floatOfInt .f32 (k + ((i * 3 : Nat) : Int)))).set (i * 3 + 1) (floatOfInt .f32 (IntKind.wrap .i64 (k + ((i * 3 : Nat) : Int) + 1)))).set (i * 3 + 2) (floatOfInt .f32 (IntKind.wrap .i64 (IntKind.wrap .i64 (k + ((i * 3 : Nat) : Int) + 1) + 1))) = marks k l (i + 1) := by
  rw [wrapK h0 h1 (by omega), wrapK h0 h1 (by omega)]
  exact marks_step k l h
theorem marks_k {k : Int} {i : Nat} (h0 : 0 ≤ k) (h1 : k < 4294967296) (h2 : i < 1048577) : IntKind.wrap .i64 (IntKind.wrap .i64 (IntKind.wrap .i64 (k + ((i * 3 : Nat) : Int) + 1) + 1) + 1) = k + (((i + 1) * 3 : Nat) : Int) := by
  rw [wrapK h0 h1 (by omega), wrapK h0 h1 (by omega), wrapK h0 h1 (by omega)]; omega
theorem ok24 : Ok Tryd.prog 24 (s24) := ok_of_wpaH (E := envGetL []) mixed tts (envOk_nil _) fn24 fun args H v H' o hs ho => by
  split at hs
  · rename_i o n k x
    split at hs
    · rename_i l hl
      cases hs
      obtain ⟨⟨ho0, hlen, hbig⟩, hk0, hk1⟩ := ho.two
      refine ⟨_, HLe.cons (BLe.fl hl) HLe.nil, ?_⟩
      cbv
      refine loop_rule (α := Unit → Nat) (c := ⟨tt, (envGetL []), 1⟩)
          (fun i => fr 37 [(0, .c (.sl 0 (.x o) (.x n))), (1, .c (.i .i64 (.x fun _ => k () + ((i () * 3 : Nat) : Int)))), (5, .c (.i .i64 (.x fun _ => i ())))]) (fun i => [some ⟨true, 3, .fl fun _ => marks (k ()) (l ()) (i ())⟩])
          (fun i => i () ≤ n ()) (fun i => n () - i ()) (fun _ => n () + 1) ?_ ?_
      · refine .mk (fun _ => 0) (Nat.zero_le _) (by dsimp only; omega) ?_
        cbv
        repeat' (refine Ob.mk ?_ ?_; rotate_left)
        all_goals (try simp only [Unit.unit, Int.ofNat_lt, Int.ofNat_le, BE.val, IE.val, NE.val, ltB_iff, ltB_no, leB_iff, leB_no, Int.toNat_natCast, Nat.zero_add, Nat.add_zero, Nat.mul_one, forced, beq_iff_eq, beq_eq_false_iff_ne] at *)
        all_goals first | with_reducible rfl | trivial | (rw [marks_zero]) | (simp; done)
      · intro i hi
        cbv
        repeat' first
          | (refine alt_t (by assumption) ?_; cbv)
          | (refine alt_f (by assumption) ?_; cbv)
          | (refine alt_b (fun h => ?_) (fun h => ?_) <;> cbv)
          | (refine Br.mk (fun h => ?_) (fun h => ?_) <;> cbv)
          | (refine Ob.mk ?_ ?_; rotate_left; cbv)
          | (refine Lex.mk (by kernel_rfl) ?_; cbv)
          | (refine Next.mk (fun _ => i () + 1) ?_ ?_ ?_)
        all_goals (try simp only [Unit.unit, Int.ofNat_lt, Int.ofNat_le, BE.val, IE.val, NE.val, ltB_iff, ltB_no, leB_iff, leB_no, Int.toNat_natCast, Nat.zero_add, Nat.add_zero, Nat.mul_one, forced, beq_iff_eq, beq_eq_false_iff_ne] at *)
        all_goals (try simp only [ho0, Nat.zero_add, List.length_set] at *)
        all_goals first | with_reducible rfl | omega | exact wrap64_nat (by omega) | (refine ⟨Int.natCast_nonneg _, ?_⟩; omega) | (rw [marks_len _ _ (by omega)]; omega) | exact marks_step' _ _ (by omega) hk0 hk1 (by omega) | exact marks_k hk0 hk1 (by omega) | (rw [show i ⟨⟩ = n ⟨⟩ by omega])
    · cases hs
  · rename_i k
    cases hs
    refine ⟨_, HLe.nil, ?_⟩
    cbv
    repeat' first
      | (refine Loop.mk 5 ?_; cbv)
      | (refine Gen.same ?_; cbv)
      | (refine Ob.mk ?_ ?_; rotate_left; cbv)
    all_goals (try simp only [Unit.unit, Int.ofNat_lt, Int.ofNat_le, BE.val, IE.val, NE.val, ltB_iff, ltB_no, leB_iff, leB_no, Int.toNat_natCast, Nat.zero_add, Nat.add_zero, Nat.mul_one, forced, beq_iff_eq, beq_eq_false_iff_ne] at *)
    all_goals first | with_reducible rfl | grind
  · cases hs
theorem fn25 : FnOk Tryd.prog 25 Tryd.f25 (bodyOf Tryd.f25) := ⟨Tryd.func25, rfl, by rfl⟩
def s25 : Spec := hspec fun args H => match args, H with
  | [.c (.sl 0 (.x o) (.x n)), .c (.i .i64 (.x k))], [some ⟨false, 0, x⟩] => match x.toFl with
    | some l => some (vI (if heldW (k ()) (l ()) (n ()) then k () + ((n () * 3 : Nat) : Int) else -1), [none], [fun _ => o () = 0 ∧ (l ()).length = 3 * n () ∧ n () ≤ 1048576, fun _ => 0 ≤ k () ∧ k () < 4294967296])
    | _ => none
  | [.c .sn, .c (.i .i64 (.x k))], [] => some (vI (k ()), [], [])
  | _, _ => none
theorem heldW_no {k : Int} {l : List Nat} {i n c : Nat} (h : i < n) (hc : c < 3) (h' : fcmp .neq .f32 (l.getD (i * 3 + c) 0) (markF k (i * 3 + c)) = true) : heldW k l n = false :=
  allI_no (i := i * 3 + c) (by omega) (by unfold heldI; rw [h']; rfl)
theorem held_at {k x : Int} {l : List Nat} {i n : Nat} (c : Nat) (h : i < n) (hc : c < 3) (h' : fcmp .neq .f32 (l.getD (i * 3 + c) 0) (floatOfInt .f32 (k + ((i * 3 + c : Nat) : Int))) = true) : -1 = if heldW k l n = true then x else -1 := by
  rw [heldW_no h hc h']; rfl
theorem held_at0 {k x : Int} {l : List Nat} {i n : Nat} (h : i < n) (h' : fcmp .neq .f32 (l.getD (i * 3) 0) (floatOfInt .f32 (k + ((i * 3 : Nat) : Int))) = true) : -1 = if heldW k l n = true then x else -1 := held_at 0 h (by decide) h'
theorem held_at1 {k x : Int} {l : List Nat} {i n : Nat} (h : i < n) (h' : fcmp .neq .f32 (l.getD (i * 3 + 1) 0) (floatOfInt .f32 (k + ((i * 3 + 1 : Nat) : Int))) = true) : -1 = if heldW k l n = true then x else -1 := held_at 1 h (by decide) h'
theorem held_at2 {k x : Int} {l : List Nat} {i n : Nat} (h : i < n) (h' : fcmp .neq .f32 (l.getD (i * 3 + 2) 0) (floatOfInt .f32 (k + ((i * 3 + 2 : Nat) : Int))) = true) : -1 = if heldW k l n = true then x else -1 := held_at 2 h (by decide) h'
theorem heldW_yes {k : Int} {l : List Nat} {i n : Nat} (hn : i < n) (h : heldW k l i = true) (h0 : fcmp .neq .f32 (l.getD (i * 3) 0) (floatOfInt .f32 (k + ((i * 3 : Nat) : Int))) = false) (h1 : fcmp .neq .f32 (l.getD (i * 3 + 1) 0) (floatOfInt .f32 (k + ((i * 3 + 1 : Nat) : Int))) = false) (h2 : fcmp .neq .f32 (l.getD (i * 3 + 2) 0) (floatOfInt .f32 (k + ((i * 3 + 2 : Nat) : Int))) = false) : i + 1 ≤ n ∧ heldW k l (i + 1) = true := by
  refine ⟨hn, ?_⟩
  unfold heldW at *
  rw [show (i + 1) * 3 = i * 3 + 1 + 1 + 1 by omega]
  simp only [allI, h, heldI, markF, h0, h1, h2]; rfl
set_option maxRecDepth 100000 in
set_option maxHeartbeats 2000000 in
theorem ok25 : Ok Tryd.prog 25 (s25) := ok_of_wpaH (E := envGetL []) mixed tts (envOk_nil _) fn25 fun args H v H' o hs ho => by
  split at hs
  · rename_i o n k x
    split at hs
    · rename_i l hl
      cases hs
      obtain ⟨⟨ho0, hlen, hbig⟩, hk0, hk1⟩ := ho.two
      refine ⟨_, HLe.cons (BLe.fl hl) HLe.nil, ?_⟩
      cbv
      refine loop_rule (α := Unit → Nat) (c := ⟨tt, (envGetL []), 1⟩)
          (fun i => fr 43 [(0, .c (.sl 0 (.x o) (.x n))), (1, .c (.i .i64 (.x fun _ => k () + ((i () * 3 : Nat) : Int)))), (5, .c (.i .i64 (.x fun _ => i ())))]) (fun i => [some ⟨false, 0, .fl l⟩])
          (fun i => i () ≤ n () ∧ heldW (k ()) (l ()) (i ()) = true) (fun i => n () - i ()) (fun _ => n () + 1) ?_ ?_
      · refine .mk (fun _ => 0) ⟨Nat.zero_le _, rfl⟩ (by dsimp only; omega) ?_
        cbv
        repeat' (refine Ob.mk ?_ ?_; rotate_left)
        all_goals (try simp only [Unit.unit, Int.ofNat_lt, Int.ofNat_le, BE.val, IE.val, NE.val, ltB_iff, ltB_no, leB_iff, leB_no, Int.toNat_natCast, Nat.zero_add, Nat.add_zero, Nat.mul_one, forced, beq_iff_eq, beq_eq_false_iff_ne] at *)
        all_goals first | with_reducible rfl | trivial | (simp; done)
      · intro i hi
        have h1 : i ⟨⟩ ≤ n ⟨⟩ := hi.1
        have w1 : IntKind.wrap .i64 (k ⟨⟩ + ((i ⟨⟩ * 3 : Nat) : Int) + 1) = k ⟨⟩ + ((i ⟨⟩ * 3 + 1 : Nat) : Int) := wrapK hk0 hk1 (by omega)
        have w2 : IntKind.wrap .i64 (k ⟨⟩ + ((i ⟨⟩ * 3 + 1 : Nat) : Int) + 1) = k ⟨⟩ + ((i ⟨⟩ * 3 + 2 : Nat) : Int) := wrapK hk0 hk1 (by omega)
        cbv
        repeat' first
          | (refine alt_t (by assumption) ?_; cbv)
          | (refine alt_f (by assumption) ?_; cbv)
          | (refine alt_b (fun h => ?_) (fun h => ?_) <;> cbv)
          | (refine Br.mk (fun h => ?_) (fun h => ?_) <;> cbv)
          | (refine Ob.mk ?_ ?_; rotate_left; cbv)
          | (refine Lex.mk (by kernel_rfl) ?_; cbv)
          | (refine Next.mk (fun _ => i () + 1) ?_ ?_ ?_)
        all_goals (try simp only [Unit.unit, Int.ofNat_lt, Int.ofNat_le, BE.val, IE.val, NE.val, ltB_iff, ltB_no, leB_iff, leB_no, Int.toNat_natCast, Nat.zero_add, Nat.add_zero, Nat.mul_one, forced, beq_iff_eq, beq_eq_false_iff_ne] at *)
        all_goals (try simp only [ho0, Nat.zero_add, List.length_set] at *)
        all_goals first | with_reducible rfl | omega | exact wrap64_nat (by omega) | (refine ⟨Int.natCast_nonneg _, ?_⟩; omega) | with_reducible exact marks_k (k := k ⟨⟩) (i := i ⟨⟩) hk0 hk1 (by omega) | ((try simp only [w1, w2] at *); first | (with_reducible exact held_at0 (k := k ⟨⟩) (l := l ⟨⟩) (i := i ⟨⟩) (n := n ⟨⟩) (by omega) h) | (with_reducible exact held_at1 (k := k ⟨⟩) (l := l ⟨⟩) (i := i ⟨⟩) (n := n ⟨⟩) (by omega) h) | (with_reducible exact held_at2 (k := k ⟨⟩) (l := l ⟨⟩) (i := i ⟨⟩) (n := n ⟨⟩) (by omega) h) | (with_reducible exact heldW_yes (k := k ⟨⟩) (l := l ⟨⟩) (i := i ⟨⟩) (n := n ⟨⟩) (by omega) hi.2 (by assumption) (by assumption) (by assumption)) | (rw [show i ⟨⟩ = n ⟨⟩ by omega] at hi; rw [if_pos hi.2]; done) | (rw [show n ⟨⟩ = i ⟨⟩ by omega, if_pos hi.2]; done))
    · cases hs
  · rename_i k
    cases hs
    refine ⟨_, HLe.nil, ?_⟩
    cbv
    repeat' first
      | (refine Loop.mk 5 ?_; cbv)
      | (refine Gen.same ?_; cbv)
      | (refine Ob.mk ?_ ?_; rotate_left; cbv)
    all_goals (try simp only [Unit.unit, Int.ofNat_lt, Int.ofNat_le, BE.val, IE.val, NE.val, ltB_iff, ltB_no, leB_iff, leB_no, Int.toNat_natCast, Nat.zero_add, Nat.add_zero, Nat.mul_one, forced, beq_iff_eq, beq_eq_false_iff_ne] at *)
    all_goals first | with_reducible rfl | grind
  · cases hs
theorem fn11 : FnOk Tryd.prog 11 Tryd.f11 (bodyOf Tryd.f11) := ⟨Tryd.func11, rfl, by rfl⟩
def s11 : Spec := hspec fun args H => match args, H with
  | [.a [.f .f32 _, .f .f32 _, .f .f32 _, .sl 0 (.x o) (.x n)], .c (.i .i64 (.x k))], [some ⟨true, 3, x⟩] => match x.toFl with
    | some l => some (vI (k () + ((n () * 3 : Nat) : Int)), [some ⟨true, 3, .fl fun _ => marks (k ()) (l ()) (n ())⟩], [fun _ => o () = 0 ∧ (l ()).length = 3 * n () ∧ n () ≤ 1048576, fun _ => 0 ≤ k () ∧ k () < 4294967296])
    | _ => none
  | [.a [.f .f32 _, .f .f32 _, .f .f32 _, .sn], .c (.i .i64 (.x k))], [] => some (vI (k ()), [], [])
  | _, _ => none
def E11 : Env := fun g => envGetL [(24, ⟨false, s24, none⟩)] g
theorem E11ok : EnvOk Tryd.prog E11 := envOk_cons ok24 (envOk_nil _)
theorem ok11 : Ok Tryd.prog 11 (s11) := ok_of_wpaH (E := E11) mixed tts E11ok fn11 fun args H v H' o hs ho => by
  split at hs
  · rename_i a b d o n k x
    split at hs
    · rename_i l hl
      cases hs
      obtain ⟨hw, hk⟩ := ho.two
      refine ⟨_, HLe.cons (BLe.fl hl) HLe.nil, ?_⟩
      cbv
      repeat' first
        | (refine Br.mk (fun h => ?_) (fun h => ?_) <;> cbv)
        | (refine Ob.mk ?_ ?_; rotate_left; cbv)
      all_goals (try simp only [Unit.unit, Int.ofNat_lt, Int.ofNat_le, BE.val, IE.val, NE.val, ltB_iff, ltB_no, leB_iff, leB_no, Int.toNat_natCast, Nat.zero_add, Nat.add_zero, Nat.mul_one, forced, beq_iff_eq, beq_eq_false_iff_ne] at *)
      all_goals first | with_reducible rfl | exact hw | exact hk | grind
    · cases hs
  · rename_i a b d k
    cases hs
    refine ⟨_, HLe.nil, ?_⟩
    cbv
    repeat' first
      | (refine Br.mk (fun h => ?_) (fun h => ?_) <;> cbv)
      | (refine Ob.mk ?_ ?_; rotate_left; cbv)
    all_goals (try simp only [Unit.unit, Int.ofNat_lt, Int.ofNat_le, BE.val, IE.val, NE.val, ltB_iff, ltB_no, leB_iff, leB_no, Int.toNat_natCast, Nat.zero_add, Nat.add_zero, Nat.mul_one, forced, beq_iff_eq, beq_eq_false_iff_ne] at *)
    all_goals first | with_reducible rfl | grind
  · cases hs
theorem fn12 : FnOk Tryd.prog 12 Tryd.f12 (bodyOf Tryd.f12) := ⟨Tryd.func12, rfl, by rfl⟩
def s12 : Spec := hspec fun args H => match args, H with
  | [.a [.f .f32 _, .f .f32 _, .f .f32 _, .sl 0 (.x o) (.x n)], .c (.i .i64 (.x k))], [some ⟨false, 0, x⟩] => match x.toFl with
    | some l => some (vI (if heldW (k ()) (l ()) (n ()) then k () + ((n () * 3 : Nat) : Int) else -1), [none], [fun _ => o () = 0 ∧ (l ()).length = 3 * n () ∧ n () ≤ 1048576, fun _ => 0 ≤ k () ∧ k () < 4294967296])
    | _ => none
  | [.a [.f .f32 _, .f .f32 _, .f .f32 _, .sn], .c (.i .i64 (.x k))], [] => some (vI (k ()), [], [fun _ => 0 ≤ k ()])
  | _, _ => none
def E12 : Env := fun g => envGetL [(25, ⟨true, s25, none⟩)] g
theorem E12ok : EnvOk Tryd.prog E12 := envOk_cons ok25 (envOk_nil _)
theorem ok12 : Ok Tryd.prog 12 (s12) := ok_of_wpaH (E := E12) mixed tts E12ok fn12 fun args H v H' o hs ho => by
  split at hs
  · rename_i a b d o n k x
    split at hs
    · rename_i l hl
      cases hs
      obtain ⟨hw, hk⟩ := ho.two
      refine ⟨_, HLe.cons (BLe.fl hl) HLe.nil, ?_⟩
      cbv
      repeat' first
        | (refine Br.mk (fun h => ?_) (fun h => ?_) <;> cbv)
        | (refine Ob.mk ?_ ?_; rotate_left; cbv)
      all_goals (try simp only [Unit.unit, Int.ofNat_lt, Int.ofNat_le, BE.val, IE.val, NE.val, ltB_iff, ltB_no, leB_iff, leB_no, Int.toNat_natCast, Nat.zero_add, Nat.add_zero, Nat.mul_one, forced, beq_iff_eq, beq_eq_false_iff_ne] at *)
      all_goals first | with_reducible rfl | exact hw | exact hk | grind
    · cases hs
  · rename_i a b d k
    cases hs
    have hk := ho.one
    refine ⟨_, HLe.nil, ?_⟩
    cbv
    repeat' first
      | (refine Br.mk (fun h => ?_) (fun h => ?_) <;> cbv)
      | (refine Ob.mk ?_ ?_; rotate_left; cbv)
    all_goals (try simp only [Unit.unit, Int.ofNat_lt, Int.ofNat_le, BE.val, IE.val, NE.val, ltB_iff, ltB_no, leB_iff, leB_no, Int.toNat_natCast, Nat.zero_add, Nat.add_zero, Nat.mul_one, forced, beq_iff_eq, beq_eq_false_iff_ne] at *)
    all_goals first | with_reducible rfl | grind
  · cases hs
end Go.Proofs.YteifneielgnniaaDoor.Sh
end
section
namespace Go.Proofs.YteifneielgnniaaDoor.Sh
open Go Go.Proofs
theorem webOk_no {st sp fd : Nat} {l : List Nat} {n i : Nat} (h : i < n) (hs : spanOk l i = false) : webOk st sp fd l n = false := by
  unfold webOk
  rw [allI_no h hs, Bool.and_false]
theorem webOk_yes {st sp fd : Nat} {l : List Nat} {n : Nat} (h : webOk st sp fd l n = true) : 1 ≤ n ∧ n ≤ 8 := by
  simp only [webOk, Bool.and_eq_true, decide_eq_true_eq] at h
  exact h.1.2
theorem fn32 : FnOk Tryd.prog 32 Tryd.f32 (bodyOf Tryd.f32) := ⟨Tryd.func32, rfl, by rfl⟩
def s32 : Spec := hspec fun args H => match args, H with
  | [.c (.f .f32 a), .c (.f .f32 lo), .c (.f .f32 hi)], [] => some (vB (isIn (a ()) (lo ()) (hi ())), [], [])
  | _, _ => none
theorem ok32 : Ok Tryd.prog 32 (s32) := ok_of_wpaH (E := envGetL []) mixed tts (envOk_nil _) fn32 fun args H v H' o hs ho => by
  split at hs
  · rename_i a lo hi
    cases hs
    refine ⟨_, HLe.nil, ?_⟩
    cbv
    repeat' first
      | (refine alt_t (by assumption) ?_; cbv)
      | (refine alt_f (by assumption) ?_; cbv)
      | (refine alt_b (fun h => ?_) (fun h => ?_) <;> cbv)
      | (refine Br.mk (fun h => ?_) (fun h => ?_) <;> cbv)
      | (refine Ob.mk ?_ ?_; rotate_left; cbv)
      | (refine Lex.mk (by kernel_rfl) ?_; cbv)
    all_goals (try simp only [Unit.unit, Int.ofNat_lt, Int.ofNat_le, BE.val, IE.val, NE.val, ltB_iff, ltB_no, leB_iff, leB_no, Int.toNat_natCast, Nat.zero_add, Nat.add_zero, Nat.mul_one, forced, beq_iff_eq, beq_eq_false_iff_ne] at *)
    all_goals first | with_reducible rfl | (simp_all [isIn]; done) | grind [isIn]
  · cases hs
theorem fn33 : FnOk Tryd.prog 33 Tryd.f33 (bodyOf Tryd.f33) := ⟨Tryd.func33, rfl, by rfl⟩
def s33 : Spec := hspec fun args H => match args, H with
  | [.c (.f .f32 a)], [] => some (vB (isSpd (a ())), [], [])
  | _, _ => none
def E33 : Env := fun g => envGetL [(32, ⟨true, s32, none⟩)] g
theorem E33ok : EnvOk Tryd.prog E33 := envOk_cons ok32 (envOk_nil _)
theorem ok33 : Ok Tryd.prog 33 (s33) := ok_of_wpaH (E := E33) mixed tts E33ok fn33 fun args H v H' o hs ho => by
  split at hs
  · rename_i a
    cases hs
    refine ⟨_, HLe.nil, ?_⟩
    cbv
    repeat' first
      | (refine alt_t (by assumption) ?_; cbv)
      | (refine alt_f (by assumption) ?_; cbv)
      | (refine alt_b (fun h => ?_) (fun h => ?_) <;> cbv)
      | (refine Br.mk (fun h => ?_) (fun h => ?_) <;> cbv)
      | (refine Ob.mk ?_ ?_; rotate_left; cbv)
      | (refine Lex.mk (by kernel_rfl) ?_; cbv)
    all_goals (try simp only [Unit.unit, Int.ofNat_lt, Int.ofNat_le, BE.val, IE.val, NE.val, ltB_iff, ltB_no, leB_iff, leB_no, Int.toNat_natCast, Nat.zero_add, Nat.add_zero, Nat.mul_one, forced, beq_iff_eq, beq_eq_false_iff_ne] at *)
    all_goals first | with_reducible rfl | (simp_all [isSpd, isIn]; done) | grind [isSpd, isIn]
  · cases hs
theorem fn34 : FnOk Tryd.prog 34 Tryd.f34 (bodyOf Tryd.f34) := ⟨Tryd.func34, rfl, by rfl⟩
def s34 : Spec := hspec fun args H => match args, H with
  | [.c (.f .f32 a)], [] => some (vB (isPlain (a ())), [], [])
  | _, _ => none
def E34 : Env := fun g => envGetL [(32, ⟨true, s32, none⟩)] g
theorem E34ok : EnvOk Tryd.prog E34 := envOk_cons ok32 (envOk_nil _)
theorem ok34 : Ok Tryd.prog 34 (s34) := ok_of_wpaH (E := E34) mixed tts E34ok fn34 fun args H v H' o hs ho => by
  split at hs
  · rename_i a
    cases hs
    refine ⟨_, HLe.nil, ?_⟩
    cbv
    repeat' first
      | (refine alt_t (by assumption) ?_; cbv)
      | (refine alt_f (by assumption) ?_; cbv)
      | (refine alt_b (fun h => ?_) (fun h => ?_) <;> cbv)
      | (refine Br.mk (fun h => ?_) (fun h => ?_) <;> cbv)
      | (refine Ob.mk ?_ ?_; rotate_left; cbv)
      | (refine Lex.mk (by kernel_rfl) ?_; cbv)
    all_goals (try simp only [Unit.unit, Int.ofNat_lt, Int.ofNat_le, BE.val, IE.val, NE.val, ltB_iff, ltB_no, leB_iff, leB_no, Int.toNat_natCast, Nat.zero_add, Nat.add_zero, Nat.mul_one, forced, beq_iff_eq, beq_eq_false_iff_ne] at *)
    all_goals first | with_reducible rfl | (simp_all [isPlain, isIn]; done) | grind [isPlain, isIn]
  · cases hs
theorem fn30 : FnOk Tryd.prog 30 Tryd.f30 (bodyOf Tryd.f30) := ⟨Tryd.func30, rfl, by rfl⟩
def s30 : Spec := hspec fun args H => match args, H with
  | [.c (.f .f32 a)], [] => some (vB (isPlain (a ())), [], [])
  | _, _ => none
theorem ok30 : Ok Tryd.prog 30 (s30) := ok_of_wpaH (E := envGetL []) mixed tts (envOk_nil _) fn30 fun args H v H' o hs ho => by
  split at hs
  · rename_i a
    cases hs
    refine ⟨_, HLe.nil, ?_⟩
    cbv
    repeat' first
      | (refine alt_t (by assumption) ?_; cbv)
      | (refine alt_f (by assumption) ?_; cbv)
      | (refine alt_b (fun h => ?_) (fun h => ?_) <;> cbv)
      | (refine Br.mk (fun h => ?_) (fun h => ?_) <;> cbv)
      | (refine Ob.mk ?_ ?_; rotate_left; cbv)
      | (refine Lex.mk (by kernel_rfl) ?_; cbv)
    all_goals (try simp only [Unit.unit, Int.ofNat_lt, Int.ofNat_le, BE.val, IE.val, NE.val, ltB_iff, ltB_no, leB_iff, leB_no, Int.toNat_natCast, Nat.zero_add, Nat.add_zero, Nat.mul_one, forced, beq_iff_eq, beq_eq_false_iff_ne] at *)
    all_goals first | with_reducible rfl | (simp_all [isPlain, isIn]; done) | grind [isPlain, isIn]
  · cases hs
theorem fn29 : FnOk Tryd.prog 29 Tryd.f29 (bodyOf Tryd.f29) := ⟨Tryd.func29, rfl, by rfl⟩
def s29 : Spec := hspec fun args H => match args, H with
  | [.c (.f .f32 a)], [] => some (vB (isSpd (a ())), [], [])
  | _, _ => none
theorem ok29 : Ok Tryd.prog 29 (s29) := ok_of_wpaH (E := envGetL []) mixed tts (envOk_nil _) fn29 fun args H v H' o hs ho => by
  split at hs
  · rename_i a
    cases hs
    refine ⟨_, HLe.nil, ?_⟩
    cbv
    repeat' first
      | (refine alt_t (by assumption) ?_; cbv)
      | (refine alt_f (by assumption) ?_; cbv)
      | (refine alt_b (fun h => ?_) (fun h => ?_) <;> cbv)
      | (refine Br.mk (fun h => ?_) (fun h => ?_) <;> cbv)
      | (refine Ob.mk ?_ ?_; rotate_left; cbv)
      | (refine Lex.mk (by kernel_rfl) ?_; cbv)
    all_goals (try simp only [Unit.unit, Int.ofNat_lt, Int.ofNat_le, BE.val, IE.val, NE.val, ltB_iff, ltB_no, leB_iff, leB_no, Int.toNat_natCast, Nat.zero_add, Nat.add_zero, Nat.mul_one, forced, beq_iff_eq, beq_eq_false_iff_ne] at *)
    all_goals first | with_reducible rfl | (simp_all [isSpd, isIn]; done) | grind [isSpd, isIn]
  · cases hs
theorem fn31 : FnOk Tryd.prog 31 Tryd.f31 (bodyOf Tryd.f31) := ⟨Tryd.func31, rfl, by rfl⟩
def s31 : Spec := hspec fun args H => match args, H with
  | [.c (.i .i64 (.x a)), .c (.i .i64 (.x b)), .c (.i .i64 (.x d))], [] => some (vB (inI (a ()) (b ()) (d ())), [], [])
  | _, _ => none
theorem ok31 : Ok Tryd.prog 31 (s31) := ok_of_wpaH (E := envGetL []) mixed tts (envOk_nil _) fn31 fun args H v H' o hs ho => by
  split at hs
  · rename_i a b d
    cases hs
    refine ⟨_, HLe.nil, ?_⟩
    cbv
    repeat' first
      | (refine alt_t (by assumption) ?_; cbv)
      | (refine alt_f (by assumption) ?_; cbv)
      | (refine alt_b (fun h => ?_) (fun h => ?_) <;> cbv)
      | (refine Br.mk (fun h => ?_) (fun h => ?_) <;> cbv)
      | (refine Ob.mk ?_ ?_; rotate_left; cbv)
      | (refine Lex.mk (by kernel_rfl) ?_; cbv)
    all_goals (try simp only [Unit.unit, Int.ofNat_lt, Int.ofNat_le, BE.val, IE.val, NE.val, ltB_iff, ltB_no, leB_iff, leB_no, Int.toNat_natCast, Nat.zero_add, Nat.add_zero, Nat.mul_one, forced, beq_iff_eq, beq_eq_false_iff_ne] at *)
    all_goals first | with_reducible rfl | (simp_all [inI, leB]; done) | grind [inI, leB]
  · cases hs
theorem fn22 : FnOk Tryd.prog 22 Tryd.f22 (bodyOf Tryd.f22) := ⟨Tryd.func22, rfl, by rfl⟩
def s22 : Spec := hspec fun args H => match args, H with
  | [.a [.f .f32 st, .f .f32 sp, .f .f32 fd, .sl 0 (.x o) (.x n)]], [some ⟨false, 0, x⟩] => match x.toFl with
    | some l => some (vB (webOk (st ()) (sp ()) (fd ()) (l ()) (n ())), [none], [fun _ => o () = 0 ∧ (l ()).length = 3 * n () ∧ n () ≤ 1048576])
    | _ => none
  | _, _ => none
def E22 : Env := fun g => envGetL [(32, ⟨true, s32, none⟩), (33, ⟨true, s33, none⟩), (34, ⟨true, s34, none⟩)] g
theorem E22ok : EnvOk Tryd.prog E22 := envOk_cons ok32 (envOk_cons ok33 (envOk_cons ok34 (envOk_nil _)))
set_option maxRecDepth 100000 in
set_option maxHeartbeats 1000000 in
theorem ok22 : Ok Tryd.prog 22 (s22) := ok_of_wpaH (E := E22) mixed tts E22ok fn22 fun args H v H' o hs ho => by
  split at hs
  · rename_i st sp fd o n x
    split at hs
    · rename_i l hl
      cases hs
      obtain ⟨ho0, hlen, hbig⟩ := ho.one
      try simp only [Unit.unit] at ho0 hlen hbig
      refine ⟨_, HLe.cons (BLe.fl hl) HLe.nil, ?_⟩
      cbv
      repeat' first
        | (refine Br.mk (fun h => ?_) (fun h => ?_) <;> cbv)
        | (refine Ob.mk ?_ ?_; rotate_left; cbv)
      all_goals try (simp only [Unit.unit, Int.ofNat_lt, Int.ofNat_le, BE.val, IE.val, NE.val, ltB_iff, ltB_no, leB_iff, leB_no, Int.toNat_natCast, Nat.zero_add, Nat.add_zero, Nat.mul_one, forced, beq_iff_eq, beq_eq_false_iff_ne] at *; done)
      all_goals try (simp only [Unit.unit, Int.ofNat_lt, Int.ofNat_le, BE.val, IE.val, NE.val, ltB_iff, ltB_no, leB_iff, leB_no, Int.toNat_natCast, Nat.zero_add, Nat.add_zero, Nat.mul_one, forced, beq_iff_eq, beq_eq_false_iff_ne] at *; grind [webOk, isStiff, isFeed, isIn])
      all_goals
        refine loop_rule (α := Unit → Nat) (c := ⟨tt, E22, 1⟩)
            (fun i => fr 57 [(34, .c (.sl 0 (.x o) (.x n))), (35, .c (.i .i64 (.x fun _ => n ()))), (36, .c (.i .i64 (.x fun _ => i ())))]) (fun i => [some ⟨false, 0, .fl l⟩])
            (fun i => i () ≤ n () ∧ allI (spanOk (l ())) (i ()) = true) (fun i => n () - i ()) (fun _ => n () + 1) ?_ ?_
        · refine .mk (fun _ => 0) ⟨Nat.zero_le _, rfl⟩ (by dsimp only; omega) ?_
          cbv
          repeat' (refine Ob.mk ?_ ?_; rotate_left)
          all_goals (try simp only [Unit.unit, Int.ofNat_lt, Int.ofNat_le, BE.val, IE.val, NE.val, ltB_iff, ltB_no, leB_iff, leB_no, Int.toNat_natCast, Nat.zero_add, Nat.add_zero, Nat.mul_one, forced, beq_iff_eq, beq_eq_false_iff_ne] at *)
          all_goals first | with_reducible rfl | trivial
        · intro i hi
          cbv
          repeat' first
            | (refine alt_t (by assumption) ?_; cbv)
            | (refine alt_f (by assumption) ?_; cbv)
            | (refine alt_b (fun h => ?_) (fun h => ?_) <;> cbv)
            | (refine Br.mk (fun h => ?_) (fun h => ?_) <;> cbv)
            | (refine Ob.mk ?_ ?_; rotate_left; cbv)
            | (refine Lex.mk (by kernel_rfl) ?_; cbv)
            | (refine Next.mk (fun _ => i () + 1) ?_ ?_ ?_)
          all_goals (try simp only [Unit.unit, Int.ofNat_lt, Int.ofNat_le, BE.val, IE.val, NE.val, ltB_iff, ltB_no, leB_iff, leB_no, Int.toNat_natCast, Nat.zero_add, Nat.add_zero, Nat.mul_one, forced, beq_iff_eq, beq_eq_false_iff_ne] at *)
          all_goals (try simp only [ho0, Nat.zero_add] at *)
          all_goals first | with_reducible rfl | omega | exact wrap64_nat (by omega) | (refine ⟨Int.natCast_nonneg _, ?_⟩; omega) | (rw [webOk_no (i := i ⟨⟩) (by omega) (by simp_all [spanOk])]; done) | (refine ⟨by omega, ?_⟩; simp_all [allI, spanOk]; done) | ((try rw [show i ⟨⟩ = n ⟨⟩ by omega] at hi); (try simp only [Unit.unit, Int.ofNat_lt, Int.ofNat_le, BE.val, IE.val, NE.val, ltB_iff, ltB_no, leB_iff, leB_no, Int.toNat_natCast, Nat.zero_add, Nat.add_zero, Nat.mul_one, forced, beq_iff_eq, beq_eq_false_iff_ne] at *); grind [webOk, isStiff, isFeed, isIn, inI, leB])
    · cases hs
  · cases hs
theorem fn20 : FnOk Tryd.prog 20 Tryd.f20 (bodyOf Tryd.f20) := ⟨Tryd.func20, rfl, by rfl⟩
def s20 : Spec := hspec fun args H => match args, H with
  | [.c (.p 0 (.l 0))], [some ⟨false, 0, .lit [.f .f32 st, .f .f32 sp, .f .f32 fd, .sl 1 (.x o) (.x n)]⟩, some ⟨false, 0, x⟩] => match x.toFl with
    | some l => some (vB (webOk (st ()) (sp ()) (fd ()) (l ()) (n ())), [none, none], [fun _ => o () = 0 ∧ (l ()).length = 3 * n () ∧ n () ≤ 1048576])
    | _ => none
  | _, _ => none
def E20 : Env := fun g => envGetL [(29, ⟨true, s29, none⟩), (30, ⟨true, s30, none⟩), (31, ⟨true, s31, none⟩)] g
theorem E20ok : EnvOk Tryd.prog E20 := envOk_cons ok29 (envOk_cons ok30 (envOk_cons ok31 (envOk_nil _)))
set_option maxRecDepth 100000 in
set_option maxHeartbeats 1000000 in
theorem ok20 : Ok Tryd.prog 20 (s20) := ok_of_wpaH (E := E20) mixed tts E20ok fn20 fun args H v H' o hs ho => by
  split at hs
  · rename_i st sp fd o n x
    split at hs
    · rename_i l hl
      cases hs
      obtain ⟨ho0, hlen, hbig⟩ := ho.one
      try simp only [Unit.unit] at ho0 hlen hbig
      refine ⟨_, HLe.cons (BLe.refl _) (HLe.cons (BLe.fl hl) HLe.nil), ?_⟩
      cbv
      repeat' first
        | (refine Br.mk (fun h => ?_) (fun h => ?_) <;> cbv)
        | (refine Ob.mk ?_ ?_; rotate_left; cbv)
      all_goals try (simp only [Unit.unit, Int.ofNat_lt, Int.ofNat_le, BE.val, IE.val, NE.val, ltB_iff, ltB_no, leB_iff, leB_no, Int.toNat_natCast, Nat.zero_add, Nat.add_zero, Nat.mul_one, forced, beq_iff_eq, beq_eq_false_iff_ne] at *; done)
      all_goals try (simp only [Unit.unit, Int.ofNat_lt, Int.ofNat_le, BE.val, IE.val, NE.val, ltB_iff, ltB_no, leB_iff, leB_no, Int.toNat_natCast, Nat.zero_add, Nat.add_zero, Nat.mul_one, forced, beq_iff_eq, beq_eq_false_iff_ne] at *; grind [webOk, isStiff, isFeed, isIn])
      all_goals
        refine loop_rule (α := Unit → Nat) (c := ⟨tt, E20, 2⟩)
            (fun i => fr 89 [(0, .c (.p 0 (.l 0))), (3, .c (.i .i64 (.x fun _ => i ())))]) (fun i => [some ⟨false, 0, .lit [.f .f32 st, .f .f32 sp, .f .f32 fd, .sl 1 (.x o) (.x n)]⟩, some ⟨false, 0, .fl l⟩])
            (fun i => i () ≤ n () ∧ allI (spanOk (l ())) (i ()) = true) (fun i => n () - i ()) (fun _ => n () + 1) ?_ ?_
        · refine .mk (fun _ => 0) ⟨Nat.zero_le _, rfl⟩ (by dsimp only; omega) ?_
          cbv
          repeat' (refine Ob.mk ?_ ?_; rotate_left)
          all_goals (try simp only [Unit.unit, Int.ofNat_lt, Int.ofNat_le, BE.val, IE.val, NE.val, ltB_iff, ltB_no, leB_iff, leB_no, Int.toNat_natCast, Nat.zero_add, Nat.add_zero, Nat.mul_one, forced, beq_iff_eq, beq_eq_false_iff_ne] at *)
          all_goals first | with_reducible rfl | trivial
        · intro i hi
          cbv
          repeat' first
            | (refine alt_t (by assumption) ?_; cbv)
            | (refine alt_f (by assumption) ?_; cbv)
            | (refine alt_b (fun h => ?_) (fun h => ?_) <;> cbv)
            | (refine Br.mk (fun h => ?_) (fun h => ?_) <;> cbv)
            | (refine Ob.mk ?_ ?_; rotate_left; cbv)
            | (refine Lex.mk (by kernel_rfl) ?_; cbv)
            | (refine Next.mk (fun _ => i () + 1) ?_ ?_ ?_)
          all_goals (try simp only [Unit.unit, Int.ofNat_lt, Int.ofNat_le, BE.val, IE.val, NE.val, ltB_iff, ltB_no, leB_iff, leB_no, Int.toNat_natCast, Nat.zero_add, Nat.add_zero, Nat.mul_one, forced, beq_iff_eq, beq_eq_false_iff_ne] at *)
          all_goals (try simp only [ho0, Nat.zero_add] at *)
          all_goals first | with_reducible rfl | omega | exact wrap64_nat (by omega) | (refine ⟨Int.natCast_nonneg _, ?_⟩; omega) | (rw [webOk_no (i := i ⟨⟩) (by omega) (by simp_all [spanOk])]; done) | (refine ⟨by omega, ?_⟩; simp_all [allI, spanOk]; done) | ((try rw [show i ⟨⟩ = n ⟨⟩ by omega] at hi); (try simp only [Unit.unit, Int.ofNat_lt, Int.ofNat_le, BE.val, IE.val, NE.val, ltB_iff, ltB_no, leB_iff, leB_no, Int.toNat_natCast, Nat.zero_add, Nat.add_zero, Nat.mul_one, forced, beq_iff_eq, beq_eq_false_iff_ne] at *); grind [webOk, isStiff, isFeed, isIn, inI, leB])
    · cases hs
  · cases hs
end Go.Proofs.YteifneielgnniaaDoor.Sh
end
section
namespace Go.Proofs.YteifneielgnniaaDoor.Sh
open Go Go.Proofs
/-! ## webs that are read: plain -/
def nl (t : ByteArray) : Nat := (wds 10 t).length - 1
def ln (t : ByteArray) (i : Nat) : ByteArray := ((wds 10 t).map tx).getD i ByteArray.empty
def tl (t : ByteArray) : Bool := (ln t (nl t)).data.toList == []
def gd (t : ByteArray) (i : Nat) : Bool := nrOk 3 (ln t i)
/-- the numbers of the lines from the second on -/
def spF (t : ByteArray) : Nat → List Nat
  | 0 => []
  | k + 1 => spF t k ++ [n3 (ln t (k + 1)) 0, n3 (ln t (k + 1)) 1, n3 (ln t (k + 1)) 2]
def spL (t : ByteArray) : List Nat := spF t (nl t - 1)
def gdTo (t : ByteArray) (k : Nat) : Bool := allI (gd t) k
def okA (t : ByteArray) : Bool := tl t && decide (2 ≤ nl t ∧ nl t ≤ 9)
def wOk (t : ByteArray) : Bool := webOk (n3 (ln t 0) 0) (n3 (ln t 0) 1) (n3 (ln t 0) 2) (spL t) (nl t - 1)
def rwOk (t : ByteArray) : Bool := okA t && gdTo t (nl t) && wOk t
theorem spF_len (t : ByteArray) : ∀ k, (spF t k).length = 3 * k
  | 0 => rfl
  | k + 1 => by unfold spF; rw [List.length_append, spF_len t k]; simp; omega
theorem wds_pos (c : UInt8) (t : ByteArray) : 1 ≤ (wds c t).length := splA_pos c (bl t) []
theorem ln_size (t : ByteArray) (i : Nat) (h : t.size ≤ 1048576) : (ln t i).size ≤ 1048576 := by
  have hl : (ln t i).size = ((wds 10 t).getD i []).length := by
    unfold ln
    rw [← bl_len, getD_map tx _ i [] _ tx_e]; rfl
  have h1 := splA_tot 10 (bl t) []
  have key : ∀ (ws : List (List UInt8)) (i : Nat), i < ws.length → (ws.getD i []).length + 1 ≤ sumL ws := by
    intro ws
    induction ws with
    | nil => intro i hi; simp at hi
    | cons w ws ih =>
      intro i hi
      cases i with
      | zero => simp [sumL]
      | succ i => have := ih i (by simpa using hi); simp only [List.getD_cons_succ, sumL]; omega
  have h3 : sumL (wds 10 t) = t.size + 1 := by
    show sumL (splA 10 [] (bl t)) = _
    rw [h1, bl_len]; simp
  rcases Nat.lt_or_ge i (wds 10 t).length with hi | hi
  · have := key _ i hi; omega
  · rw [hl, List.getD, List.getElem?_eq_none hi]; simp
theorem gd_size {t : ByteArray} {i : Nat} (h : gd t i = true) : (ln t i).size = 26 := by
  have := (nr_len h).1; omega
/-- good lines fill the text -/
theorem gd_fill (t : ByteArray) : ∀ k, k < (wds 10 t).length → gdTo t k = true → 27 * k ≤ t.size := by
  intro k hk hg
  have h1 := splA_tot 10 (bl t) []
  have h3 : sumL (wds 10 t) = t.size + 1 := by
    show sumL (splA 10 [] (bl t)) = _
    rw [h1, bl_len]; simp
  have key : ∀ (ws : List (List UInt8)) (k : Nat), k < ws.length → (∀ i, i < k → (ws.getD i []).length = 26) → 27 * k + 1 ≤ sumL ws := by
    intro ws
    induction ws with
    | nil => intro k hk; simp at hk
    | cons w ws ih =>
      intro k hk h
      cases k with
      | zero => simp [sumL]; omega
      | succ k =>
        have h0 := h 0 (by omega)
        have := ih k (by simpa using hk) fun i hi => by simpa using h (i + 1) (by omega)
        simp only [List.getD_cons_zero] at h0
        simp only [sumL]; omega
  have := key (wds 10 t) k hk fun i hi => by
    have hl : (ln t i).size = ((wds 10 t).getD i []).length := by
      unfold ln
      rw [← bl_len, getD_map tx _ i [] _ tx_e]; rfl
    rw [← hl]; exact gd_size (allI_at hg hi)
  omega
/-- and the text is at its end behind them, if it is no longer -/
theorem gd_end {t : ByteArray} {k : Nat} (hk : k < (wds 10 t).length) (hg : gdTo t k = true) (hs : t.size ≤ 27 * k) : nl t = k := by
  rcases Nat.lt_or_ge k (nl t) with h | h
  · exfalso
    have h1 := splA_tot 10 (bl t) []
    have h3 : sumL (wds 10 t) = t.size + 1 := by
      show sumL (splA 10 [] (bl t)) = _
      rw [h1, bl_len]; simp
    have key : ∀ (ws : List (List UInt8)) (k : Nat), k + 1 < ws.length → (∀ i, i < k → (ws.getD i []).length = 26) → 27 * k + 2 ≤ sumL ws := by
      intro ws
      induction ws with
      | nil => intro k hk; simp at hk
      | cons w ws ih =>
        intro k hk h
        cases k with
        | zero =>
          cases ws with
          | nil => simp at hk
          | cons v ws => simp [sumL]; omega
        | succ k =>
          have h0 := h 0 (by omega)
          have := ih k (by simpa using hk) fun i hi => by simpa using h (i + 1) (by omega)
          simp only [List.getD_cons_zero] at h0
          simp only [sumL]; omega
    have := key (wds 10 t) k (by unfold nl at h; omega) fun i hi => by
      have hl : (ln t i).size = ((wds 10 t).getD i []).length := by
        unfold ln
        rw [← bl_len, getD_map tx _ i [] _ tx_e]; rfl
      rw [← hl]; exact gd_size (allI_at hg hi)
    omega
  · unfold nl at *; omega
/-- the first bad line -/
theorem first_bad (t : ByteArray) : ∀ k, gdTo t k = false → ∃ j, j < k ∧ gdTo t j = true ∧ gd t j = false
  | 0, h => by cases h
  | k + 1, h => by
    cases e : gdTo t k with
    | false => obtain ⟨j, h1, h2, h3⟩ := first_bad t k e; exact ⟨j, by omega, h2, h3⟩
    | true =>
      refine ⟨k, by omega, e, ?_⟩
      have : gdTo t (k + 1) = (gdTo t k && gd t k) := rfl
      rw [this, e] at h; simpa using h
end Go.Proofs.YteifneielgnniaaDoor.Sh
end
section
namespace Go.Proofs.YteifneielgnniaaDoor.Sh
open Go Go.Proofs
/-! ## spec.ReadWeb -/
def sRF (p : ByteArray → Prop) : Spec := hspec fun args H => match args, H with
  | [.c (.s t)], [] => some (.t [.a [.f .f32 fun _ => 0, .f .f32 fun _ => 0, .f .f32 fun _ => 0, .sn], .c (.i .i64 (.l 5))], [], [fun _ => p (t ()), fun _ => (t ()).size ≤ 1048576])
  | _, _ => none
def sRT (p : ByteArray → Prop) : Spec := hspec fun args H => match args, H with
  | [.c (.s t)], [] => some (.t [.a [.f .f32 fun _ => n3 (ln (t ()) 0) 0, .f .f32 fun _ => n3 (ln (t ()) 0) 1, .f .f32 fun _ => n3 (ln (t ()) 0) 2, .sl 0 (.l 0) (.x fun _ => nl (t ()) - 1)], .c (.i .i64 (.l 0))], [some ⟨true, 3, .fl fun _ => spL (t ())⟩], [fun _ => p (t ()), fun _ => (t ()).size ≤ 1048576])
  | _, _ => none
theorem okRF_of {P : Program} {g : Nat} {p : ByteArray → Prop} (h : ∀ t, p t → t.size ≤ 1048576 → ∃ q, q t ∧ Ok P g (sRF q)) : Ok P g (sRF p) := by
  intro args H v H' o hs ho μ W w vs hW hH hr
  unfold sRF hspec at hs
  split at hs
  · rename_i t h1 h2
    cases hs
    obtain ⟨q, hq, k⟩ := h _ ho.two.1 ho.two.2
    refine k args H _ _ [fun _ => q (t ()), fun _ => (t ()).size ≤ 1048576] ?_ ?_ μ W w vs hW hH hr
    · unfold sRF hspec; rw [h1, h2]
    · intro r hr'
      simp only [List.mem_cons, List.not_mem_nil, or_false] at hr'
      rcases hr' with rfl | rfl
      · exact hq
      · exact ho.two.2
  · cases hs
theorem okRT_of {P : Program} {g : Nat} {p : ByteArray → Prop} (h : ∀ t, p t → t.size ≤ 1048576 → ∃ q, q t ∧ Ok P g (sRT q)) : Ok P g (sRT p) := by
  intro args H v H' o hs ho μ W w vs hW hH hr
  unfold sRT hspec at hs
  split at hs
  · rename_i t h1 h2
    cases hs
    obtain ⟨q, hq, k⟩ := h _ ho.two.1 ho.two.2
    refine k args H _ _ [fun _ => q (t ()), fun _ => (t ()).size ≤ 1048576] ?_ ?_ μ W w vs hW hH hr
    · unfold sRT hspec; rw [h1, h2]
    · intro r hr'
      simp only [List.mem_cons, List.not_mem_nil, or_false] at hr'
      rcases hr' with rfl | rfl
      · exact hq
      · exact ho.two.2
  · cases hs
theorem tl_form (t : ByteArray) : ((ln t (nl t)).toList == ({ data := #[] } : ByteArray).toList) = tl t := by
  unfold tl
  rw [Lib.toList_data, Lib.toList_data]
theorem okA_t {t : ByteArray} (h : okA t = true) : tl t = true ∧ 2 ≤ nl t ∧ nl t ≤ 9 := by
  unfold okA at h
  simpa only [Bool.and_eq_true, decide_eq_true_eq] using h
theorem okA_f {t : ByteArray} (h : okA t = false) (ht : tl t = true) : nl t < 2 ∨ 9 < nl t := by
  unfold okA at h
  rw [ht, Bool.true_and, decide_eq_false_iff_not] at h
  omega
theorem v3_ok {t : ByteArray} (h : nrOk 3 t = true) : v3a t = n3 t 0 ∧ v3b t = n3 t 1 ∧ v3c t = n3 t 2 := by
  have h2 := h
  rw [nrOk3, Bool.and_eq_true] at h2
  have h3 := h2.1
  unfold ok3b at h3
  rw [Bool.and_eq_true] at h3
  refine ⟨?_, ?_, ?_⟩
  · unfold v3a; rw [if_pos h3.1]
  · unfold v3b; rw [if_pos h2.1]
  · unfold v3c; rw [if_pos h]
theorem fn8 : FnOk Tryd.prog 8 Tryd.f8 (bodyOf Tryd.f8) := ⟨Tryd.func8, rfl, by rfl⟩
attribute [local irreducible] wds tx rn rnC rnOk nrOk v3a v3b v3c wAt n3 webOk spL tl nl
def E8 : Env := fun g => envGetL [(13, ⟨true, s13 10, none⟩), (19, ⟨true, s19, none⟩), (20, ⟨true, s20, none⟩)] g
theorem E8ok : EnvOk Tryd.prog E8 := envOk_cons (ok13 10) (envOk_cons ok19 (envOk_cons ok20 (envOk_nil _)))
set_option maxRecDepth 100000 in
set_option maxHeartbeats 4000000 in
theorem ok8A : Ok Tryd.prog 8 (sRF fun t => okA t = false) := ok_of_wpaH (E := E8) mixed tts E8ok fn8 fun args H v H' o hs ho => by
  split at hs
  · rename_i t
    cases hs
    have hsz : (t ⟨⟩).size ≤ 1048576 := ho.two.2
    have hsp : (10 : Int) = (((10 : UInt8).toNat : Nat) : Int) ∧ (t ⟨⟩).size ≤ 1048576 := ⟨rfl, hsz⟩
    have hpos := wds_pos 10 (t ⟨⟩)
    have hle := wds_le 10 (t ⟨⟩)
    have hwr : (IntKind.wrap .i64 (((((wds 10 (t ⟨⟩)).length : Nat)) : Int) - 1)) = ((nl (t ⟨⟩) : Nat) : Int) := by rw [wrap64 (by omega) (by omega)]; unfold nl; omega
    have hp : 0 + (IntKind.wrap .i64 (((((wds 10 (t ⟨⟩)).length : Nat)) : Int) - 1)).toNat * 1 = nl (t ⟨⟩) := by rw [hwr, Int.toNat_natCast]; omega
    have htl : (!((((wds 10 (t ⟨⟩)).map tx).getD (0 + (IntKind.wrap .i64 (((((wds 10 (t ⟨⟩)).length : Nat)) : Int) - 1)).toNat * 1) ByteArray.empty).toList == ({ data := #[] } : ByteArray).toList)) = !(tl (t ⟨⟩)) := by rw [hp]; exact congrArg _ (tl_form _)
    have hx0 : 0 ≤ (IntKind.wrap .i64 (((((wds 10 (t ⟨⟩)).length : Nat)) : Int) - 1)) ∧ (IntKind.wrap .i64 (((((wds 10 (t ⟨⟩)).length : Nat)) : Int) - 1)) < ((((wds 10 (t ⟨⟩)).length : Nat)) : Int) := by rw [hwr]; unfold nl; omega
    have hx1 : 0 + (IntKind.wrap .i64 (((((wds 10 (t ⟨⟩)).length : Nat)) : Int) - 1)).toNat * 1 < ((wds 10 (t ⟨⟩)).map tx).length := by rw [hp, List.length_map]; unfold nl; omega
    have hA : okA (t ⟨⟩) = false := ho.two.1
    rcases bool_ft (tl (t ⟨⟩)) with h | h
    · have t1 : (!((((wds 10 (t ⟨⟩)).map tx).getD (0 + (IntKind.wrap .i64 (((((wds 10 (t ⟨⟩)).length : Nat)) : Int) - 1)).toNat * 1) ByteArray.empty).toList == ({ data := #[] } : ByteArray).toList)) = true := by rw [htl, h]; rfl
      refine ⟨_, HLe.refl _, ?_⟩
      cbv
      repeat' first | (refine Ob.mk ?_ ?_; (focus (first | exact hsp | exact hx0 | exact hx1 | exact rfl)); cbv) | (refine Br.t t1 ?_; cbv)
    have t1 : (!((((wds 10 (t ⟨⟩)).map tx).getD (0 + (IntKind.wrap .i64 (((((wds 10 (t ⟨⟩)).length : Nat)) : Int) - 1)).toNat * 1) ByteArray.empty).toList == ({ data := #[] } : ByteArray).toList)) = false := by rw [htl, h]; rfl
    rcases okA_f hA h with h2 | h9
    · have t2 : ltB (IntKind.wrap .i64 (((((wds 10 (t ⟨⟩)).length : Nat)) : Int) - 1)) 2 = true := by rw [hwr, ltB_iff]; omega
      refine ⟨_, HLe.refl _, ?_⟩
      cbv
      repeat' first | (refine Ob.mk ?_ ?_; (focus (first | exact hsp | exact hx0 | exact hx1 | exact rfl)); cbv) | (refine Br.f t1 ?_; cbv) | (refine Br.t t2 ?_; cbv)
    have t2 : ltB (IntKind.wrap .i64 (((((wds 10 (t ⟨⟩)).length : Nat)) : Int) - 1)) 2 = false := by rw [hwr, ltB_no]; omega
    have t3 : ltB 9 (IntKind.wrap .i64 (((((wds 10 (t ⟨⟩)).length : Nat)) : Int) - 1)) = true := by rw [hwr, ltB_iff]; omega
    refine ⟨_, HLe.refl _, ?_⟩
    cbv
    repeat' first | (refine Ob.mk ?_ ?_; (focus (first | exact hsp | exact hx0 | exact hx1 | exact rfl)); cbv) | (refine Br.f t1 ?_; cbv) | (refine Br.f t2 ?_; cbv) | (refine Br.t t3 ?_; cbv)
  · cases hs
end Go.Proofs.YteifneielgnniaaDoor.Sh
end
