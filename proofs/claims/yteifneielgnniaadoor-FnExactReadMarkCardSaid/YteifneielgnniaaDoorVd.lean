/- Marks that are read; the law. No condition. -/
import Derived.Test.YteifneielgnniaaDoorVc
set_option linter.unusedVariables false
set_option linter.unusedSimpArgs false
set_option linter.unusedSectionVars false
section
namespace Go.Proofs.YteifneielgnniaaDoor.Sh
open Go Go.Proofs
/-! ## the marks that are read -/
theorem fn15 : FnOk Tryd.prog 15 Tryd.f15 (bodyOf Tryd.f15) := ⟨Tryd.func15, rfl, by rfl⟩
theorem fn17 : FnOk Tryd.prog 17 Tryd.f17 (bodyOf Tryd.f17) := ⟨Tryd.func17, rfl, by rfl⟩
theorem fn5 : FnOk Tryd.prog 5 Tryd.f5 (bodyOf Tryd.f5) := ⟨Tryd.func5, rfl, by rfl⟩
theorem fn6 : FnOk Tryd.prog 6 Tryd.f6 (bodyOf Tryd.f6) := ⟨Tryd.func6, rfl, by rfl⟩
def sMk : Spec := hspec fun args H => match args, H with
  | [.c (.f .f32 a), .c (.f .f32 b)], [] => some (.c (.z .f32 (fun _ => a ()) (fun _ => b ())), [], [])
  | _, _ => none
set_option maxRecDepth 100000 in
theorem ok15 : Ok Tryd.prog 15 sMk := ok_of_wpaH (E := envGetL []) mixed tts (envOk_nil _) fn15 fun args H v H' o hs ho => by
  split at hs
  · rename_i a b
    cases hs
    refine ⟨_, HLe.refl _, ?_⟩
    cbv
    repeat' (refine Ob.mk rfl ?_; cbv)
  · cases hs
set_option maxRecDepth 100000 in
theorem ok17 : Ok Tryd.prog 17 sMk := ok_of_wpaH (E := envGetL []) mixed tts (envOk_nil _) fn17 fun args H v H' o hs ho => by
  split at hs
  · rename_i a b
    cases hs
    refine ⟨_, HLe.refl _, ?_⟩
    cbv
    repeat' (refine Ob.mk rfl ?_; cbv)
  · cases hs
def mkX (t : ByteArray) : Nat := if nrOk 2 t = true then rn (wAt t 0) else 0
def mkY (t : ByteArray) : Nat := if nrOk 2 t = true then rn (wAt t 1) else 0
def mkC (t : ByteArray) : Int := if nrOk 2 t = true then 0 else 5
theorem mk_t {t : ByteArray} (h : nrOk 2 t = true) : rn (wAt t 0) = mkX t ∧ rn (wAt t 1) = mkY t ∧ 0 = mkC t := by
  unfold mkX mkY mkC; rw [h]; exact ⟨rfl, rfl, rfl⟩
theorem mk_f {t : ByteArray} (h : nrOk 2 t = false) : 0 = mkX t ∧ 0 = mkY t ∧ 5 = mkC t := by
  unfold mkX mkY mkC; rw [h]; exact ⟨rfl, rfl, rfl⟩
theorem list2 {α : Type} {l : List α} {d : α} (h : l.length = 2) : l = [l.getD 0 d, l.getD 1 d] := by
  match l, h with
  | [a, b], _ => rfl
/-- two words that are numbers -/
theorem two_ok {t : ByteArray} : nrOk 2 t = true ↔ (wds 32 t).length = 2 ∧ rnOk (wAt t 0) = true ∧ rnOk (wAt t 1) = true := by
  constructor
  · intro h
    have hl := nr_num h
    have ha := (nr_len h).2
    exact ⟨hl, all_at (by omega) ha, all_at (by omega) ha⟩
  · rintro ⟨hl, h0, h1⟩
    have hw : wds 32 t = [wAt t 0, wAt t 1] := list2 hl
    have ha : (wds 32 t).all rnOk = true := by rw [hw]; simp [h0, h1]
    have h8 : ∀ w ∈ wds 32 t, w.length = 8 := fun w hw => (rnOk_p16 (t := tx w) (List.all_eq_true.1 ha w hw)).2.2.2
    have hs := sumL_all h8
    have ht : sumL (wds 32 t) = t.size + 1 := by
      show sumL (splA 32 [] (bl t)) = _
      rw [splA_tot, bl_len]; simp
    unfold nrOk
    rw [ha, Bool.and_true]
    exact decide_eq_true (by rw [ht, hl] at hs; omega)
attribute [local irreducible] wds tx rn rnC rnOk nrOk numsTo numsOf goodTo mkX mkY mkC wAt
def s5 : Spec := hspec fun args H => match args, H with
  | [.c (.s t)], [] => some (.t [.c (.z .f32 (fun _ => mkX (t ())) (fun _ => mkY (t ()))), .c (.i .i64 (.x fun _ => mkC (t ())))], [], [fun _ => (t ()).size ≤ 1048576])
  | _, _ => none
def E5 : Env := fun g => envGetL [(13, ⟨true, s13 32, none⟩), (14, ⟨true, s14, none⟩), (15, ⟨true, sMk, none⟩)] g
theorem E5ok : EnvOk Tryd.prog E5 := envOk_cons (ok13 32) (envOk_cons ok14 (envOk_cons ok15 (envOk_nil _)))
set_option maxRecDepth 100000 in
set_option maxHeartbeats 4000000 in
theorem ok5 : Ok Tryd.prog 5 s5 := ok_of_wpaH (E := E5) mixed tts E5ok fn5 fun args H v H' o hs ho => by
  split at hs
  · rename_i t
    cases hs
    have hsz : (t ⟨⟩).size ≤ 1048576 := ho.one
    have hsp : (32 : Int) = (((32 : UInt8).toNat : Nat) : Int) ∧ (t ⟨⟩).size ≤ 1048576 := ⟨rfl, hsz⟩
    have hc : rnC (bl (((wds 32 (t ⟨⟩)).map tx).getD 0 ByteArray.empty)) = rnC (wAt (t ⟨⟩) 0) := by rw [bl_at]
    have hd : rnC (bl (((wds 32 (t ⟨⟩)).map tx).getD 1 ByteArray.empty)) = rnC (wAt (t ⟨⟩) 1) := by rw [bl_at]
    rcases Nat.decEq (wds 32 (t ⟨⟩)).length 2 with hl | hl
    · have hno : nrOk 2 (t ⟨⟩) = false := by
        rcases bool_ft (nrOk 2 (t ⟨⟩)) with h | h
        · exact h
        · exact absurd (two_ok.1 h).1 hl
      have k1 := (mk_f hno).1
      have k2 := (mk_f hno).2.1
      have k3 := (mk_f hno).2.2
      have hb : ((((wds 32 (t ⟨⟩)).length : Nat) : Int) != 2) = true := bne_iff_ne.2 (by omega)
      refine ⟨_, HLe.refl _, ?_⟩
      cbv
      refine Ob.mk hsp ?_
      cbv
      refine Br.t hb ?_
      cbv
      repeat' (refine Ob.mk ?_ ?_; (focus (first | exact k1 | exact k2 | exact k3)); cbv)
    have hb : ((((wds 32 (t ⟨⟩)).length : Nat) : Int) != 2) = false := bne_eq_false_iff_eq.2 (by omega)
    have hi0 : (0 : Int) ≤ 0 ∧ (0 : Int) < (((wds 32 (t ⟨⟩)).length : Nat) : Int) := ⟨by omega, by omega⟩
    have hi1 : (0 : Int) ≤ 1 ∧ (1 : Int) < (((wds 32 (t ⟨⟩)).length : Nat) : Int) := ⟨by omega, by omega⟩
    have hj0 : 0 < ((wds 32 (t ⟨⟩)).map tx).length := by rw [List.length_map]; omega
    have hj1 : 1 < ((wds 32 (t ⟨⟩)).map tx).length := by rw [List.length_map]; omega
    rcases bool_ft (rnOk (wAt (t ⟨⟩) 0)) with h0 | h0
    · have hno : nrOk 2 (t ⟨⟩) = false := by
        rcases bool_ft (nrOk 2 (t ⟨⟩)) with h | h
        · exact h
        · have := (two_ok.1 h).2.1; rw [h0] at this; cases this
      have k1 := (mk_f hno).1
      have k2 := (mk_f hno).2.1
      have k3 := (mk_f hno).2.2
      have hb0 : (rnC (bl (((wds 32 (t ⟨⟩)).map tx).getD 0 ByteArray.empty)) != 0) = true := by rw [hc]; exact rnC_f h0
      refine ⟨_, HLe.refl _, ?_⟩
      cbv
      refine Ob.mk hsp ?_
      cbv
      refine Br.f hb ?_
      cbv
      repeat' first | (refine Ob.mk ?_ ?_; (focus (first | exact hi0 | exact hi1 | exact hj0 | exact hj1 | exact k1 | exact k2 | exact k3)); cbv) | (refine Br.t hb0 ?_; cbv)
    rcases bool_ft (rnOk (wAt (t ⟨⟩) 1)) with h1 | h1
    · have hno : nrOk 2 (t ⟨⟩) = false := by
        rcases bool_ft (nrOk 2 (t ⟨⟩)) with h | h
        · exact h
        · have := (two_ok.1 h).2.2; rw [h1] at this; cases this
      have k1 := (mk_f hno).1
      have k2 := (mk_f hno).2.1
      have k3 := (mk_f hno).2.2
      have hb0 : (rnC (bl (((wds 32 (t ⟨⟩)).map tx).getD 0 ByteArray.empty)) != 0) = false := by rw [hc]; exact rnC_t h0
      have hb1 : (rnC (bl (((wds 32 (t ⟨⟩)).map tx).getD 1 ByteArray.empty)) != 0) = true := by rw [hd]; exact rnC_f h1
      refine ⟨_, HLe.refl _, ?_⟩
      cbv
      refine Ob.mk hsp ?_
      cbv
      refine Br.f hb ?_
      cbv
      repeat' first | (refine Ob.mk ?_ ?_; (focus (first | exact hi0 | exact hi1 | exact hj0 | exact hj1 | exact k1 | exact k2 | exact k3)); cbv) | (refine Br.f hb0 ?_; cbv) | (refine Br.t hb1 ?_; cbv)
    have hok : nrOk 2 (t ⟨⟩) = true := two_ok.2 ⟨hl, h0, h1⟩
    have k1 : rn (bl (((wds 32 (t ⟨⟩)).map tx).getD 0 ByteArray.empty)) = mkX (t ⟨⟩) := by rw [bl_at]; exact (mk_t hok).1
    have k2 : rn (bl (((wds 32 (t ⟨⟩)).map tx).getD 1 ByteArray.empty)) = mkY (t ⟨⟩) := by rw [bl_at]; exact (mk_t hok).2.1
    have k3 := (mk_t hok).2.2
    have hb0 : (rnC (bl (((wds 32 (t ⟨⟩)).map tx).getD 0 ByteArray.empty)) != 0) = false := by rw [hc]; exact rnC_t h0
    have hb1 : (rnC (bl (((wds 32 (t ⟨⟩)).map tx).getD 1 ByteArray.empty)) != 0) = false := by rw [hd]; exact rnC_t h1
    refine ⟨_, HLe.refl _, ?_⟩
    cbv
    refine Ob.mk hsp ?_
    cbv
    refine Br.f hb ?_
    cbv
    repeat' first | (refine Ob.mk ?_ ?_; (focus (first | exact hi0 | exact hi1 | exact hj0 | exact hj1 | exact k1 | exact k2 | exact k3)); cbv) | (refine Br.f hb0 ?_; cbv) | (refine Br.f hb1 ?_; cbv)
  · cases hs
theorem nums_at {t : ByteArray} {i : Nat} (h : i < (wds 32 t).length) : (numsOf t).getD i 0 = rn (wAt t i) := by
  unfold numsOf wAt
  simp [List.getD, List.getElem?_map, List.getElem?_eq_getElem h]
theorem nums_l (t : ByteArray) : (numsOf t).length = (wds 32 t).length := by unfold numsOf; rw [List.length_map]
def E6 : Env := fun g => envGetL [(16, ⟨true, sNo, some (s16T 2, s16F 2)⟩), (17, ⟨true, sMk, none⟩)] g
set_option maxRecDepth 100000 in
set_option maxHeartbeats 4000000 in
theorem ok6 : Ok Tryd.prog 6 s5 := ok_of_wpaH (E := E6) mixed tts (envOk_alt (ok16T 2) (ok16F 2) (envOk_cons ok17 (envOk_nil _))) fn6 fun args H v H' o hs ho => by
  split at hs
  · rename_i t
    cases hs
    have hsz : (t ⟨⟩).size ≤ 1048576 := ho.one
    have hsp : (2 : Int) = ((2 : Nat) : Int) ∧ (t ⟨⟩).size ≤ 1048576 ∧ 2 ≤ 3 := ⟨rfl, hsz, by decide⟩
    rcases bool_ft (nrOk 2 (t ⟨⟩)) with hok | hok
    · have k1 := (mk_f hok).1
      have k2 := (mk_f hok).2.1
      have k3 := (mk_f hok).2.2
      refine ⟨_, HLe.refl _, ?_⟩
      cbv
      refine alt_f hok ?_
      cbv
      repeat' (refine Ob.mk ?_ ?_; (focus (first | exact hok | exact hsp | exact k1 | exact k2 | exact k3)); cbv)
    · have hn := nr_num hok
      have k1 : (numsOf (t ⟨⟩)).getD 0 0 = mkX (t ⟨⟩) := by rw [nums_at (by omega)]; exact (mk_t hok).1
      have k2 : (numsOf (t ⟨⟩)).getD 1 0 = mkY (t ⟨⟩) := by rw [nums_at (by omega)]; exact (mk_t hok).2.1
      have k3 := (mk_t hok).2.2
      have hj0 : 0 < (numsOf (t ⟨⟩)).length := by rw [nums_l]; omega
      have hj1 : 1 < (numsOf (t ⟨⟩)).length := by rw [nums_l]; omega
      refine ⟨_, HLe.refl _, ?_⟩
      cbv
      refine alt_t hok ?_
      cbv
      repeat' first | (refine Ob.mk ?_ ?_; (focus (first | exact hok | exact hsp | exact hj0 | exact hj1 | exact k1 | exact k2 | exact k3 | exact ⟨by decide, by decide⟩)); cbv) | (refine Lex.mk (by kernel_rfl) ?_; cbv)
  · cases hs
end Go.Proofs.YteifneielgnniaaDoor.Sh
end
section
namespace Go.Proofs.YteifneielgnniaaDoor.Sh
open Go Go.Proofs
theorem fn18 : FnOk Tryd.prog 18 Tryd.f18 (bodyOf Tryd.f18) := ⟨Tryd.func18, rfl, by rfl⟩
def s18 : Spec := hspec fun args H => match args, H with
  | [.c (.f .f64 a), .c (.f .f64 b)], [] => some (vB (sameF (a ()) (b ())), [], [])
  | _, _ => none
theorem ok18 : Ok Tryd.prog 18 (s18) := ok_of_wpaH (E := envGetL []) mixed tts (envOk_nil _) fn18 fun args H v H' o hs ho => by
  split at hs
  · rename_i a b
    cases hs
    refine ⟨_, HLe.nil, ?_⟩
    cbv
    repeat' first
      | (refine alt_t (by assumption) ?_; cbv)
      | (refine alt_f (by assumption) ?_; cbv)
      | (refine alt_b (fun h => ?_) (fun h => ?_) <;> cbv)
      | (refine Br.mk (fun h => ?_) (fun h => ?_) <;> cbv)
      | (refine Ob.mk ?_ ?_; rotate_left; cbv)
      | (refine Lex.mk (by kernel_rfl) ?_; cbv)
    all_goals (try simp only [Unit.unit, Int.ofNat_lt, Int.ofNat_le, BE.val, IE.val, NE.val, ltB_iff, ltB_no, leB_iff, leB_no, Int.toNat_natCast, Nat.zero_add, Nat.add_zero, Nat.mul_one, forced, beq_iff_eq, beq_eq_false_iff_ne] at *)
    all_goals first | with_reducible rfl | (simp_all [sameF]; done) | grind [sameF]
  · cases hs
theorem fn7 : FnOk Tryd.prog 7 Tryd.f7 (bodyOf Tryd.f7) := ⟨Tryd.func7, rfl, by rfl⟩
def s7 : Spec := hspec fun args H => match args, H with
  | [.c (.z .f64 a b), .c (.z .f64 c d)], [] => some (vB (sameF (a ()) (c ()) && sameF (b ()) (d ())), [], [])
  | _, _ => none
attribute [local irreducible] sameF
def E7 : Env := fun g => envGetL [(18, ⟨true, s18, none⟩)] g
set_option maxRecDepth 100000 in
theorem ok7 : Ok Tryd.prog 7 (s7) := ok_of_wpaH (E := E7) mixed tts (envOk_cons ok18 (envOk_nil _)) fn7 fun args H v H' o hs ho => by
  split at hs
  · rename_i a b c d
    cases hs
    refine ⟨_, HLe.refl _, ?_⟩
    cbv
    rcases bool_ft (sameF (a ⟨⟩) (c ⟨⟩)) with h | h
    · have k : false = (sameF (a ⟨⟩) (c ⟨⟩) && sameF (b ⟨⟩) (d ⟨⟩)) := by rw [h]; rfl
      repeat' first | (refine Br.f h ?_; cbv) | (refine Ob.mk k ?_; cbv)
    · have k : sameF (b ⟨⟩) (d ⟨⟩) = (sameF (a ⟨⟩) (c ⟨⟩) && sameF (b ⟨⟩) (d ⟨⟩)) := by rw [h]; rfl
      repeat' first | (refine Br.t h ?_; cbv) | (refine Ob.mk k ?_; cbv)
  · cases hs
theorem fn3 : FnOk Tryd.prog 3 Tryd.f3 (bodyOf Tryd.f3) := ⟨Tryd.func3, rfl, by rfl⟩
attribute [local irreducible] mkX mkY mkC
def s3 : Spec := hspec fun args H => match args, H with
  | [.c (.s t)], [] => some (.c (.b (.l true)), [], [])
  | _, _ => none
def E3 : Env := fun g => envGetL [(5, ⟨true, s5, none⟩), (6, ⟨true, s5, none⟩), (7, ⟨true, s7, none⟩)] g
set_option maxRecDepth 100000 in
set_option maxHeartbeats 4000000 in
theorem ok3 : Ok Tryd.prog 3 (s3) := ok_of_wpaH (E := E3) mixed tts (envOk_cons ok5 (envOk_cons ok6 (envOk_cons ok7 (envOk_nil _)))) fn3 fun args H v H' o hs ho => by
  split at hs
  · rename_i t
    cases hs
    rcases Nat.lt_or_ge 1048576 (t ⟨⟩).size with hbig | hsz
    · have hb : ltB 1048576 (((t ⟨⟩).size : Nat) : Int) = true := by rw [ltB_iff]; omega
      refine ⟨_, HLe.refl _, ?_⟩
      cbv
      refine Br.t hb ?_
      cbv
      repeat' (refine Ob.mk ?_ ?_; (focus (exact rfl)); cbv)
    · have hb : ltB 1048576 (((t ⟨⟩).size : Nat) : Int) = false := by rw [ltB_no]; omega
      have k1 : (!(sameF (cv (mkX (t ⟨⟩))) (cv (mkX (t ⟨⟩))) && sameF (cv (mkY (t ⟨⟩))) (cv (mkY (t ⟨⟩))))) = false := by rw [sameF_refl, sameF_refl]; rfl
      have k2 : (mkC (t ⟨⟩) != mkC (t ⟨⟩)) = false := by simp
      refine ⟨_, HLe.refl _, ?_⟩
      cbv
      refine Br.f hb ?_
      cbv
      repeat' first | (refine Ob.mk ?_ ?_; (focus (first | exact hsz | exact rfl)); cbv) | (refine Br.f k1 ?_; cbv) | (refine Br.f k2 ?_; cbv) | (refine Lex.mk (by kernel_rfl) ?_; cbv)
      all_goals trace_state
  · cases hs
end Go.Proofs.YteifneielgnniaaDoor.Sh
end
