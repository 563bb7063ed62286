/- What the law of breaks where the second row is none of this seat compute, each shown once. No condition. -/
import Derived.Test.YthkjlbggipocdaaVt
set_option linter.unusedVariables false
set_option linter.unusedSimpArgs false
set_option linter.unusedSectionVars false
namespace Go.Proofs.Ythkjlbggipocdaa.Sh
open Go Go.Proofs
attribute [local irreducible] pkV fop floatOfInt
set_option maxRecDepth 100000 in
set_option maxHeartbeats 8000000 in
theorem rest23b (oc nc : Unit → Nat) (L : Unit → List Int) (hby : bytesOk (L ⟨⟩)) (hcb : oc ⟨⟩ = 0 ∧ (L ⟨⟩).length = nc ⟨⟩ ∧ nc ⟨⟩ ≤ 4096 ∧ bytesOk (L ⟨⟩)) (hby' : bytesOk []) {st sp fd tm n : Nat} {l : List Nat} (hw : webOk st sp fd l n = true) (hd : Drawn sp l n) (hl : l.length = 3 * n) (hn1 : 1 ≤ n) (hn8 : n ≤ 1048576) {rb : Nat} (hrb : rb < 20) (htm : tm = fq (rb : Int) 1115684864) (f : Nat → V) :
    wpa ⟨tt, E23, 1⟩ (cutR 8 (bodyOf Try.f23)) (finE tt Try.f23.results.toList 1 (.c (.b (.l true))) [none]) (frj 277 f [(0, .c (.sl 0 (.x oc) (.x nc))), (1, .c .sn), (5, .c (.p 2 (.l 0))), (7, .c (.f .f32 fun _ => tm))]) [some ⟨false, 0, .it .u8 L⟩, some ⟨true, 3, .fl fun _ => l⟩, some ⟨true, 0, .lit [.f .f32 fun _ => st, .f .f32 fun _ => sp, .f .f32 fun _ => fd, .sl 1 (.l 0) (.x fun _ => n)]⟩] := by
  have hwf : 0 = 0 ∧ l.length = 3 * n ∧ n ≤ 1048576 := ⟨rfl, hl, hn8⟩
  cbv
  have hix : 0 ≤ pkV [] (n : Int) (0, 0) ∧ pkV [] (n : Int) (0, 0) < (n : Int) := pkV_bd hby' (by omega) (0, 0)
  obtain ⟨rt, hrt, hrt2⟩ := pk_nat hby (k := 40) (by decide) (0, 0)
  have hrt2 : pkV (L ⟨⟩) 40 (0, 0) = (rt : Int) := hrt2
  have htg : fop .quo .f32 (floatOfInt .f32 (pkV (L ⟨⟩) 40 (0, 0))) 1082130432 = fq (rt : Int) 1082130432 := by rw [hrt2]; rfl
  obtain ⟨rv, hrv, hrv2⟩ := pk_nat hby (k := 60) (by decide) (0, 0)
  have hrv2 : pkV (L ⟨⟩) 60 (0, 0) = (rv : Int) := hrv2
  have hvv : isSpd (fop .quo .f32 (floatOfInt .f32 (IntKind.wrap .i64 (1 + pkV (L ⟨⟩) 60 (0, 0)))) 1082130432) = true := by rw [hrv2, w4 (by omega) 1 (by decide) (by decide)]; exact allR_at d_fast hrv
  repeat' (refine Ob.mk ?_ ?_; (focus ((try dsimp only [IE.val, NE.val, BE.val]); first | (with_reducible first | exact True.intro | exact hcb | exact hwf | exact ⟨rfl, runW_len _ _ _ _ _ _ hl _, hn8⟩ | exact ⟨rfl, danceN_len hl _, hn8⟩ | exact ⟨rfl, set_len hl, hn8⟩) | exact in3c hLk hin | exact ⟨Int.natCast_nonneg _, Int.ofNat_lt.2 hin⟩)); cbv)
  dsimp only [IE.val, NE.val, BE.val]
  generalize pkV [] (n : Int) (0, 0) = ix at *
  generalize fop .quo .f32 (floatOfInt .f32 (pkV (L ⟨⟩) 40 (0, 0))) 1082130432 = tg at *
  have hptg : isPlain tg = true := by rw [htg]; exact allR_at d_plain hrt
  have hid : danceC st sp fd l n ix tg 0 tm 1 = stepsC st sp fd l n tm 1 := by rw [htg, htm]; exact idle_code hw hd hrt hrb hix
  have hiw : danceN st sp fd tg 0 tm ix.toNat n l 1 = runW st sp fd tm n l 1 := by rw [htg]; exact idle_web hd hrt hix
  have hsw : webSame eqW st sp fd n (danceN st sp fd tg 0 tm ix.toNat n l 1) st sp fd n (runW st sp fd tm n l 1) = true := by rw [hiw]; exact webSame_self
  have hset1 := set_code hw hl hix (v := fop .quo .f32 (floatOfInt .f32 (IntKind.wrap .i64 (1 + pkV (L ⟨⟩) 60 (0, 0)))) 1082130432) (c := 1) (.inl ⟨rfl, hvv⟩)
  have hset2 := set_code hw hl hix (v := tg) (c := 2) (.inr ⟨rfl, hptg⟩)
  have hs1 : (setC st sp fd l n ix 1 (fop .quo .f32 (floatOfInt .f32 (IntKind.wrap .i64 (1 + pkV (L ⟨⟩) 60 (0, 0)))) 1082130432) == 0) = true := by rw [hset1]; rfl
  have hs2 : (setC st sp fd l n ix 2 tg == 0) = true := by rw [hset2]; rfl
  clear hvv hset1 hset2 hrv2
  have h00 : (eqW 0 0 && eqW 0 0 && eqW 0 0) = true := by rw [eqW_self]; rfl
  cases hq : (stepsC st sp fd l n tm 1 == 0)
  · have hq' : (danceC st sp fd l n ix tg 0 tm 1 == 0) = false := by rw [hid]; exact hq
    refine alt_f hq' ?_
    cbv
    repeat' (refine Ob.mk ?_ ?_; (focus ((try dsimp only [IE.val, NE.val, BE.val]); first | (with_reducible first | exact True.intro | exact hcb | exact hwf | exact ⟨rfl, runW_len _ _ _ _ _ _ hl _, hn8⟩ | exact ⟨rfl, danceN_len hl _, hn8⟩ | exact ⟨rfl, set_len hl, hn8⟩) | exact in3c hLk hin | exact ⟨Int.natCast_nonneg _, Int.ofNat_lt.2 hin⟩)); cbv)
    refine alt_f hq ?_
    cbv
    repeat' (refine Ob.mk ?_ ?_; (focus ((try dsimp only [IE.val, NE.val, BE.val]); first | (with_reducible first | exact True.intro | exact hcb | exact hwf | exact ⟨rfl, runW_len _ _ _ _ _ _ hl _, hn8⟩ | exact ⟨rfl, danceN_len hl _, hn8⟩ | exact ⟨rfl, set_len hl, hn8⟩) | exact in3c hLk hin | exact ⟨Int.natCast_nonneg _, Int.ofNat_lt.2 hin⟩)); cbv)
    refine Br.f (ne_ff hid) ?_
    cbv
    repeat' (refine Ob.mk ?_ ?_; (focus ((try dsimp only [IE.val, NE.val, BE.val]); first | (with_reducible first | exact True.intro | exact hcb | exact hwf | exact ⟨rfl, runW_len _ _ _ _ _ _ hl _, hn8⟩ | exact ⟨rfl, danceN_len hl _, hn8⟩ | exact ⟨rfl, set_len hl, hn8⟩) | exact in3c hLk hin | exact ⟨Int.natCast_nonneg _, Int.ofNat_lt.2 hin⟩)); cbv)
    refine Br.f (nt h00) ?_
    cbv
    repeat' (refine Ob.mk ?_ ?_; (focus ((try dsimp only [IE.val, NE.val, BE.val]); first | (with_reducible first | exact True.intro | exact hcb | exact hwf | exact ⟨rfl, runW_len _ _ _ _ _ _ hl _, hn8⟩ | exact ⟨rfl, danceN_len hl _, hn8⟩ | exact ⟨rfl, set_len hl, hn8⟩) | exact in3c hLk hin | exact ⟨Int.natCast_nonneg _, Int.ofNat_lt.2 hin⟩)); cbv)
    cases hq6 : (danceC st sp fd l n ix tg (fop .quo .f32 (floatOfInt .f32 (IntKind.wrap .i64 (pkV [] 17 (0, 0) - 8))) 1149239296) tm 6 == 0)
    · as_aux_lemma =>
        refine alt_f hq6 ?_
        cbv
        repeat' (refine Ob.mk ?_ ?_; (focus ((try dsimp only [IE.val, NE.val, BE.val]); first | (with_reducible first | exact True.intro | exact hcb | exact hwf | exact ⟨rfl, runW_len _ _ _ _ _ _ hl _, hn8⟩ | exact ⟨rfl, danceN_len hl _, hn8⟩ | exact ⟨rfl, set_len hl, hn8⟩) | exact in3c hLk hin | exact ⟨Int.natCast_nonneg _, Int.ofNat_lt.2 hin⟩)); cbv)
        refine alt_f hq6 ?_
        cbv
        repeat' (refine Ob.mk ?_ ?_; (focus ((try dsimp only [IE.val, NE.val, BE.val]); first | (with_reducible first | exact True.intro | exact hcb | exact hwf | exact ⟨rfl, runW_len _ _ _ _ _ _ hl _, hn8⟩ | exact ⟨rfl, danceN_len hl _, hn8⟩ | exact ⟨rfl, set_len hl, hn8⟩) | exact in3c hLk hin | exact ⟨Int.natCast_nonneg _, Int.ofNat_lt.2 hin⟩)); cbv)
        refine Br.f (ne_ff rfl) ?_
        cbv
        repeat' (refine Ob.mk ?_ ?_; (focus ((try dsimp only [IE.val, NE.val, BE.val]); first | (with_reducible first | exact True.intro | exact hcb | exact hwf | exact ⟨rfl, runW_len _ _ _ _ _ _ hl _, hn8⟩ | exact ⟨rfl, danceN_len hl _, hn8⟩ | exact ⟨rfl, set_len hl, hn8⟩) | exact in3c hLk hin | exact ⟨Int.natCast_nonneg _, Int.ofNat_lt.2 hin⟩)); cbv)
        refine Br.f (nt h00) ?_
        cbv
        repeat' (refine Ob.mk ?_ ?_; (focus ((try dsimp only [IE.val, NE.val, BE.val]); first | (with_reducible first | exact True.intro | exact hcb | exact hwf | exact ⟨rfl, runW_len _ _ _ _ _ _ hl _, hn8⟩ | exact ⟨rfl, danceN_len hl _, hn8⟩ | exact ⟨rfl, set_len hl, hn8⟩) | exact in3c hLk hin | exact ⟨Int.natCast_nonneg _, Int.ofNat_lt.2 hin⟩)); cbv)
        refine alt_t hs1 ?_
        cbv
        repeat' (refine Ob.mk ?_ ?_; (focus ((try dsimp only [IE.val, NE.val, BE.val]); first | (with_reducible first | exact True.intro | exact hcb | exact hwf | exact ⟨rfl, runW_len _ _ _ _ _ _ hl _, hn8⟩ | exact ⟨rfl, danceN_len hl _, hn8⟩ | exact ⟨rfl, set_len hl, hn8⟩) | exact in3c hLk hin | exact ⟨Int.natCast_nonneg _, Int.ofNat_lt.2 hin⟩)); cbv)
        refine alt_t hs2 ?_
        cbv
        repeat' (refine Ob.mk ?_ ?_; (focus ((try dsimp only [IE.val, NE.val, BE.val]); first | (with_reducible first | exact True.intro | exact hcb | exact hwf | exact ⟨rfl, runW_len _ _ _ _ _ _ hl _, hn8⟩ | exact ⟨rfl, danceN_len hl _, hn8⟩ | exact ⟨rfl, set_len hl, hn8⟩) | exact in3c hLk hin | exact ⟨Int.natCast_nonneg _, Int.ofNat_lt.2 hin⟩)); cbv)
        refine alt_t hs1 ?_
        cbv
        repeat' (refine Ob.mk ?_ ?_; (focus ((try dsimp only [IE.val, NE.val, BE.val]); first | (with_reducible first | exact True.intro | exact hcb | exact hwf | exact ⟨rfl, runW_len _ _ _ _ _ _ hl _, hn8⟩ | exact ⟨rfl, danceN_len hl _, hn8⟩ | exact ⟨rfl, set_len hl, hn8⟩) | exact in3c hLk hin | exact ⟨Int.natCast_nonneg _, Int.ofNat_lt.2 hin⟩)); cbv)
        refine alt_t hs2 ?_
        cbv
        repeat' (refine Ob.mk ?_ ?_; (focus ((try dsimp only [IE.val, NE.val, BE.val]); first | (with_reducible first | exact True.intro | exact hcb | exact hwf | exact ⟨rfl, runW_len _ _ _ _ _ _ hl _, hn8⟩ | exact ⟨rfl, danceN_len hl _, hn8⟩ | exact ⟨rfl, set_len hl, hn8⟩) | exact in3c hLk hin | exact ⟨Int.natCast_nonneg _, Int.ofNat_lt.2 hin⟩)); cbv)
        refine Br.t (eq_tt rfl) ?_
        cbv
        refine Br.t (eq_tt rfl) ?_
        cbv
        repeat' (refine Ob.mk ?_ ?_; (focus ((try dsimp only [IE.val, NE.val, BE.val]); first | (with_reducible first | exact True.intro | exact hcb | exact hwf | exact ⟨rfl, runW_len _ _ _ _ _ _ hl _, hn8⟩ | exact ⟨rfl, danceN_len hl _, hn8⟩ | exact ⟨rfl, set_len hl, hn8⟩ | exact webSame_self | exact webSame_self.symm) | exact in3c hLk hin | exact ⟨Int.natCast_nonneg _, Int.ofNat_lt.2 hin⟩)); cbv)
        refine Br.t (webSame_self) ?_
        cbv
        refine Br.t (eq_tt rfl) ?_
        cbv
        refine Br.t (eq_tt rfl) ?_
        cbv
        repeat' (refine Ob.mk ?_ ?_; (focus ((try dsimp only [IE.val, NE.val, BE.val]); first | (with_reducible first | exact True.intro | exact hcb | exact hwf | exact ⟨rfl, runW_len _ _ _ _ _ _ hl _, hn8⟩ | exact ⟨rfl, danceN_len hl _, hn8⟩ | exact ⟨rfl, set_len hl, hn8⟩ | exact webSame_self | exact webSame_self.symm) | exact in3c hLk hin | exact ⟨Int.natCast_nonneg _, Int.ofNat_lt.2 hin⟩)); cbv)
        all_goals (try simp only [Unit.unit, Int.ofNat_lt, Int.ofNat_le, BE.val, IE.val, NE.val, ltB_iff, ltB_no, leB_iff, leB_no, Int.toNat_natCast, Nat.zero_add, Nat.add_zero, Nat.mul_one, forced, beq_iff_eq, beq_eq_false_iff_ne, bne_iff_ne, bne_eq_false_iff_eq] at *)
        all_goals first | with_reducible rfl | exact webSame_self | exact webSame_self.symm | (rw [webSame_self]; done)
    · as_aux_lemma =>
        refine alt_t hq6 ?_
        cbv
        repeat' (refine Ob.mk ?_ ?_; (focus ((try dsimp only [IE.val, NE.val, BE.val]); first | (with_reducible first | exact True.intro | exact hcb | exact hwf | exact ⟨rfl, runW_len _ _ _ _ _ _ hl _, hn8⟩ | exact ⟨rfl, danceN_len hl _, hn8⟩ | exact ⟨rfl, set_len hl, hn8⟩) | exact in3c hLk hin | exact ⟨Int.natCast_nonneg _, Int.ofNat_lt.2 hin⟩)); cbv)
        refine alt_t hq6 ?_
        cbv
        repeat' (refine Ob.mk ?_ ?_; (focus ((try dsimp only [IE.val, NE.val, BE.val]); first | (with_reducible first | exact True.intro | exact hcb | exact hwf | exact ⟨rfl, runW_len _ _ _ _ _ _ hl _, hn8⟩ | exact ⟨rfl, danceN_len hl _, hn8⟩ | exact ⟨rfl, set_len hl, hn8⟩) | exact in3c hLk hin | exact ⟨Int.natCast_nonneg _, Int.ofNat_lt.2 hin⟩)); cbv)
        refine Br.f (ne_ff rfl) ?_
        cbv
        repeat' (refine Ob.mk ?_ ?_; (focus ((try dsimp only [IE.val, NE.val, BE.val]); first | (with_reducible first | exact True.intro | exact hcb | exact hwf | exact ⟨rfl, runW_len _ _ _ _ _ _ hl _, hn8⟩ | exact ⟨rfl, danceN_len hl _, hn8⟩ | exact ⟨rfl, set_len hl, hn8⟩) | exact in3c hLk hin | exact ⟨Int.natCast_nonneg _, Int.ofNat_lt.2 hin⟩)); cbv)
        refine Br.f (nt webSame_self) ?_
        cbv
        repeat' (refine Ob.mk ?_ ?_; (focus ((try dsimp only [IE.val, NE.val, BE.val]); first | (with_reducible first | exact True.intro | exact hcb | exact hwf | exact ⟨rfl, runW_len _ _ _ _ _ _ hl _, hn8⟩ | exact ⟨rfl, danceN_len hl _, hn8⟩ | exact ⟨rfl, set_len hl, hn8⟩) | exact in3c hLk hin | exact ⟨Int.natCast_nonneg _, Int.ofNat_lt.2 hin⟩)); cbv)
        refine alt_t hs1 ?_
        cbv
        repeat' (refine Ob.mk ?_ ?_; (focus ((try dsimp only [IE.val, NE.val, BE.val]); first | (with_reducible first | exact True.intro | exact hcb | exact hwf | exact ⟨rfl, runW_len _ _ _ _ _ _ hl _, hn8⟩ | exact ⟨rfl, danceN_len hl _, hn8⟩ | exact ⟨rfl, set_len hl, hn8⟩) | exact in3c hLk hin | exact ⟨Int.natCast_nonneg _, Int.ofNat_lt.2 hin⟩)); cbv)
        refine alt_t hs2 ?_
        cbv
        repeat' (refine Ob.mk ?_ ?_; (focus ((try dsimp only [IE.val, NE.val, BE.val]); first | (with_reducible first | exact True.intro | exact hcb | exact hwf | exact ⟨rfl, runW_len _ _ _ _ _ _ hl _, hn8⟩ | exact ⟨rfl, danceN_len hl _, hn8⟩ | exact ⟨rfl, set_len hl, hn8⟩) | exact in3c hLk hin | exact ⟨Int.natCast_nonneg _, Int.ofNat_lt.2 hin⟩)); cbv)
        refine alt_t hs1 ?_
        cbv
        repeat' (refine Ob.mk ?_ ?_; (focus ((try dsimp only [IE.val, NE.val, BE.val]); first | (with_reducible first | exact True.intro | exact hcb | exact hwf | exact ⟨rfl, runW_len _ _ _ _ _ _ hl _, hn8⟩ | exact ⟨rfl, danceN_len hl _, hn8⟩ | exact ⟨rfl, set_len hl, hn8⟩) | exact in3c hLk hin | exact ⟨Int.natCast_nonneg _, Int.ofNat_lt.2 hin⟩)); cbv)
        refine alt_t hs2 ?_
        cbv
        repeat' (refine Ob.mk ?_ ?_; (focus ((try dsimp only [IE.val, NE.val, BE.val]); first | (with_reducible first | exact True.intro | exact hcb | exact hwf | exact ⟨rfl, runW_len _ _ _ _ _ _ hl _, hn8⟩ | exact ⟨rfl, danceN_len hl _, hn8⟩ | exact ⟨rfl, set_len hl, hn8⟩) | exact in3c hLk hin | exact ⟨Int.natCast_nonneg _, Int.ofNat_lt.2 hin⟩)); cbv)
        refine Br.t (eq_tt rfl) ?_
        cbv
        refine Br.t (eq_tt rfl) ?_
        cbv
        repeat' (refine Ob.mk ?_ ?_; (focus ((try dsimp only [IE.val, NE.val, BE.val]); first | (with_reducible first | exact True.intro | exact hcb | exact hwf | exact ⟨rfl, runW_len _ _ _ _ _ _ hl _, hn8⟩ | exact ⟨rfl, danceN_len hl _, hn8⟩ | exact ⟨rfl, set_len hl, hn8⟩ | exact webSame_self | exact webSame_self.symm) | exact in3c hLk hin | exact ⟨Int.natCast_nonneg _, Int.ofNat_lt.2 hin⟩)); cbv)
        refine Br.t (webSame_self) ?_
        cbv
        refine Br.t (eq_tt rfl) ?_
        cbv
        refine Br.t (eq_tt rfl) ?_
        cbv
        repeat' (refine Ob.mk ?_ ?_; (focus ((try dsimp only [IE.val, NE.val, BE.val]); first | (with_reducible first | exact True.intro | exact hcb | exact hwf | exact ⟨rfl, runW_len _ _ _ _ _ _ hl _, hn8⟩ | exact ⟨rfl, danceN_len hl _, hn8⟩ | exact ⟨rfl, set_len hl, hn8⟩ | exact webSame_self | exact webSame_self.symm) | exact in3c hLk hin | exact ⟨Int.natCast_nonneg _, Int.ofNat_lt.2 hin⟩)); cbv)
        all_goals (try simp only [Unit.unit, Int.ofNat_lt, Int.ofNat_le, BE.val, IE.val, NE.val, ltB_iff, ltB_no, leB_iff, leB_no, Int.toNat_natCast, Nat.zero_add, Nat.add_zero, Nat.mul_one, forced, beq_iff_eq, beq_eq_false_iff_ne, bne_iff_ne, bne_eq_false_iff_eq] at *)
        all_goals first | with_reducible rfl | exact webSame_self | exact webSame_self.symm | (rw [webSame_self]; done)
  · have hq' : (danceC st sp fd l n ix tg 0 tm 1 == 0) = true := by rw [hid]; exact hq
    refine alt_t hq' ?_
    cbv
    repeat' (refine Ob.mk ?_ ?_; (focus ((try dsimp only [IE.val, NE.val, BE.val]); first | (with_reducible first | exact True.intro | exact hcb | exact hwf | exact ⟨rfl, runW_len _ _ _ _ _ _ hl _, hn8⟩ | exact ⟨rfl, danceN_len hl _, hn8⟩ | exact ⟨rfl, set_len hl, hn8⟩) | exact in3c hLk hin | exact ⟨Int.natCast_nonneg _, Int.ofNat_lt.2 hin⟩)); cbv)
    refine alt_t hq ?_
    cbv
    repeat' (refine Ob.mk ?_ ?_; (focus ((try dsimp only [IE.val, NE.val, BE.val]); first | (with_reducible first | exact True.intro | exact hcb | exact hwf | exact ⟨rfl, runW_len _ _ _ _ _ _ hl _, hn8⟩ | exact ⟨rfl, danceN_len hl _, hn8⟩ | exact ⟨rfl, set_len hl, hn8⟩) | exact in3c hLk hin | exact ⟨Int.natCast_nonneg _, Int.ofNat_lt.2 hin⟩)); cbv)
    refine Br.f (ne_ff rfl) ?_
    cbv
    repeat' (refine Ob.mk ?_ ?_; (focus ((try dsimp only [IE.val, NE.val, BE.val]); first | (with_reducible first | exact True.intro | exact hcb | exact hwf | exact ⟨rfl, runW_len _ _ _ _ _ _ hl _, hn8⟩ | exact ⟨rfl, danceN_len hl _, hn8⟩ | exact ⟨rfl, set_len hl, hn8⟩) | exact in3c hLk hin | exact ⟨Int.natCast_nonneg _, Int.ofNat_lt.2 hin⟩)); cbv)
    refine Br.f (nt hsw) ?_
    cbv
    repeat' (refine Ob.mk ?_ ?_; (focus ((try dsimp only [IE.val, NE.val, BE.val]); first | (with_reducible first | exact True.intro | exact hcb | exact hwf | exact ⟨rfl, runW_len _ _ _ _ _ _ hl _, hn8⟩ | exact ⟨rfl, danceN_len hl _, hn8⟩ | exact ⟨rfl, set_len hl, hn8⟩) | exact in3c hLk hin | exact ⟨Int.natCast_nonneg _, Int.ofNat_lt.2 hin⟩)); cbv)
    cases hq6 : (danceC st sp fd l n ix tg (fop .quo .f32 (floatOfInt .f32 (IntKind.wrap .i64 (pkV [] 17 (0, 0) - 8))) 1149239296) tm 6 == 0)
    · as_aux_lemma =>
        refine alt_f hq6 ?_
        cbv
        repeat' (refine Ob.mk ?_ ?_; (focus ((try dsimp only [IE.val, NE.val, BE.val]); first | (with_reducible first | exact True.intro | exact hcb | exact hwf | exact ⟨rfl, runW_len _ _ _ _ _ _ hl _, hn8⟩ | exact ⟨rfl, danceN_len hl _, hn8⟩ | exact ⟨rfl, set_len hl, hn8⟩) | exact in3c hLk hin | exact ⟨Int.natCast_nonneg _, Int.ofNat_lt.2 hin⟩)); cbv)
        refine alt_f hq6 ?_
        cbv
        repeat' (refine Ob.mk ?_ ?_; (focus ((try dsimp only [IE.val, NE.val, BE.val]); first | (with_reducible first | exact True.intro | exact hcb | exact hwf | exact ⟨rfl, runW_len _ _ _ _ _ _ hl _, hn8⟩ | exact ⟨rfl, danceN_len hl _, hn8⟩ | exact ⟨rfl, set_len hl, hn8⟩) | exact in3c hLk hin | exact ⟨Int.natCast_nonneg _, Int.ofNat_lt.2 hin⟩)); cbv)
        refine Br.f (ne_ff rfl) ?_
        cbv
        repeat' (refine Ob.mk ?_ ?_; (focus ((try dsimp only [IE.val, NE.val, BE.val]); first | (with_reducible first | exact True.intro | exact hcb | exact hwf | exact ⟨rfl, runW_len _ _ _ _ _ _ hl _, hn8⟩ | exact ⟨rfl, danceN_len hl _, hn8⟩ | exact ⟨rfl, set_len hl, hn8⟩) | exact in3c hLk hin | exact ⟨Int.natCast_nonneg _, Int.ofNat_lt.2 hin⟩)); cbv)
        refine Br.f (nt h00) ?_
        cbv
        repeat' (refine Ob.mk ?_ ?_; (focus ((try dsimp only [IE.val, NE.val, BE.val]); first | (with_reducible first | exact True.intro | exact hcb | exact hwf | exact ⟨rfl, runW_len _ _ _ _ _ _ hl _, hn8⟩ | exact ⟨rfl, danceN_len hl _, hn8⟩ | exact ⟨rfl, set_len hl, hn8⟩) | exact in3c hLk hin | exact ⟨Int.natCast_nonneg _, Int.ofNat_lt.2 hin⟩)); cbv)
        refine alt_t hs1 ?_
        cbv
        repeat' (refine Ob.mk ?_ ?_; (focus ((try dsimp only [IE.val, NE.val, BE.val]); first | (with_reducible first | exact True.intro | exact hcb | exact hwf | exact ⟨rfl, runW_len _ _ _ _ _ _ hl _, hn8⟩ | exact ⟨rfl, danceN_len hl _, hn8⟩ | exact ⟨rfl, set_len hl, hn8⟩) | exact in3c hLk hin | exact ⟨Int.natCast_nonneg _, Int.ofNat_lt.2 hin⟩)); cbv)
        refine alt_t hs2 ?_
        cbv
        repeat' (refine Ob.mk ?_ ?_; (focus ((try dsimp only [IE.val, NE.val, BE.val]); first | (with_reducible first | exact True.intro | exact hcb | exact hwf | exact ⟨rfl, runW_len _ _ _ _ _ _ hl _, hn8⟩ | exact ⟨rfl, danceN_len hl _, hn8⟩ | exact ⟨rfl, set_len hl, hn8⟩) | exact in3c hLk hin | exact ⟨Int.natCast_nonneg _, Int.ofNat_lt.2 hin⟩)); cbv)
        refine alt_t hs1 ?_
        cbv
        repeat' (refine Ob.mk ?_ ?_; (focus ((try dsimp only [IE.val, NE.val, BE.val]); first | (with_reducible first | exact True.intro | exact hcb | exact hwf | exact ⟨rfl, runW_len _ _ _ _ _ _ hl _, hn8⟩ | exact ⟨rfl, danceN_len hl _, hn8⟩ | exact ⟨rfl, set_len hl, hn8⟩) | exact in3c hLk hin | exact ⟨Int.natCast_nonneg _, Int.ofNat_lt.2 hin⟩)); cbv)
        refine alt_t hs2 ?_
        cbv
        repeat' (refine Ob.mk ?_ ?_; (focus ((try dsimp only [IE.val, NE.val, BE.val]); first | (with_reducible first | exact True.intro | exact hcb | exact hwf | exact ⟨rfl, runW_len _ _ _ _ _ _ hl _, hn8⟩ | exact ⟨rfl, danceN_len hl _, hn8⟩ | exact ⟨rfl, set_len hl, hn8⟩) | exact in3c hLk hin | exact ⟨Int.natCast_nonneg _, Int.ofNat_lt.2 hin⟩)); cbv)
        refine Br.t (eq_tt rfl) ?_
        cbv
        refine Br.t (eq_tt rfl) ?_
        cbv
        repeat' (refine Ob.mk ?_ ?_; (focus ((try dsimp only [IE.val, NE.val, BE.val]); first | (with_reducible first | exact True.intro | exact hcb | exact hwf | exact ⟨rfl, runW_len _ _ _ _ _ _ hl _, hn8⟩ | exact ⟨rfl, danceN_len hl _, hn8⟩ | exact ⟨rfl, set_len hl, hn8⟩ | exact webSame_self | exact webSame_self.symm) | exact in3c hLk hin | exact ⟨Int.natCast_nonneg _, Int.ofNat_lt.2 hin⟩)); cbv)
        refine Br.t (webSame_self) ?_
        cbv
        refine Br.t (eq_tt rfl) ?_
        cbv
        refine Br.t (eq_tt rfl) ?_
        cbv
        repeat' (refine Ob.mk ?_ ?_; (focus ((try dsimp only [IE.val, NE.val, BE.val]); first | (with_reducible first | exact True.intro | exact hcb | exact hwf | exact ⟨rfl, runW_len _ _ _ _ _ _ hl _, hn8⟩ | exact ⟨rfl, danceN_len hl _, hn8⟩ | exact ⟨rfl, set_len hl, hn8⟩ | exact webSame_self | exact webSame_self.symm) | exact in3c hLk hin | exact ⟨Int.natCast_nonneg _, Int.ofNat_lt.2 hin⟩)); cbv)
        all_goals (try simp only [Unit.unit, Int.ofNat_lt, Int.ofNat_le, BE.val, IE.val, NE.val, ltB_iff, ltB_no, leB_iff, leB_no, Int.toNat_natCast, Nat.zero_add, Nat.add_zero, Nat.mul_one, forced, beq_iff_eq, beq_eq_false_iff_ne, bne_iff_ne, bne_eq_false_iff_eq] at *)
        all_goals first | with_reducible rfl | exact webSame_self | exact webSame_self.symm | (rw [webSame_self]; done)
    · as_aux_lemma =>
        refine alt_t hq6 ?_
        cbv
        repeat' (refine Ob.mk ?_ ?_; (focus ((try dsimp only [IE.val, NE.val, BE.val]); first | (with_reducible first | exact True.intro | exact hcb | exact hwf | exact ⟨rfl, runW_len _ _ _ _ _ _ hl _, hn8⟩ | exact ⟨rfl, danceN_len hl _, hn8⟩ | exact ⟨rfl, set_len hl, hn8⟩) | exact in3c hLk hin | exact ⟨Int.natCast_nonneg _, Int.ofNat_lt.2 hin⟩)); cbv)
        refine alt_t hq6 ?_
        cbv
        repeat' (refine Ob.mk ?_ ?_; (focus ((try dsimp only [IE.val, NE.val, BE.val]); first | (with_reducible first | exact True.intro | exact hcb | exact hwf | exact ⟨rfl, runW_len _ _ _ _ _ _ hl _, hn8⟩ | exact ⟨rfl, danceN_len hl _, hn8⟩ | exact ⟨rfl, set_len hl, hn8⟩) | exact in3c hLk hin | exact ⟨Int.natCast_nonneg _, Int.ofNat_lt.2 hin⟩)); cbv)
        refine Br.f (ne_ff rfl) ?_
        cbv
        repeat' (refine Ob.mk ?_ ?_; (focus ((try dsimp only [IE.val, NE.val, BE.val]); first | (with_reducible first | exact True.intro | exact hcb | exact hwf | exact ⟨rfl, runW_len _ _ _ _ _ _ hl _, hn8⟩ | exact ⟨rfl, danceN_len hl _, hn8⟩ | exact ⟨rfl, set_len hl, hn8⟩) | exact in3c hLk hin | exact ⟨Int.natCast_nonneg _, Int.ofNat_lt.2 hin⟩)); cbv)
        refine Br.f (nt webSame_self) ?_
        cbv
        repeat' (refine Ob.mk ?_ ?_; (focus ((try dsimp only [IE.val, NE.val, BE.val]); first | (with_reducible first | exact True.intro | exact hcb | exact hwf | exact ⟨rfl, runW_len _ _ _ _ _ _ hl _, hn8⟩ | exact ⟨rfl, danceN_len hl _, hn8⟩ | exact ⟨rfl, set_len hl, hn8⟩) | exact in3c hLk hin | exact ⟨Int.natCast_nonneg _, Int.ofNat_lt.2 hin⟩)); cbv)
        refine alt_t hs1 ?_
        cbv
        repeat' (refine Ob.mk ?_ ?_; (focus ((try dsimp only [IE.val, NE.val, BE.val]); first | (with_reducible first | exact True.intro | exact hcb | exact hwf | exact ⟨rfl, runW_len _ _ _ _ _ _ hl _, hn8⟩ | exact ⟨rfl, danceN_len hl _, hn8⟩ | exact ⟨rfl, set_len hl, hn8⟩) | exact in3c hLk hin | exact ⟨Int.natCast_nonneg _, Int.ofNat_lt.2 hin⟩)); cbv)
        refine alt_t hs2 ?_
        cbv
        repeat' (refine Ob.mk ?_ ?_; (focus ((try dsimp only [IE.val, NE.val, BE.val]); first | (with_reducible first | exact True.intro | exact hcb | exact hwf | exact ⟨rfl, runW_len _ _ _ _ _ _ hl _, hn8⟩ | exact ⟨rfl, danceN_len hl _, hn8⟩ | exact ⟨rfl, set_len hl, hn8⟩) | exact in3c hLk hin | exact ⟨Int.natCast_nonneg _, Int.ofNat_lt.2 hin⟩)); cbv)
        refine alt_t hs1 ?_
        cbv
        repeat' (refine Ob.mk ?_ ?_; (focus ((try dsimp only [IE.val, NE.val, BE.val]); first | (with_reducible first | exact True.intro | exact hcb | exact hwf | exact ⟨rfl, runW_len _ _ _ _ _ _ hl _, hn8⟩ | exact ⟨rfl, danceN_len hl _, hn8⟩ | exact ⟨rfl, set_len hl, hn8⟩) | exact in3c hLk hin | exact ⟨Int.natCast_nonneg _, Int.ofNat_lt.2 hin⟩)); cbv)
        refine alt_t hs2 ?_
        cbv
        repeat' (refine Ob.mk ?_ ?_; (focus ((try dsimp only [IE.val, NE.val, BE.val]); first | (with_reducible first | exact True.intro | exact hcb | exact hwf | exact ⟨rfl, runW_len _ _ _ _ _ _ hl _, hn8⟩ | exact ⟨rfl, danceN_len hl _, hn8⟩ | exact ⟨rfl, set_len hl, hn8⟩) | exact in3c hLk hin | exact ⟨Int.natCast_nonneg _, Int.ofNat_lt.2 hin⟩)); cbv)
        refine Br.t (eq_tt rfl) ?_
        cbv
        refine Br.t (eq_tt rfl) ?_
        cbv
        repeat' (refine Ob.mk ?_ ?_; (focus ((try dsimp only [IE.val, NE.val, BE.val]); first | (with_reducible first | exact True.intro | exact hcb | exact hwf | exact ⟨rfl, runW_len _ _ _ _ _ _ hl _, hn8⟩ | exact ⟨rfl, danceN_len hl _, hn8⟩ | exact ⟨rfl, set_len hl, hn8⟩ | exact webSame_self | exact webSame_self.symm) | exact in3c hLk hin | exact ⟨Int.natCast_nonneg _, Int.ofNat_lt.2 hin⟩)); cbv)
        refine Br.t (webSame_self) ?_
        cbv
        refine Br.t (eq_tt rfl) ?_
        cbv
        refine Br.t (eq_tt rfl) ?_
        cbv
        repeat' (refine Ob.mk ?_ ?_; (focus ((try dsimp only [IE.val, NE.val, BE.val]); first | (with_reducible first | exact True.intro | exact hcb | exact hwf | exact ⟨rfl, runW_len _ _ _ _ _ _ hl _, hn8⟩ | exact ⟨rfl, danceN_len hl _, hn8⟩ | exact ⟨rfl, set_len hl, hn8⟩ | exact webSame_self | exact webSame_self.symm) | exact in3c hLk hin | exact ⟨Int.natCast_nonneg _, Int.ofNat_lt.2 hin⟩)); cbv)
        all_goals (try simp only [Unit.unit, Int.ofNat_lt, Int.ofNat_le, BE.val, IE.val, NE.val, ltB_iff, ltB_no, leB_iff, leB_no, Int.toNat_natCast, Nat.zero_add, Nat.add_zero, Nat.mul_one, forced, beq_iff_eq, beq_eq_false_iff_ne, bne_iff_ne, bne_eq_false_iff_eq] at *)
        all_goals first | with_reducible rfl | exact webSame_self | exact webSame_self.symm | (rw [webSame_self]; done)
def sLaw23b : Spec := hspec fun args H => match args, H with
  | [.c (.sl 0 (.x o) (.x n)), .c .sn], [some ⟨false, 0, .it .u8 L⟩] => some (.c (.b (.l true)), [none], [fun _ => o () = 0 ∧ (L ()).length = n () ∧ n () ≤ 9223372036854775807 ∧ bytesOk (L ())])
  | _, _ => none
set_option maxRecDepth 100000 in
set_option maxHeartbeats 8000000 in
theorem ok23b : Ok Try.prog 23 (sLaw23b) := ok_of_wpaH (E := E23) mixed tts E23ok fn23 fun args H v H' o hs ho => by
  split at hs
  · rename_i oc nc L
    cases hs
    obtain ⟨ho0, hlen, hbig, hby⟩ := ho.one
    have hby' := bytes_nil
    simp only [Unit.unit] at ho0 hlen hbig hby
    refine ⟨_, HLe.refl _, wpa_cut2 (n := 277) 8 (fun _ => [(0, .c (.sl 0 (.x oc) (.x nc))), (1, .c .sn), (5, .c (.p 2 (.l 0))), (7, .c (.f .f32 fun _ => (fop .quo .f32 (floatOfInt .f32 (pkV [] 20 (0, 0))) 1115684864)))]) (fun _ => [some ⟨false, 0, .it .u8 L⟩, some ⟨true, 3, .fl fun _ => drW (L ⟨⟩) (0, 0)⟩, some ⟨true, 0, .lit [.f .f32 fun _ => drSt (L ⟨⟩) (0, 0), .f .f32 fun _ => drSp (L ⟨⟩) (0, 0), .f .f32 fun _ => drFd (L ⟨⟩) (0, 0), .sl 1 (.l 0) (.x fun _ => drN (L ⟨⟩) (0, 0))]⟩]) (fun _ => (oc ⟨⟩ = 0 ∧ (L ⟨⟩).length = nc ⟨⟩ ∧ nc ⟨⟩ ≤ 4096 ∧ bytesOk (L ⟨⟩))) (by rfl) ?_ ?_⟩
    · cbv
      refine Br.mk (fun hz => ?_) (fun hz => ?_)
      · cbv
        repeat' (refine Ob.mk ?_ ?_; rotate_left; cbv)
        all_goals (try simp only [Unit.unit, Int.ofNat_lt, Int.ofNat_le, BE.val, IE.val, NE.val, ltB_iff, ltB_no, leB_iff, leB_no, Int.toNat_natCast, Nat.zero_add, Nat.add_zero, Nat.mul_one, forced, beq_iff_eq, beq_eq_false_iff_ne, bne_iff_ne, bne_eq_false_iff_eq] at *)
        all_goals first | with_reducible rfl | trivial
      have hcb : oc ⟨⟩ = 0 ∧ (L ⟨⟩).length = nc ⟨⟩ ∧ nc ⟨⟩ ≤ 4096 ∧ bytesOk (L ⟨⟩) := ⟨ho0, hlen, big_ok hz, hby⟩
      clear hz
      cbv
      have hw := dr_ok hby (0, 0)
      have hd := dr_drawn hby (0, 0)
      have hl := dr_len (L := (L ⟨⟩)) (0, 0)
      have hn1 := (drN_bd hby (0, 0)).1
      have hn2 := (drN_bd hby (0, 0)).2.1
      have hn8 : drN (L ⟨⟩) (0, 0) ≤ 1048576 := Nat.le_trans hn2 (by decide)
      have hwf : 0 = 0 ∧ (drW (L ⟨⟩) (0, 0)).length = 3 * drN (L ⟨⟩) (0, 0) ∧ drN (L ⟨⟩) (0, 0) ≤ 1048576 := ⟨rfl, hl, hn8⟩
      obtain ⟨rb, hrb, hb⟩ := pk_nat hby' (k := 20) (by decide) (0, 0)
      have hb : pkV [] 20 (0, 0) = (rb : Int) := hb
      have htm : fop .quo .f32 (floatOfInt .f32 (pkV [] 20 (0, 0))) 1115684864 = fq (rb : Int) 1115684864 := by rw [hb]; rfl
      obtain ⟨ra, hra, ha⟩ := pk_nat hby' (k := 120) (by decide) (0, 0)
      have ha : pkV [] 120 (0, 0) = (ra : Int) := ha
      have hs : isPlain (fop .quo .f32 (floatOfInt .f32 (pkV [] 120 (0, 0))) 1082130432) = true := by rw [ha]; exact allR_at d_strong hra
      have ht : isTime (fop .quo .f32 (floatOfInt .f32 (pkV [] 20 (0, 0))) 1115684864) = true := by rw [hb]; exact allR_at d_time hrb
      repeat' (refine Ob.mk ?_ ?_; (focus ((try dsimp only [IE.val, NE.val, BE.val]); first | (with_reducible first | exact True.intro | exact hcb | exact hwf | exact ⟨rfl, runW_len _ _ _ _ _ _ hl _, hn8⟩ | exact ⟨rfl, danceN_len hl _, hn8⟩ | exact ⟨rfl, set_len hl, hn8⟩) | exact in3c hLk hin | exact ⟨Int.natCast_nonneg _, Int.ofNat_lt.2 hin⟩)); cbv)
      generalize drSt (L ⟨⟩) (0, 0) = st at *
      generalize drSp (L ⟨⟩) (0, 0) = sp at *
      generalize drFd (L ⟨⟩) (0, 0) = fd at *
      generalize drW (L ⟨⟩) (0, 0) = l at *
      generalize drN (L ⟨⟩) (0, 0) = n at *
      dsimp only [IE.val, NE.val, BE.val]
      generalize fop .quo .f32 (floatOfInt .f32 (pkV [] 120 (0, 0))) 1082130432 = s at *
      generalize fop .quo .f32 (floatOfInt .f32 (pkV [] 20 (0, 0))) 1115684864 = tm at *
      have hco := break_code (n := n) hw hs ht
      have hch := break_char (st := st) (sp := sp) (fd := fd) (n := n) (s := s) (tm := tm) (l := l) (most := 12)
      generalize (breakW st sp fd l n s tm 12).1 = rd at *
      generalize (breakW st sp fd l n s tm 12).2.1 = rw' at *
      generalize (breakW st sp fd l n s tm 12).2.2 = rc at *
      rcases hco with hc0 | hc0 | hc0
      · as_aux_lemma =>
          obtain ⟨j, rfl, hbk, hj1, rfl, hj12⟩ := hch hc0
          subst hc0
          refine Br.f (ne_ff rfl) ?_
          cbv
          refine Br.f (ne_ff rfl) ?_
          cbv
          refine Br.f (ne_ff rfl) ?_
          cbv
          refine Br.f (ne_ff rfl) ?_
          cbv
          refine Br.t (eq_tt rfl) ?_
          cbv
          refine loop_rule (α := (Unit → Nat) ⊕ (Unit → Nat) ⊕ (Unit → Nat)) (c := ⟨tt, E23, 1⟩)
              (fun a => match a with | .inl _ => fr 277 [(0, .c (.sl 0 (.x oc) (.x nc))), (1, .c .sn), (5, .c (.p 2 (.l 0))), (7, .c (.f .f32 fun _ => tm)), (6, .c (.f .f32 fun _ => s)), (11, .c (.i .i64 (.x fun _ => (j : Int)))), (12, .c (.i .i64 (.x fun _ => ((lead (lowT (runW st sp fd tm n l (j)) s) n : Nat) : Int)))), (14, .c (.p 3 (.l 0))), (15, .c (.i .i64 (.l 0)))] | .inr (.inl k) => fr 277 [(0, .c (.sl 0 (.x oc) (.x nc))), (1, .c .sn), (5, .c (.p 2 (.l 0))), (7, .c (.f .f32 fun _ => tm)), (6, .c (.f .f32 fun _ => s)), (11, .c (.i .i64 (.x fun _ => (j : Int)))), (12, .c (.i .i64 (.x fun _ => ((lead (lowT (runW st sp fd tm n l (j)) s) n : Nat) : Int)))), (14, .c (.p 3 (.l 0))), (15, .c (.i .i64 (.x fun _ => (k () : Int))))] | .inr (.inr _) => fr 277 [(0, .c (.sl 0 (.x oc) (.x nc))), (1, .c .sn), (5, .c (.p 2 (.l 0))), (7, .c (.f .f32 fun _ => tm)), (11, .c (.i .i64 (.x fun _ => (j : Int)))), (15, .c (.i .i64 (.x fun _ => ((j + 1 : Nat) : Int))))]) (fun a => match a with | .inl _ => [some ⟨false, 0, .it .u8 L⟩, some ⟨true, 3, .fl fun _ => l⟩, some ⟨true, 0, .lit [.f .f32 fun _ => st, .f .f32 fun _ => sp, .f .f32 fun _ => fd, .sl 1 (.l 0) (.x fun _ => n)]⟩, some ⟨true, 0, .lit [.f .f32 fun _ => st, .f .f32 fun _ => sp, .f .f32 fun _ => fd, .sl 1 (.l 0) (.x fun _ => n)]⟩] | .inr (.inl k) => [some ⟨false, 0, .it .u8 L⟩, some ⟨true, 3, .fl fun _ => l⟩, some ⟨true, 0, .lit [.f .f32 fun _ => st, .f .f32 fun _ => sp, .f .f32 fun _ => fd, .sl 1 (.l 0) (.x fun _ => n)]⟩, some ⟨true, 0, .lit [.f .f32 fun _ => st, .f .f32 fun _ => sp, .f .f32 fun _ => fd, .sl 4 (.l 0) (.x fun _ => n)]⟩, some ⟨true, 3, .fl fun _ => runW st sp fd tm n l (k ())⟩] | .inr (.inr _) => [some ⟨false, 0, .it .u8 L⟩, some ⟨true, 3, .fl fun _ => l⟩, some ⟨true, 0, .lit [.f .f32 fun _ => st, .f .f32 fun _ => sp, .f .f32 fun _ => fd, .sl 1 (.l 0) (.x fun _ => n)]⟩])
              (fun a => match a with | .inl _ => True | .inr (.inl k) => 1 ≤ k () ∧ k () ≤ j | .inr (.inr _) => True) (fun a => match a with | .inl _ => j + 2 | .inr (.inl k) => j + 1 - k () | .inr (.inr _) => 0) (fun _ => j + 3) ?_ ?_
          · refine .mk (.inl fun _ => 0) trivial (by dsimp only; omega) ?_
            cbv
            repeat' (refine Ob.mk ?_ ?_; rotate_left)
            all_goals (try simp only [Unit.unit, Int.ofNat_lt, Int.ofNat_le, BE.val, IE.val, NE.val, ltB_iff, ltB_no, leB_iff, leB_no, Int.toNat_natCast, Nat.zero_add, Nat.add_zero, Nat.mul_one, forced, beq_iff_eq, beq_eq_false_iff_ne, bne_iff_ne, bne_eq_false_iff_eq] at *)
            all_goals first | with_reducible rfl | exact True.intro | rfl
          · rintro (k | k | k) hi
            · as_aux_lemma =>
                have hkq : 0 ≤ j := Nat.zero_le _
                have hwk : webOk st sp fd (runW st sp fd tm n l (0)) n = true := hw
                have hLk : (runW st sp fd tm n l (0)).length = 3 * n := runW_len _ _ _ _ _ _ hl _
                cbv
                refine Br.t (kj_le hkq) ?_
                cbv
                refine loop_rule (α := (Unit → Nat) ⊕ (Unit → Nat)) (c := ⟨tt, E23, 1⟩)
                    (fun a => match a with | .inl i => fr 277 [(0, .c (.sl 0 (.x oc) (.x nc))), (1, .c .sn), (5, .c (.p 2 (.l 0))), (7, .c (.f .f32 fun _ => tm)), (6, .c (.f .f32 fun _ => s)), (11, .c (.i .i64 (.x fun _ => (j : Int)))), (12, .c (.i .i64 (.x fun _ => ((lead (lowT (runW st sp fd tm n l (j)) s) n : Nat) : Int)))), (14, .c (.p 3 (.l 0))), (15, .c (.i .i64 (.l 0))), (16, .c (.i .i64 (.l (-1)))), (17, .c (.i .i64 (.x fun _ => (i () : Int))))] | .inr i => fr 277 [(0, .c (.sl 0 (.x oc) (.x nc))), (1, .c .sn), (5, .c (.p 2 (.l 0))), (7, .c (.f .f32 fun _ => tm)), (6, .c (.f .f32 fun _ => s)), (11, .c (.i .i64 (.x fun _ => (j : Int)))), (12, .c (.i .i64 (.x fun _ => ((lead (lowT (runW st sp fd tm n l (j)) s) n : Nat) : Int)))), (14, .c (.p 3 (.l 0))), (15, .c (.i .i64 (.l 0))), (16, .c (.i .i64 (.x fun _ => (i () : Int)))), (17, .c (.i .i64 (.x fun _ => ((i () + 1 : Nat) : Int))))]) (fun a => match a with | .inl i => [some ⟨false, 0, .it .u8 L⟩, some ⟨true, 3, .fl fun _ => l⟩, some ⟨true, 0, .lit [.f .f32 fun _ => st, .f .f32 fun _ => sp, .f .f32 fun _ => fd, .sl 1 (.l 0) (.x fun _ => n)]⟩, some ⟨true, 0, .lit [.f .f32 fun _ => st, .f .f32 fun _ => sp, .f .f32 fun _ => fd, .sl 1 (.l 0) (.x fun _ => n)]⟩] | .inr i => [some ⟨false, 0, .it .u8 L⟩, some ⟨true, 3, .fl fun _ => l⟩, some ⟨true, 0, .lit [.f .f32 fun _ => st, .f .f32 fun _ => sp, .f .f32 fun _ => fd, .sl 1 (.l 0) (.x fun _ => n)]⟩, some ⟨true, 0, .lit [.f .f32 fun _ => st, .f .f32 fun _ => sp, .f .f32 fun _ => fd, .sl 1 (.l 0) (.x fun _ => n)]⟩])
                    (fun a => match a with | .inl i => i () ≤ n ∧ lead (lowT (runW st sp fd tm n l (0)) s) (i ()) = i () | .inr i => i () < n ∧ lead (lowT (runW st sp fd tm n l (0)) s) n = i ()) (fun a => match a with | .inl i => n + 1 - i () | .inr i => 0) (fun _ => n + 2) ?_ ?_
                · refine .mk (.inl fun _ => 0) ⟨Nat.zero_le _, rfl⟩ (by dsimp only; omega) ?_
                  cbv
                  repeat' (refine Ob.mk ?_ ?_; rotate_left)
                  all_goals (try simp only [Unit.unit, Int.ofNat_lt, Int.ofNat_le, BE.val, IE.val, NE.val, ltB_iff, ltB_no, leB_iff, leB_no, Int.toNat_natCast, Nat.zero_add, Nat.add_zero, Nat.mul_one, forced, beq_iff_eq, beq_eq_false_iff_ne, bne_iff_ne, bne_eq_false_iff_eq] at *)
                  all_goals first | with_reducible rfl | exact True.intro | rfl
                · rintro (i | i) hi2
                  · have hi3 : i ⟨⟩ ≤ n := hi2.1
                    have hi4 : lead (lowT (runW st sp fd tm n l (0)) s) (i ⟨⟩) = i ⟨⟩ := hi2.2
                    cbv
                    by_cases hin : i ⟨⟩ < n
                    · refine Br.t (kj_lt hin) ?_
                      cbv
                      repeat' (refine Ob.mk ?_ ?_; (focus ((try dsimp only [IE.val, NE.val, BE.val]); first | (with_reducible first | exact in3 hLk hin | exact in3b hLk hin | exact in3c hLk hin) | exact in3c hLk hin | exact ⟨Int.natCast_nonneg _, Int.ofNat_lt.2 hin⟩)); cbv)
                      refine Br.mk (fun hg => ?_) (fun hg => ?_)
                      · have hg2 : fcmp .gtr .f32 ((runW st sp fd tm n l (0)).getD (0 + i ⟨⟩ * 3 + 2) 0) s = true := hg
                        rw [Nat.zero_add] at hg2
                        have hlo := lead_stop (n := n) hi4 (low_no hg2) hin
                        cbv
                        repeat' first
                          | (refine Ob.mk ?_ ?_; rotate_left; cbv)
                          | (refine Next.mk (.inr fun _ => i ()) ?_ ?_ ?_)
                        all_goals (try simp only [Unit.unit, Int.ofNat_lt, Int.ofNat_le, BE.val, IE.val, NE.val, ltB_iff, ltB_no, leB_iff, leB_no, Int.toNat_natCast, Nat.zero_add, Nat.add_zero, Nat.mul_one, forced, beq_iff_eq, beq_eq_false_iff_ne, bne_iff_ne, bne_eq_false_iff_eq] at *)
                        all_goals first | with_reducible rfl | exact True.intro | exact ⟨hin, hlo⟩ | omega | exact wrap64_nat (by omega) | rfl
                      · have hg2 : fcmp .gtr .f32 ((runW st sp fd tm n l (0)).getD (0 + i ⟨⟩ * 3 + 2) 0) s = false := hg
                        rw [Nat.zero_add] at hg2
                        have hlo := lead_step hi4 (low_yes hg2)
                        cbv
                        repeat' first
                          | (refine Ob.mk ?_ ?_; rotate_left; cbv)
                          | (refine Next.mk (.inl fun _ => i () + 1) ?_ ?_ ?_)
                        all_goals (try simp only [Unit.unit, Int.ofNat_lt, Int.ofNat_le, BE.val, IE.val, NE.val, ltB_iff, ltB_no, leB_iff, leB_no, Int.toNat_natCast, Nat.zero_add, Nat.add_zero, Nat.mul_one, forced, beq_iff_eq, beq_eq_false_iff_ne, bne_iff_ne, bne_eq_false_iff_eq] at *)
                        all_goals first | with_reducible rfl | exact True.intro | exact ⟨by omega, hlo⟩ | omega | exact wrap64_nat (by omega) | rfl
                    · have hin2 : i ⟨⟩ = n := by omega
                      rw [hin2] at hi4
                      by_cases hkj : 0 < j
                      · have hok := ok_ok (n := n) (k := 0) hwk ht (hbk (0) hkj).2
                        refine Br.f (kj_nlt hin) ?_
                        cbv
                        refine Br.t (kj_lt hkj) ?_
                        cbv
                        refine Br.f (eq_fn (Nat.ne_of_lt hkj)) ?_
                        cbv
                        refine Br.t (kj_lt hkj) ?_
                        cbv
                        repeat' (refine Ob.mk ?_ ?_; (focus ((try dsimp only [IE.val, NE.val, BE.val]); first | (with_reducible first | exact ⟨rfl, runW_len _ _ _ _ _ _ hl _, hn8⟩ | exact hwf) | exact in3c hLk hin | exact ⟨Int.natCast_nonneg _, Int.ofNat_lt.2 hin⟩)); cbv)
                        refine alt_t hok ?_
                        cbv
                        repeat' (refine Ob.mk ?_ ?_; (focus ((try dsimp only [IE.val, NE.val, BE.val]); first | (with_reducible first | exact ⟨rfl, runW_len _ _ _ _ _ _ hl _, hn8⟩ | exact hwf) | exact in3c hLk hin | exact ⟨Int.natCast_nonneg _, Int.ofNat_lt.2 hin⟩)); cbv)
                        refine Br.f (ne_ff rfl) ?_
                        cbv
                        repeat' first
                          | (refine Ob.mk ?_ ?_; rotate_left; cbv)
                          | (refine Next.ren [1, 2, 3, 4] (.inr (.inl fun _ => 0 + 1)) ?_ ?_ ?_)
                        all_goals (try simp only [Unit.unit, Int.ofNat_lt, Int.ofNat_le, BE.val, IE.val, NE.val, ltB_iff, ltB_no, leB_iff, leB_no, Int.toNat_natCast, Nat.zero_add, Nat.add_zero, Nat.mul_one, forced, beq_iff_eq, beq_eq_false_iff_ne, bne_iff_ne, bne_eq_false_iff_eq] at *)
                        all_goals first | with_reducible rfl | exact True.intro | omega | exact ⟨by omega, by omega⟩ | exact wrap64_nat (by omega) | rfl
                      · have hkj2 : 0 = j := by omega
                        exfalso
                        rw [← hkj2] at hj1
                        omega
                  · have hi3 : i ⟨⟩ < n := hi2.1
                    have hi4 : lead (lowT (runW st sp fd tm n l (0)) s) n = i ⟨⟩ := hi2.2
                    cbv
                    by_cases hkj : 0 < j
                    · have h1 := (hbk (0) hkj).1
                      exfalso
                      omega
                    have hkj2 : 0 = j := by omega
                    refine Br.mk (fun h => ?_) (fun h => ?_)
                    · cbv
                      refine Br.f (ltB_no.2 (Int.not_lt.2 (Int.natCast_nonneg _))) ?_
                      cbv
                      refine Br.f (kj_nlt hkj) ?_
                      cbv
                      refine Br.t (eq_tn hkj2) ?_
                      cbv
                      refine Br.f (nat_ne (by rw [← hkj2]; exact hi2.2.symm)) ?_
                      cbv
                      refine Br.f (kj_nlt hkj) ?_
                      cbv
                      repeat' first
                        | (refine Ob.mk ?_ ?_; rotate_left; cbv)
                        | (refine Next.mk (.inr (.inr fun _ => 0)) ?_ ?_ ?_)
                      all_goals (try simp only [Unit.unit, Int.ofNat_lt, Int.ofNat_le, BE.val, IE.val, NE.val, ltB_iff, ltB_no, leB_iff, leB_no, Int.toNat_natCast, Nat.zero_add, Nat.add_zero, Nat.mul_one, forced, beq_iff_eq, beq_eq_false_iff_ne, bne_iff_ne, bne_eq_false_iff_eq] at *)
                      all_goals first | with_reducible rfl | exact True.intro | omega | (rw [← hkj2]; exact wrap64_nat (by omega)) | (rw [← hkj2]; rfl) | rfl
                    · cbv
                      refine Br.f (kj_nlt hkj) ?_
                      cbv
                      refine Br.t (eq_tn hkj2) ?_
                      cbv
                      refine Br.f (nat_ne (by rw [← hkj2]; exact hi2.2.symm)) ?_
                      cbv
                      refine Br.f (kj_nlt hkj) ?_
                      cbv
                      repeat' first
                        | (refine Ob.mk ?_ ?_; rotate_left; cbv)
                        | (refine Next.mk (.inr (.inr fun _ => 0)) ?_ ?_ ?_)
                      all_goals (try simp only [Unit.unit, Int.ofNat_lt, Int.ofNat_le, BE.val, IE.val, NE.val, ltB_iff, ltB_no, leB_iff, leB_no, Int.toNat_natCast, Nat.zero_add, Nat.add_zero, Nat.mul_one, forced, beq_iff_eq, beq_eq_false_iff_ne, bne_iff_ne, bne_eq_false_iff_eq] at *)
                      all_goals first | with_reducible rfl | exact True.intro | omega | (rw [← hkj2]; exact wrap64_nat (by omega)) | (rw [← hkj2]; rfl) | rfl
            · as_aux_lemma =>
                have hkq : k ⟨⟩ ≤ j := hi.2
                have h1k : 1 ≤ k ⟨⟩ := hi.1
                have hwk : webOk st sp fd (runW st sp fd tm n l (k ⟨⟩)) n = true := by
                  have := (hbk (k ⟨⟩ - 1) (by omega)).2
                  rw [show k ⟨⟩ - 1 + 1 = k ⟨⟩ by omega] at this
                  exact this
                have hLk : (runW st sp fd tm n l (k ⟨⟩)).length = 3 * n := runW_len _ _ _ _ _ _ hl _
                cbv
                refine Br.t (kj_le hkq) ?_
                cbv
                refine loop_rule (α := (Unit → Nat) ⊕ (Unit → Nat)) (c := ⟨tt, E23, 1⟩)
                    (fun a => match a with | .inl i => fr 277 [(0, .c (.sl 0 (.x oc) (.x nc))), (1, .c .sn), (5, .c (.p 2 (.l 0))), (7, .c (.f .f32 fun _ => tm)), (6, .c (.f .f32 fun _ => s)), (11, .c (.i .i64 (.x fun _ => (j : Int)))), (12, .c (.i .i64 (.x fun _ => ((lead (lowT (runW st sp fd tm n l (j)) s) n : Nat) : Int)))), (14, .c (.p 3 (.l 0))), (15, .c (.i .i64 (.x fun _ => (k () : Int)))), (16, .c (.i .i64 (.l (-1)))), (17, .c (.i .i64 (.x fun _ => (i () : Int))))] | .inr i => fr 277 [(0, .c (.sl 0 (.x oc) (.x nc))), (1, .c .sn), (5, .c (.p 2 (.l 0))), (7, .c (.f .f32 fun _ => tm)), (6, .c (.f .f32 fun _ => s)), (11, .c (.i .i64 (.x fun _ => (j : Int)))), (12, .c (.i .i64 (.x fun _ => ((lead (lowT (runW st sp fd tm n l (j)) s) n : Nat) : Int)))), (14, .c (.p 3 (.l 0))), (15, .c (.i .i64 (.x fun _ => (k () : Int)))), (16, .c (.i .i64 (.x fun _ => (i () : Int)))), (17, .c (.i .i64 (.x fun _ => ((i () + 1 : Nat) : Int))))]) (fun a => match a with | .inl i => [some ⟨false, 0, .it .u8 L⟩, some ⟨true, 3, .fl fun _ => l⟩, some ⟨true, 0, .lit [.f .f32 fun _ => st, .f .f32 fun _ => sp, .f .f32 fun _ => fd, .sl 1 (.l 0) (.x fun _ => n)]⟩, some ⟨true, 0, .lit [.f .f32 fun _ => st, .f .f32 fun _ => sp, .f .f32 fun _ => fd, .sl 4 (.l 0) (.x fun _ => n)]⟩, some ⟨true, 3, .fl fun _ => runW st sp fd tm n l (k ())⟩] | .inr i => [some ⟨false, 0, .it .u8 L⟩, some ⟨true, 3, .fl fun _ => l⟩, some ⟨true, 0, .lit [.f .f32 fun _ => st, .f .f32 fun _ => sp, .f .f32 fun _ => fd, .sl 1 (.l 0) (.x fun _ => n)]⟩, some ⟨true, 0, .lit [.f .f32 fun _ => st, .f .f32 fun _ => sp, .f .f32 fun _ => fd, .sl 4 (.l 0) (.x fun _ => n)]⟩, some ⟨true, 3, .fl fun _ => runW st sp fd tm n l (k ())⟩])
                    (fun a => match a with | .inl i => i () ≤ n ∧ lead (lowT (runW st sp fd tm n l (k ())) s) (i ()) = i () | .inr i => i () < n ∧ lead (lowT (runW st sp fd tm n l (k ())) s) n = i ()) (fun a => match a with | .inl i => n + 1 - i () | .inr i => 0) (fun _ => n + 2) ?_ ?_
                · refine .mk (.inl fun _ => 0) ⟨Nat.zero_le _, rfl⟩ (by dsimp only; omega) ?_
                  cbv
                  repeat' (refine Ob.mk ?_ ?_; rotate_left)
                  all_goals (try simp only [Unit.unit, Int.ofNat_lt, Int.ofNat_le, BE.val, IE.val, NE.val, ltB_iff, ltB_no, leB_iff, leB_no, Int.toNat_natCast, Nat.zero_add, Nat.add_zero, Nat.mul_one, forced, beq_iff_eq, beq_eq_false_iff_ne, bne_iff_ne, bne_eq_false_iff_eq] at *)
                  all_goals first | with_reducible rfl | exact True.intro | rfl
                · rintro (i | i) hi2
                  · have hi3 : i ⟨⟩ ≤ n := hi2.1
                    have hi4 : lead (lowT (runW st sp fd tm n l (k ⟨⟩)) s) (i ⟨⟩) = i ⟨⟩ := hi2.2
                    cbv
                    by_cases hin : i ⟨⟩ < n
                    · refine Br.t (kj_lt hin) ?_
                      cbv
                      repeat' (refine Ob.mk ?_ ?_; (focus ((try dsimp only [IE.val, NE.val, BE.val]); first | (with_reducible first | exact in3 hLk hin | exact in3b hLk hin | exact in3c hLk hin) | exact in3c hLk hin | exact ⟨Int.natCast_nonneg _, Int.ofNat_lt.2 hin⟩)); cbv)
                      refine Br.mk (fun hg => ?_) (fun hg => ?_)
                      · have hg2 : fcmp .gtr .f32 ((runW st sp fd tm n l (k ⟨⟩)).getD (0 + i ⟨⟩ * 3 + 2) 0) s = true := hg
                        rw [Nat.zero_add] at hg2
                        have hlo := lead_stop (n := n) hi4 (low_no hg2) hin
                        cbv
                        repeat' first
                          | (refine Ob.mk ?_ ?_; rotate_left; cbv)
                          | (refine Next.mk (.inr fun _ => i ()) ?_ ?_ ?_)
                        all_goals (try simp only [Unit.unit, Int.ofNat_lt, Int.ofNat_le, BE.val, IE.val, NE.val, ltB_iff, ltB_no, leB_iff, leB_no, Int.toNat_natCast, Nat.zero_add, Nat.add_zero, Nat.mul_one, forced, beq_iff_eq, beq_eq_false_iff_ne, bne_iff_ne, bne_eq_false_iff_eq] at *)
                        all_goals first | with_reducible rfl | exact True.intro | exact ⟨hin, hlo⟩ | omega | exact wrap64_nat (by omega) | rfl
                      · have hg2 : fcmp .gtr .f32 ((runW st sp fd tm n l (k ⟨⟩)).getD (0 + i ⟨⟩ * 3 + 2) 0) s = false := hg
                        rw [Nat.zero_add] at hg2
                        have hlo := lead_step hi4 (low_yes hg2)
                        cbv
                        repeat' first
                          | (refine Ob.mk ?_ ?_; rotate_left; cbv)
                          | (refine Next.mk (.inl fun _ => i () + 1) ?_ ?_ ?_)
                        all_goals (try simp only [Unit.unit, Int.ofNat_lt, Int.ofNat_le, BE.val, IE.val, NE.val, ltB_iff, ltB_no, leB_iff, leB_no, Int.toNat_natCast, Nat.zero_add, Nat.add_zero, Nat.mul_one, forced, beq_iff_eq, beq_eq_false_iff_ne, bne_iff_ne, bne_eq_false_iff_eq] at *)
                        all_goals first | with_reducible rfl | exact True.intro | exact ⟨by omega, hlo⟩ | omega | exact wrap64_nat (by omega) | rfl
                    · have hin2 : i ⟨⟩ = n := by omega
                      rw [hin2] at hi4
                      by_cases hkj : k ⟨⟩ < j
                      · have hok := ok_ok (n := n) (k := k ⟨⟩) hwk ht (hbk (k ⟨⟩) hkj).2
                        refine Br.f (kj_nlt hin) ?_
                        cbv
                        refine Br.t (kj_lt hkj) ?_
                        cbv
                        refine Br.f (eq_fn (Nat.ne_of_lt hkj)) ?_
                        cbv
                        refine Br.t (kj_lt hkj) ?_
                        cbv
                        repeat' (refine Ob.mk ?_ ?_; (focus ((try dsimp only [IE.val, NE.val, BE.val]); first | (with_reducible first | exact ⟨rfl, runW_len _ _ _ _ _ _ hl _, hn8⟩ | exact hwf) | exact in3c hLk hin | exact ⟨Int.natCast_nonneg _, Int.ofNat_lt.2 hin⟩)); cbv)
                        refine alt_t hok ?_
                        cbv
                        repeat' (refine Ob.mk ?_ ?_; (focus ((try dsimp only [IE.val, NE.val, BE.val]); first | (with_reducible first | exact ⟨rfl, runW_len _ _ _ _ _ _ hl _, hn8⟩ | exact hwf) | exact in3c hLk hin | exact ⟨Int.natCast_nonneg _, Int.ofNat_lt.2 hin⟩)); cbv)
                        refine Br.f (ne_ff rfl) ?_
                        cbv
                        repeat' first
                          | (refine Ob.mk ?_ ?_; rotate_left; cbv)
                          | (refine Next.ren [1, 2, 3, 5] (.inr (.inl fun _ => k () + 1)) ?_ ?_ ?_)
                        all_goals (try simp only [Unit.unit, Int.ofNat_lt, Int.ofNat_le, BE.val, IE.val, NE.val, ltB_iff, ltB_no, leB_iff, leB_no, Int.toNat_natCast, Nat.zero_add, Nat.add_zero, Nat.mul_one, forced, beq_iff_eq, beq_eq_false_iff_ne, bne_iff_ne, bne_eq_false_iff_eq] at *)
                        all_goals first | with_reducible rfl | exact True.intro | omega | exact ⟨by omega, by omega⟩ | exact wrap64_nat (by omega) | rfl
                      · have hkj2 : k ⟨⟩ = j := by omega
                        exfalso
                        rw [← hkj2] at hj1
                        omega
                  · have hi3 : i ⟨⟩ < n := hi2.1
                    have hi4 : lead (lowT (runW st sp fd tm n l (k ⟨⟩)) s) n = i ⟨⟩ := hi2.2
                    cbv
                    by_cases hkj : k ⟨⟩ < j
                    · have h1 := (hbk (k ⟨⟩) hkj).1
                      exfalso
                      omega
                    have hkj2 : k ⟨⟩ = j := by omega
                    refine Br.mk (fun h => ?_) (fun h => ?_)
                    · cbv
                      refine Br.f (ltB_no.2 (Int.not_lt.2 (Int.natCast_nonneg _))) ?_
                      cbv
                      refine Br.f (kj_nlt hkj) ?_
                      cbv
                      refine Br.t (eq_tn hkj2) ?_
                      cbv
                      refine Br.f (nat_ne (by rw [← hkj2]; exact hi2.2.symm)) ?_
                      cbv
                      refine Br.f (kj_nlt hkj) ?_
                      cbv
                      repeat' first
                        | (refine Ob.mk ?_ ?_; rotate_left; cbv)
                        | (refine Next.mk (.inr (.inr fun _ => 0)) ?_ ?_ ?_)
                      all_goals (try simp only [Unit.unit, Int.ofNat_lt, Int.ofNat_le, BE.val, IE.val, NE.val, ltB_iff, ltB_no, leB_iff, leB_no, Int.toNat_natCast, Nat.zero_add, Nat.add_zero, Nat.mul_one, forced, beq_iff_eq, beq_eq_false_iff_ne, bne_iff_ne, bne_eq_false_iff_eq] at *)
                      all_goals first | with_reducible rfl | exact True.intro | omega | (rw [← hkj2]; exact wrap64_nat (by omega)) | (rw [← hkj2]; rfl) | rfl
                    · cbv
                      refine Br.f (kj_nlt hkj) ?_
                      cbv
                      refine Br.t (eq_tn hkj2) ?_
                      cbv
                      refine Br.f (nat_ne (by rw [← hkj2]; exact hi2.2.symm)) ?_
                      cbv
                      refine Br.f (kj_nlt hkj) ?_
                      cbv
                      repeat' first
                        | (refine Ob.mk ?_ ?_; rotate_left; cbv)
                        | (refine Next.mk (.inr (.inr fun _ => 0)) ?_ ?_ ?_)
                      all_goals (try simp only [Unit.unit, Int.ofNat_lt, Int.ofNat_le, BE.val, IE.val, NE.val, ltB_iff, ltB_no, leB_iff, leB_no, Int.toNat_natCast, Nat.zero_add, Nat.add_zero, Nat.mul_one, forced, beq_iff_eq, beq_eq_false_iff_ne, bne_iff_ne, bne_eq_false_iff_eq] at *)
                      all_goals first | with_reducible rfl | exact True.intro | omega | (rw [← hkj2]; exact wrap64_nat (by omega)) | (rw [← hkj2]; rfl) | rfl
            · clear hi
              cbv
              refine Br.f (kj_no) ?_
              cbv
              exact Cut.of rfl ⟨rfl, rfl, rfl, rfl, trivial⟩ rfl hcb
      · subst hc0
        clear hch
        refine Br.f (ne_ff rfl) ?_
        cbv
        refine Br.f (ne_ff rfl) ?_
        cbv
        refine Br.f (ne_ff rfl) ?_
        cbv
        refine Br.t (rfl) ?_
        cbv
        refine Br.f (ne_ff rfl) ?_
        cbv
        refine Br.f (rfl) ?_
        cbv
        exact Cut.of rfl ⟨rfl, rfl, rfl, rfl, trivial⟩ rfl hcb
      · subst hc0
        clear hch
        refine Br.f (ne_ff rfl) ?_
        cbv
        refine Br.f (ne_ff rfl) ?_
        cbv
        refine Br.f (ne_ff rfl) ?_
        cbv
        refine Br.t (rfl) ?_
        cbv
        refine Br.t (rfl) ?_
        cbv
        refine Br.f (ne_ff rfl) ?_
        cbv
        refine Br.f (rfl) ?_
        cbv
        exact Cut.of rfl ⟨rfl, rfl, rfl, rfl, trivial⟩ rfl hcb
    · intro hP f
      obtain ⟨rb, hrb, hb⟩ := pk_nat hby' (k := 20) (by decide) (0, 0)
      have hb : pkV [] 20 (0, 0) = (rb : Int) := hb
      have htm : fop .quo .f32 (floatOfInt .f32 (pkV [] 20 (0, 0))) 1115684864 = fq (rb : Int) 1115684864 := by rw [hb]; rfl
      have hn2 := (drN_bd hby (0, 0)).2.1
      exact rest23b oc nc L hby hP hby' (dr_ok hby (0, 0)) (dr_drawn hby (0, 0)) (dr_len (0, 0)) (drN_bd hby (0, 0)).1 (Nat.le_trans hn2 (by decide)) hrb htm f
  · cases hs
end Go.Proofs.Ythkjlbggipocdaa.Sh
