/- What the law of steady webs where both rows are none of this seat compute, each shown once. No condition. -/
import Derived.Test.YthkjlbggipocdaaVv
set_option linter.unusedVariables false
set_option linter.unusedSimpArgs false
set_option linter.unusedSectionVars false
namespace Go.Proofs.Ythkjlbggipocdaa.Sh
open Go Go.Proofs
attribute [local irreducible] pkV fop floatOfInt
set_option maxRecDepth 100000 in
set_option maxHeartbeats 8000000 in
theorem p3d  (hby : bytesOk []) (hby' : bytesOk []) {st sp fd n : Nat} {l : List Nat} (hw : webOk st sp fd l n = true) (hl : l.length = 3 * n) (hn8 : n ≤ 1048576) :
    wpS Try.prog ⟨tt, E3, 0⟩ (cutR 19 (bodyOf Try.f3)) (finE tt Try.f3.results.toList 0 (.c (.b (.l true))) []) (fr 360 [(0, .c .sn), (1, .c .sn), (5, .c (.p 1 (.l 0)))]) [some ⟨true, 3, .fl fun _ => l⟩, some ⟨true, 0, .lit [.f .f32 fun _ => st, .f .f32 fun _ => sp, .f .f32 fun _ => fd, .sl 0 (.l 0) (.x fun _ => n)]⟩] := by
  have hwf : 0 = 0 ∧ l.length = 3 * n ∧ n ≤ 1048576 := ⟨rfl, hl, hn8⟩
  obtain ⟨rb, hrb, hb⟩ := pk_nat hby' (k := 20) (by decide) (0, 0)
  have hb : pkV [] 20 (0, 0) = (rb : Int) := hb
  have ht : isTime (fop .quo .f32 (floatOfInt .f32 (pkV [] 20 (0, 0))) 1115684864) = true := by rw [hb]; exact allR_at d_time hrb
  obtain ⟨rw, hrw, hw2⟩ := pk_nat hby (k := 64) (by decide) (0, 0)
  have hw2 : pkV [] 64 (0, 0) = (rw : Int) := hw2
  have hf : isFilm (fop .quo .f32 (floatOfInt .f32 (pkV [] 64 (0, 0))) 1082130432) = true := by rw [hw2]; exact allR_at d_film hrw
  have hco := settle_codes hw ht hf
  refine wpS_of (c := ⟨tt, E3, 0⟩) mixed tts E3ok ?_
  cbv
  repeat' (refine Ob.mk ?_ ?_; (focus ((try dsimp only [IE.val, NE.val, BE.val]); first | (with_reducible first | exact True.intro | exact hwf | exact ⟨rfl, runW_len _ _ _ _ _ _ hl _, hn8⟩ | exact ⟨rfl, steadyW_len _ _ _ hl, hn8⟩ | exact ⟨rfl, forTo_len3 _ _ _ _ hl, hn8⟩) | exact in3c hLk hin | exact in3d hLk hin | exact inl hLs hin | exact in3c hLw hin | exact in3d hLw hin | exact ⟨Int.natCast_nonneg _, Int.ofNat_lt.2 hin⟩)); cbv)
  dsimp only [IE.val, NE.val, BE.val]
  generalize fop .quo .f32 (floatOfInt .f32 (pkV [] 20 (0, 0))) 1115684864 = tm at *
  generalize fop .quo .f32 (floatOfInt .f32 (pkV [] 64 (0, 0))) 1082130432 = w at *
  clear hb hw2
  rcases bool_ft ((settleC st sp fd l n tm w 60).1 == 0) with hset | hset
  · have hne : (settleC st sp fd l n tm w 60).1 ≠ 0 := by simpa using hset
    have h00 : (eqW 0 0 && eqW 0 0 && eqW 0 0) = true := by rw [eqW_self]; rfl
    refine alt_f hset ?_
    cbv
    repeat' (refine Ob.mk ?_ ?_; (focus ((try dsimp only [IE.val, NE.val, BE.val]); first | (with_reducible first | exact True.intro | exact hwf | exact ⟨rfl, runW_len _ _ _ _ _ _ hl _, hn8⟩ | exact ⟨rfl, steadyW_len _ _ _ hl, hn8⟩ | exact ⟨rfl, forTo_len3 _ _ _ _ hl, hn8⟩) | exact in3c hLk hin | exact in3d hLk hin | exact inl hLs hin | exact in3c hLw hin | exact in3d hLw hin | exact ⟨Int.natCast_nonneg _, Int.ofNat_lt.2 hin⟩)); cbv)
    refine alt_f hset ?_
    cbv
    repeat' (refine Ob.mk ?_ ?_; (focus ((try dsimp only [IE.val, NE.val, BE.val]); first | (with_reducible first | exact True.intro | exact hwf | exact ⟨rfl, runW_len _ _ _ _ _ _ hl _, hn8⟩ | exact ⟨rfl, steadyW_len _ _ _ hl, hn8⟩ | exact ⟨rfl, forTo_len3 _ _ _ _ hl, hn8⟩) | exact in3c hLk hin | exact in3d hLk hin | exact inl hLs hin | exact in3c hLw hin | exact in3d hLw hin | exact ⟨Int.natCast_nonneg _, Int.ofNat_lt.2 hin⟩)); cbv)
    refine Br.f (ne_ff rfl) ?_
    cbv
    refine Br.f (ne_ff rfl) ?_
    cbv
    repeat' (refine Ob.mk ?_ ?_; (focus ((try dsimp only [IE.val, NE.val, BE.val]); first | (with_reducible first | exact True.intro | exact hwf | exact ⟨rfl, runW_len _ _ _ _ _ _ hl _, hn8⟩ | exact ⟨rfl, steadyW_len _ _ _ hl, hn8⟩ | exact ⟨rfl, forTo_len3 _ _ _ _ hl, hn8⟩) | exact in3c hLk hin | exact in3d hLk hin | exact inl hLs hin | exact in3c hLw hin | exact in3d hLw hin | exact ⟨Int.natCast_nonneg _, Int.ofNat_lt.2 hin⟩)); cbv)
    refine Br.f (nt h00) ?_
    cbv
    refine Br.t (ne_tt hne) ?_
    cbv
    rcases hco with h7 | h7 | h7
    · exact absurd h7 hne
    · refine Br.t (eq_tt h7) ?_
      cbv
      repeat' (refine Ob.mk ?_ ?_; rotate_left; cbv)
      all_goals (try simp only [Unit.unit, Int.ofNat_lt, Int.ofNat_le, BE.val, IE.val, NE.val, ltB_iff, ltB_no, leB_iff, leB_no, Int.toNat_natCast, Nat.zero_add, Nat.add_zero, Nat.mul_one, forced, beq_iff_eq, beq_eq_false_iff_ne, bne_iff_ne, bne_eq_false_iff_eq] at *)
      all_goals first | with_reducible rfl | exact True.intro | exact eq_tt h7 | exact (beq_iff_eq.2 h7) | exact h7 | (rw [h7]; rfl)
    · refine Br.f (eq_47 h7) ?_
      cbv
      repeat' (refine Ob.mk ?_ ?_; rotate_left; cbv)
      all_goals (try simp only [Unit.unit, Int.ofNat_lt, Int.ofNat_le, BE.val, IE.val, NE.val, ltB_iff, ltB_no, leB_iff, leB_no, Int.toNat_natCast, Nat.zero_add, Nat.add_zero, Nat.mul_one, forced, beq_iff_eq, beq_eq_false_iff_ne, bne_iff_ne, bne_eq_false_iff_eq] at *)
      all_goals first | with_reducible rfl | exact True.intro | exact eq_tt h7 | exact (beq_iff_eq.2 h7) | exact h7 | (rw [h7]; rfl)
  · obtain ⟨hc1, hc2, hc3⟩ := settle_char hset
    have hc1 : (settleC st sp fd l n tm w 60).2 ≤ 60 := hc1
    refine alt_t hset ?_
    cbv
    repeat' (refine Ob.mk ?_ ?_; (focus ((try dsimp only [IE.val, NE.val, BE.val]); first | (with_reducible first | exact True.intro | exact hwf | exact ⟨rfl, runW_len _ _ _ _ _ _ hl _, hn8⟩ | exact ⟨rfl, steadyW_len _ _ _ hl, hn8⟩ | exact ⟨rfl, forTo_len3 _ _ _ _ hl, hn8⟩) | exact in3c hLk hin | exact in3d hLk hin | exact inl hLs hin | exact in3c hLw hin | exact in3d hLw hin | exact ⟨Int.natCast_nonneg _, Int.ofNat_lt.2 hin⟩)); cbv)
    refine alt_t hset ?_
    cbv
    repeat' (refine Ob.mk ?_ ?_; (focus ((try dsimp only [IE.val, NE.val, BE.val]); first | (with_reducible first | exact True.intro | exact hwf | exact ⟨rfl, runW_len _ _ _ _ _ _ hl _, hn8⟩ | exact ⟨rfl, steadyW_len _ _ _ hl, hn8⟩ | exact ⟨rfl, forTo_len3 _ _ _ _ hl, hn8⟩) | exact in3c hLk hin | exact in3d hLk hin | exact inl hLs hin | exact in3c hLw hin | exact in3d hLw hin | exact ⟨Int.natCast_nonneg _, Int.ofNat_lt.2 hin⟩)); cbv)
    refine Br.f (ne_ff rfl) ?_
    cbv
    refine Br.f (ne_ff rfl) ?_
    cbv
    repeat' (refine Ob.mk ?_ ?_; (focus ((try dsimp only [IE.val, NE.val, BE.val]); first | (with_reducible first | exact True.intro | exact hwf | exact ⟨rfl, runW_len _ _ _ _ _ _ hl _, hn8⟩ | exact ⟨rfl, steadyW_len _ _ _ hl, hn8⟩ | exact ⟨rfl, forTo_len3 _ _ _ _ hl, hn8⟩) | exact in3c hLk hin | exact in3d hLk hin | exact inl hLs hin | exact in3c hLw hin | exact in3d hLw hin | exact ⟨Int.natCast_nonneg _, Int.ofNat_lt.2 hin⟩)); cbv)
    refine Br.f (nt webSame_self) ?_
    cbv
    refine Br.f (ne_ff rfl) ?_
    cbv
    generalize hC : (settleC st sp fd l n tm w 60).2 = cnt at hc1 hc2 hc3
    generalize hR : runW st sp fd tm n l cnt = r at hc2 hc3
    have hrf : 0 = 0 ∧ r.length = 3 * n ∧ n ≤ 1048576 := ⟨rfl, by rw [← hR]; exact runW_len _ _ _ _ _ _ hl _, hn8⟩
    refine loop_rule (α := Unit → Nat) (c := ⟨tt, E3, 0⟩) (fun i => fr 360 [(37, .c (.f .f32 fun _ => w)), (41, .c (.p 1 (.l 0))), (42, .c (.i .i64 (.x fun _ => (cnt : Int)))), (44, .c (.i .i64 (.x fun _ => (i () : Int))))]) (fun i => [some ⟨true, 3, .fl fun _ => r⟩, some ⟨true, 0, .lit [.f .f32 fun _ => st, .f .f32 fun _ => sp, .f .f32 fun _ => fd, .sl 0 (.l 0) (.x fun _ => n)]⟩]) (fun i => i () ≤ n) (fun i => n - i ()) (fun _ => n + 1) ?_ ?_
    · refine Next.ren [4, 5] (fun _ => 0) (Nat.zero_le _) (by dsimp only; omega) ?_
      cbv
      repeat' (refine Ob.mk ?_ ?_; rotate_left; cbv)
      all_goals (try simp only [Unit.unit, Int.ofNat_lt, Int.ofNat_le, BE.val, IE.val, NE.val, ltB_iff, ltB_no, leB_iff, leB_no, Int.toNat_natCast, Nat.zero_add, Nat.add_zero, Nat.mul_one, forced, beq_iff_eq, beq_eq_false_iff_ne, bne_iff_ne, bne_eq_false_iff_eq] at *)
      all_goals first | with_reducible rfl | exact True.intro | (rw [hC, hR]; done) | (rw [hC]; done) | rfl
    · intro i hi
      have hi1 : i ⟨⟩ ≤ n := hi
      clear hi
      cbv
      by_cases hin : i ⟨⟩ < n
      · refine Br.t (kj_lt hin) ?_
        cbv
        have hask : askedC (webOk st sp fd r n) (i ⟨⟩ : Int) n = 0 := by rw [hc3]; exact asked_0 ⟨Int.natCast_nonneg _, Int.ofNat_lt.2 hin⟩
        have hst : fcmp .leq .f32 (sizeF (if askedC (webOk st sp fd r n) (i ⟨⟩ : Int) n = 0 then rateW st sp fd r (i ⟨⟩) else 0)) w = true := by rw [if_pos hask]; exact still_at hc2 hin
        repeat' (refine Ob.mk ?_ ?_; (focus ((try dsimp only [IE.val, NE.val, BE.val]); first | (with_reducible first | exact hrf | exact True.intro | exact hwf | exact ⟨rfl, runW_len _ _ _ _ _ _ hl _, hn8⟩ | exact ⟨rfl, steadyW_len _ _ _ hl, hn8⟩ | exact ⟨rfl, forTo_len3 _ _ _ _ hl, hn8⟩) | exact in3c hLk hin | exact in3d hLk hin | exact inl hLs hin | exact in3c hLw hin | exact in3d hLw hin | exact ⟨Int.natCast_nonneg _, Int.ofNat_lt.2 hin⟩)); cbv)
        refine Br.f (ne_ff hask) ?_
        cbv
        repeat' (refine Ob.mk ?_ ?_; (focus ((try dsimp only [IE.val, NE.val, BE.val]); first | (with_reducible first | exact True.intro | exact hwf | exact ⟨rfl, runW_len _ _ _ _ _ _ hl _, hn8⟩ | exact ⟨rfl, steadyW_len _ _ _ hl, hn8⟩ | exact ⟨rfl, forTo_len3 _ _ _ _ hl, hn8⟩) | exact in3c hLk hin | exact in3d hLk hin | exact inl hLs hin | exact in3c hLw hin | exact in3d hLw hin | exact ⟨Int.natCast_nonneg _, Int.ofNat_lt.2 hin⟩)); cbv)
        refine Br.f (nt hst) ?_
        cbv
        repeat' first
          | (refine Ob.mk ?_ ?_; rotate_left; cbv)
          | (refine Next.mk (fun _ => i () + 1) ?_ ?_ ?_)
        all_goals (try simp only [Unit.unit, Int.ofNat_lt, Int.ofNat_le, BE.val, IE.val, NE.val, ltB_iff, ltB_no, leB_iff, leB_no, Int.toNat_natCast, Nat.zero_add, Nat.add_zero, Nat.mul_one, forced, beq_iff_eq, beq_eq_false_iff_ne, bne_iff_ne, bne_eq_false_iff_eq] at *)
        all_goals first | with_reducible rfl | exact True.intro | omega | exact wrap64_nat (by omega) | rfl
      · have hin2 : i ⟨⟩ = n := by omega
        refine Br.f (kj_nlt hin) ?_
        cbv
        refine Br.t (leB_iff.2 (Int.natCast_nonneg _)) ?_
        cbv
        repeat' (refine Ob.mk ?_ ?_; rotate_left; cbv)
        all_goals (try simp only [Unit.unit, Int.ofNat_lt, Int.ofNat_le, BE.val, IE.val, NE.val, ltB_iff, ltB_no, leB_iff, leB_no, Int.toNat_natCast, Nat.zero_add, Nat.add_zero, Nat.mul_one, forced, beq_iff_eq, beq_eq_false_iff_ne, bne_iff_ne, bne_eq_false_iff_eq] at *)
        all_goals first | with_reducible rfl | exact True.intro | exact le60 hc1 | (rw [leB_iff]; exact le60 hc1)
set_option maxRecDepth 100000 in
set_option maxHeartbeats 8000000 in
theorem p2d  (hby : bytesOk []) (hby' : bytesOk []) {st sp fd n : Nat} {l : List Nat} (hw : webOk st sp fd l n = true) (hl : l.length = 3 * n) (hn8 : n ≤ 1048576) :
    wpS Try.prog ⟨tt, E3, 0⟩ (cutR 13 (bodyOf Try.f3)) (finE tt Try.f3.results.toList 0 (.c (.b (.l true))) []) (fr 360 [(0, .c .sn), (1, .c .sn), (5, .c (.p 1 (.l 0)))]) [some ⟨true, 3, .fl fun _ => l⟩, some ⟨true, 0, .lit [.f .f32 fun _ => st, .f .f32 fun _ => sp, .f .f32 fun _ => fd, .sl 0 (.l 0) (.x fun _ => n)]⟩] := by
  have hwf : 0 = 0 ∧ l.length = 3 * n ∧ n ≤ 1048576 := ⟨rfl, hl, hn8⟩
  have h1 : (tightW st sp fd l n).1 = (bestT l n : Int) := by rw [tight_ok hw]
  have h2 : (tightW st sp fd l n).2.1 = l.getD (bestT l n * 3 + 2) 0 := by rw [tight_ok hw]
  have h3 : (tightW st sp fd l n).2.2 = 0 := by rw [tight_ok hw]
  have hsl : 0 + (slackL l n).length ≤ (slackL l n).length ∧ (slackL l n).length ≤ 1048576 := ⟨by omega, Nat.le_trans slack_le hn8⟩
  have hrow : (decide ((slackL l n).length = (slackL l n).length) && allI (rowEq 0 0 (slackL l n) (slackL l n)) (slackL l n).length) = true := by rw [rowEq_self]; simp
  refine wpS_cut (c := ⟨tt, E3, 0⟩) mixed tts E3ok 5 (fun _ => fr 360 [(0, .c .sn), (1, .c .sn), (5, .c (.p 1 (.l 0)))]) (fun _ => [some ⟨true, 3, .fl fun _ => l⟩, some ⟨true, 0, .lit [.f .f32 fun _ => st, .f .f32 fun _ => sp, .f .f32 fun _ => fd, .sl 0 (.l 0) (.x fun _ => n)]⟩]) (fun _ => True) (by rfl) ?_ (fun _ => by rw [cut_13_5]; exact p3d hby hby' hw hl hn8)
  cbv
  repeat' (refine Ob.mk ?_ ?_; (focus ((try dsimp only [IE.val, NE.val, BE.val]); first | (with_reducible first | exact True.intro | exact hwf | exact ⟨rfl, runW_len _ _ _ _ _ _ hl _, hn8⟩ | exact ⟨rfl, steadyW_len _ _ _ hl, hn8⟩ | exact ⟨rfl, forTo_len3 _ _ _ _ hl, hn8⟩) | exact in3c hLk hin | exact in3d hLk hin | exact inl hLs hin | exact in3c hLw hin | exact in3d hLw hin | exact ⟨Int.natCast_nonneg _, Int.ofNat_lt.2 hin⟩)); cbv)
  refine alt_t hw ?_
  cbv
  repeat' (refine Ob.mk ?_ ?_; (focus ((try dsimp only [IE.val, NE.val, BE.val]); first | (with_reducible first | exact True.intro | exact hwf | exact ⟨rfl, runW_len _ _ _ _ _ _ hl _, hn8⟩ | exact ⟨rfl, steadyW_len _ _ _ hl, hn8⟩ | exact ⟨rfl, forTo_len3 _ _ _ _ hl, hn8⟩) | exact in3c hLk hin | exact in3d hLk hin | exact inl hLs hin | exact in3c hLw hin | exact in3d hLw hin | exact ⟨Int.natCast_nonneg _, Int.ofNat_lt.2 hin⟩)); cbv)
  refine alt_t hw ?_
  cbv
  repeat' (refine Ob.mk ?_ ?_; (focus ((try dsimp only [IE.val, NE.val, BE.val]); first | (with_reducible first | exact True.intro | exact hwf | exact ⟨rfl, runW_len _ _ _ _ _ _ hl _, hn8⟩ | exact ⟨rfl, steadyW_len _ _ _ hl, hn8⟩ | exact ⟨rfl, forTo_len3 _ _ _ _ hl, hn8⟩) | exact in3c hLk hin | exact in3d hLk hin | exact inl hLs hin | exact in3c hLw hin | exact in3d hLw hin | exact ⟨Int.natCast_nonneg _, Int.ofNat_lt.2 hin⟩)); cbv)
  dsimp only [IE.val, NE.val, BE.val]
  generalize (tightW st sp fd l n).1 = t1 at *
  generalize (tightW st sp fd l n).2.1 = t2 at *
  generalize (tightW st sp fd l n).2.2 = t3 at *
  refine Br.f (ne_ff rfl) ?_
  cbv
  refine Br.f (ne_ff h3) ?_
  cbv
  refine Br.f (ne_ff rfl) ?_
  cbv
  repeat' (refine Ob.mk ?_ ?_; (focus ((try dsimp only [IE.val, NE.val, BE.val]); first | (with_reducible first | exact True.intro | exact hwf | exact ⟨rfl, runW_len _ _ _ _ _ _ hl _, hn8⟩ | exact ⟨rfl, steadyW_len _ _ _ hl, hn8⟩ | exact ⟨rfl, forTo_len3 _ _ _ _ hl, hn8⟩) | exact in3c hLk hin | exact in3d hLk hin | exact inl hLs hin | exact in3c hLw hin | exact in3d hLw hin | exact ⟨Int.natCast_nonneg _, Int.ofNat_lt.2 hin⟩)); cbv)
  refine Br.f (nt (eqW_self _)) ?_
  cbv
  refine Br.f (ne_ff rfl) ?_
  cbv
  refine Br.f (ne_ff rfl) ?_
  cbv
  repeat' (refine Ob.mk ?_ ?_; (focus ((try dsimp only [IE.val, NE.val, BE.val]); first | (with_reducible first | exact True.intro | exact hwf | exact ⟨rfl, runW_len _ _ _ _ _ _ hl _, hn8⟩ | exact ⟨rfl, steadyW_len _ _ _ hl, hn8⟩ | exact ⟨rfl, forTo_len3 _ _ _ _ hl, hn8⟩ | exact hsl) | exact in3c hLk hin | exact in3d hLk hin | exact inl hLs hin | exact in3c hLw hin | exact in3d hLw hin | exact ⟨Int.natCast_nonneg _, Int.ofNat_lt.2 hin⟩)); cbv)
  refine Br.f (nt hrow) ?_
  cbv
  refine loop_rule (α := Unit → Nat) (c := ⟨tt, E3, 0⟩) (fun i => fr 360 [(0, .c .sn), (1, .c .sn), (5, .c (.p 1 (.l 0))), (27, .c (.i .i64 (.x fun _ => t1))), (28, .c (.f .f32 fun _ => t2)), (32, .c (.sl 2 (.l 0) (.x fun _ => (slackL l n).length))), (34, .c (.i .i64 (.x fun _ => (i () : Int))))]) (fun i => [some ⟨true, 3, .fl fun _ => l⟩, some ⟨true, 0, .lit [.f .f32 fun _ => st, .f .f32 fun _ => sp, .f .f32 fun _ => fd, .sl 0 (.l 0) (.x fun _ => n)]⟩, some ⟨true, 1, .it .i64 fun _ => slackL l n⟩]) (fun i => i () ≤ n) (fun i => n - i ()) (fun _ => n + 1) ?_ ?_
  · refine Next.ren [0, 1, 3] (fun _ => 0) (Nat.zero_le _) (by dsimp only; omega) ?_
    cbv
    repeat' (refine Ob.mk ?_ ?_; rotate_left; cbv)
    all_goals (try simp only [Unit.unit, Int.ofNat_lt, Int.ofNat_le, BE.val, IE.val, NE.val, ltB_iff, ltB_no, leB_iff, leB_no, Int.toNat_natCast, Nat.zero_add, Nat.add_zero, Nat.mul_one, forced, beq_iff_eq, beq_eq_false_iff_ne, bne_iff_ne, bne_eq_false_iff_eq] at *)
    all_goals first | with_reducible rfl | exact True.intro | rfl
  · intro i hi
    have hi1 : i ⟨⟩ ≤ n := hi
    clear hi
    cbv
    by_cases hin : i ⟨⟩ < n
    · refine Br.t (kj_lt hin) ?_
      cbv
      have hLk := hl
      have hg1 : fcmp .gtr .f32 (l.getD (0 + i ⟨⟩ * 3 + 2) 0) t2 = false := by rw [h2, Nat.zero_add]; exact tight_le hw hin
      have hg2 : ((!allI (hasI 0 (slackL l n) (i ⟨⟩ : Int)) (slackL l n).length) == fcmp .gtr .f32 (l.getD (0 + i ⟨⟩ * 3 + 2) 0) 0) = false := by rw [slack_has hin, Nat.zero_add]; cases fcmp .gtr .f32 (l.getD (i ⟨⟩ * 3 + 2) 0) 0 <;> rfl
      repeat' (refine Ob.mk ?_ ?_; (focus ((try dsimp only [IE.val, NE.val, BE.val]); first | (with_reducible first | exact True.intro | exact hwf | exact ⟨rfl, runW_len _ _ _ _ _ _ hl _, hn8⟩ | exact ⟨rfl, steadyW_len _ _ _ hl, hn8⟩ | exact ⟨rfl, forTo_len3 _ _ _ _ hl, hn8⟩) | exact in3c hLk hin | exact in3d hLk hin | exact inl hLs hin | exact in3c hLw hin | exact in3d hLw hin | exact ⟨Int.natCast_nonneg _, Int.ofNat_lt.2 hin⟩)); cbv)
      refine Br.f (hg1) ?_
      cbv
      refine Br.mk (fun hlt => ?_) (fun _ => ?_)
      · have hg3 : fcmp .geq .f32 (l.getD (0 + i ⟨⟩ * 3 + 2) 0) t2 = false := by
          rw [h2, Nat.zero_add]
          rw [h1] at hlt
          exact tight_lt hw (Int.ofNat_lt.1 (ltB_iff.1 hlt))
        cbv
        refine Br.f (hg3) ?_
        cbv
        repeat' (refine Ob.mk ?_ ?_; (focus ((try dsimp only [IE.val, NE.val, BE.val]); first | (with_reducible first | exact True.intro | exact hwf | exact ⟨rfl, runW_len _ _ _ _ _ _ hl _, hn8⟩ | exact ⟨rfl, steadyW_len _ _ _ hl, hn8⟩ | exact ⟨rfl, forTo_len3 _ _ _ _ hl, hn8⟩ | exact hsl) | exact in3c hLk hin | exact in3d hLk hin | exact inl hLs hin | exact in3c hLw hin | exact in3d hLw hin | exact ⟨Int.natCast_nonneg _, Int.ofNat_lt.2 hin⟩)); cbv)
        refine Br.f (hg2) ?_
        cbv
        repeat' first
          | (refine Ob.mk ?_ ?_; rotate_left; cbv)
          | (refine Next.mk (fun _ => i () + 1) ?_ ?_ ?_)
        all_goals (try simp only [Unit.unit, Int.ofNat_lt, Int.ofNat_le, BE.val, IE.val, NE.val, ltB_iff, ltB_no, leB_iff, leB_no, Int.toNat_natCast, Nat.zero_add, Nat.add_zero, Nat.mul_one, forced, beq_iff_eq, beq_eq_false_iff_ne, bne_iff_ne, bne_eq_false_iff_eq] at *)
        all_goals first | with_reducible rfl | exact True.intro | omega | exact wrap64_nat (by omega) | rfl
      cbv
      repeat' (refine Ob.mk ?_ ?_; (focus ((try dsimp only [IE.val, NE.val, BE.val]); first | (with_reducible first | exact True.intro | exact hwf | exact ⟨rfl, runW_len _ _ _ _ _ _ hl _, hn8⟩ | exact ⟨rfl, steadyW_len _ _ _ hl, hn8⟩ | exact ⟨rfl, forTo_len3 _ _ _ _ hl, hn8⟩ | exact hsl) | exact in3c hLk hin | exact in3d hLk hin | exact inl hLs hin | exact in3c hLw hin | exact in3d hLw hin | exact ⟨Int.natCast_nonneg _, Int.ofNat_lt.2 hin⟩)); cbv)
      refine Br.f (hg2) ?_
      cbv
      repeat' first
        | (refine Ob.mk ?_ ?_; rotate_left; cbv)
        | (refine Next.mk (fun _ => i () + 1) ?_ ?_ ?_)
      all_goals (try simp only [Unit.unit, Int.ofNat_lt, Int.ofNat_le, BE.val, IE.val, NE.val, ltB_iff, ltB_no, leB_iff, leB_no, Int.toNat_natCast, Nat.zero_add, Nat.add_zero, Nat.mul_one, forced, beq_iff_eq, beq_eq_false_iff_ne, bne_iff_ne, bne_eq_false_iff_eq] at *)
      all_goals first | with_reducible rfl | exact True.intro | omega | exact wrap64_nat (by omega) | rfl
    · have hin2 : i ⟨⟩ = n := by omega
      refine Br.f (kj_nlt hin) ?_
      cbv
      refine CutG.mk (trivial) ?_
      cbv
      repeat' (refine Ob.mk ?_ ?_; rotate_left; cbv)
      all_goals (try simp only [Unit.unit, Int.ofNat_lt, Int.ofNat_le, BE.val, IE.val, NE.val, ltB_iff, ltB_no, leB_iff, leB_no, Int.toNat_natCast, Nat.zero_add, Nat.add_zero, Nat.mul_one, forced, beq_iff_eq, beq_eq_false_iff_ne, bne_iff_ne, bne_eq_false_iff_eq] at *)
      all_goals first | with_reducible rfl | exact True.intro | rfl
set_option maxRecDepth 100000 in
set_option maxHeartbeats 8000000 in
theorem p1d  (hby : bytesOk []) (hby' : bytesOk []) {st sp fd n : Nat} {l : List Nat} (hw : webOk st sp fd l n = true) (hl : l.length = 3 * n) (hn8 : n ≤ 1048576) :
    wpS Try.prog ⟨tt, E3, 0⟩ (cutR 12 (bodyOf Try.f3)) (finE tt Try.f3.results.toList 0 (.c (.b (.l true))) []) (fr 360 [(0, .c .sn), (1, .c .sn), (5, .c (.p 1 (.l 0))), (8, .c (.i .i64 (.l 0))), (9, .c (.sl 2 (.l 0) (.x fun _ => n))), (13, .c (.p 4 (.l 0)))]) [some ⟨true, 3, .fl fun _ => l⟩, some ⟨true, 0, .lit [.f .f32 fun _ => st, .f .f32 fun _ => sp, .f .f32 fun _ => fd, .sl 0 (.l 0) (.x fun _ => n)]⟩, some ⟨true, 1, .fl fun _ => steadyL st sp fd l n⟩, some ⟨true, 3, .fl fun _ => steadyW st sp fd l n⟩, some ⟨true, 0, .lit [.f .f32 fun _ => st, .f .f32 fun _ => sp, .f .f32 fun _ => fd, .sl 3 (.l 0) (.x fun _ => n)]⟩] := by
  have hwf : 0 = 0 ∧ l.length = 3 * n ∧ n ≤ 1048576 := ⟨rfl, hl, hn8⟩
  have hLw : (steadyW st sp fd l n).length = 3 * n := steadyW_len _ _ _ hl
  have hLs : (steadyL st sp fd l n).length = n := steadyL_len _ _ _ _ _
  refine wpS_cut (c := ⟨tt, E3, 0⟩) mixed tts E3ok 0 (fun _ => fr 360 [(0, .c .sn), (1, .c .sn), (5, .c (.p 1 (.l 0)))]) (fun _ => [some ⟨true, 3, .fl fun _ => l⟩, some ⟨true, 0, .lit [.f .f32 fun _ => st, .f .f32 fun _ => sp, .f .f32 fun _ => fd, .sl 0 (.l 0) (.x fun _ => n)]⟩]) (fun _ => True) (by rfl) ?_ (fun _ => by rw [cut_12_0]; exact p2d hby hby' hw hl hn8)
  cbv
  repeat' (refine Ob.mk ?_ ?_; (focus ((try dsimp only [IE.val, NE.val, BE.val]); first | (with_reducible first | exact True.intro | exact hwf | exact ⟨rfl, runW_len _ _ _ _ _ _ hl _, hn8⟩ | exact ⟨rfl, steadyW_len _ _ _ hl, hn8⟩ | exact ⟨rfl, forTo_len3 _ _ _ _ hl, hn8⟩) | exact in3c hLk hin | exact in3d hLk hin | exact inl hLs hin | exact in3c hLw hin | exact in3d hLw hin | exact ⟨Int.natCast_nonneg _, Int.ofNat_lt.2 hin⟩)); cbv)
  refine Br.f (ne_ff rfl) ?_
  cbv
  refine Br.f (ne_ff rfl) ?_
  cbv
  refine loop_rule (α := Unit → Nat) (c := ⟨tt, E3, 0⟩) (fun i => fr 360 [(0, .c .sn), (1, .c .sn), (5, .c (.p 1 (.l 0))), (9, .c (.sl 2 (.l 0) (.x fun _ => n))), (13, .c (.p 4 (.l 0))), (23, .c (.i .i64 (.x fun _ => (i () : Int))))]) (fun i => [some ⟨true, 3, .fl fun _ => l⟩, some ⟨true, 0, .lit [.f .f32 fun _ => st, .f .f32 fun _ => sp, .f .f32 fun _ => fd, .sl 0 (.l 0) (.x fun _ => n)]⟩, some ⟨true, 1, .fl fun _ => steadyL st sp fd l n⟩, some ⟨true, 3, .fl fun _ => steadyW st sp fd l n⟩, some ⟨true, 0, .lit [.f .f32 fun _ => st, .f .f32 fun _ => sp, .f .f32 fun _ => fd, .sl 3 (.l 0) (.x fun _ => n)]⟩]) (fun i => i () ≤ n) (fun i => n - i ()) (fun _ => n + 1) ?_ ?_
  · refine Next.mk (fun _ => 0) (Nat.zero_le _) (by dsimp only; omega) ?_
    cbv
    repeat' (refine Ob.mk ?_ ?_; rotate_left; cbv)
    all_goals (try simp only [Unit.unit, Int.ofNat_lt, Int.ofNat_le, BE.val, IE.val, NE.val, ltB_iff, ltB_no, leB_iff, leB_no, Int.toNat_natCast, Nat.zero_add, Nat.add_zero, Nat.mul_one, forced, beq_iff_eq, beq_eq_false_iff_ne, bne_iff_ne, bne_eq_false_iff_eq] at *)
    all_goals first | with_reducible rfl | exact True.intro | rfl
  · intro i hi
    have hi1 : i ⟨⟩ ≤ n := hi
    clear hi
    cbv
    by_cases hin : i ⟨⟩ < n
    · refine Br.t (kj_lt hin) ?_
      cbv
      have hLk := hl
      have hg1 : eqW ((steadyW st sp fd l n).getD (0 + i ⟨⟩ * 3 + 2) 0) ((steadyL st sp fd l n).getD (0 + i ⟨⟩ * 1) 0) = true := by rw [Nat.zero_add, Nat.zero_add, Nat.mul_one]; exact steady_same st sp fd hin
      have hg2 : fcmp .neq .f32 ((steadyW st sp fd l n).getD (0 + i ⟨⟩ * 3 + 1) 0) (l.getD (0 + i ⟨⟩ * 3 + 1) 0) = false := by rw [Nat.zero_add]; exact steady_keeps hw hin
      refine Lex.mk (by decide +kernel) ?_
      cbv
      repeat' (refine Ob.mk ?_ ?_; (focus ((try dsimp only [IE.val, NE.val, BE.val]); first | (with_reducible first | exact True.intro | exact hwf | exact ⟨rfl, runW_len _ _ _ _ _ _ hl _, hn8⟩ | exact ⟨rfl, steadyW_len _ _ _ hl, hn8⟩ | exact ⟨rfl, forTo_len3 _ _ _ _ hl, hn8⟩) | exact in3c hLk hin | exact in3d hLk hin | exact inl hLs hin | exact in3c hLw hin | exact in3d hLw hin | exact ⟨Int.natCast_nonneg _, Int.ofNat_lt.2 hin⟩)); cbv)
      refine Br.f (nt hg1) ?_
      cbv
      repeat' (refine Ob.mk ?_ ?_; (focus ((try dsimp only [IE.val, NE.val, BE.val]); first | (with_reducible first | exact True.intro | exact hwf | exact ⟨rfl, runW_len _ _ _ _ _ _ hl _, hn8⟩ | exact ⟨rfl, steadyW_len _ _ _ hl, hn8⟩ | exact ⟨rfl, forTo_len3 _ _ _ _ hl, hn8⟩) | exact in3c hLk hin | exact in3d hLk hin | exact inl hLs hin | exact in3c hLw hin | exact in3d hLw hin | exact ⟨Int.natCast_nonneg _, Int.ofNat_lt.2 hin⟩)); cbv)
      refine Br.f (hg2) ?_
      cbv
      repeat' first
        | (refine Ob.mk ?_ ?_; rotate_left; cbv)
        | (refine Next.mk (fun _ => i () + 1) ?_ ?_ ?_)
      all_goals (try simp only [Unit.unit, Int.ofNat_lt, Int.ofNat_le, BE.val, IE.val, NE.val, ltB_iff, ltB_no, leB_iff, leB_no, Int.toNat_natCast, Nat.zero_add, Nat.add_zero, Nat.mul_one, forced, beq_iff_eq, beq_eq_false_iff_ne, bne_iff_ne, bne_eq_false_iff_eq] at *)
      all_goals first | with_reducible rfl | exact True.intro | omega | exact wrap64_nat (by omega) | rfl
    · have hin2 : i ⟨⟩ = n := by omega
      refine Br.f (kj_nlt hin) ?_
      cbv
      refine CutG.mk (trivial) ?_
      cbv
      repeat' (refine Ob.mk ?_ ?_; rotate_left; cbv)
      all_goals (try simp only [Unit.unit, Int.ofNat_lt, Int.ofNat_le, BE.val, IE.val, NE.val, ltB_iff, ltB_no, leB_iff, leB_no, Int.toNat_natCast, Nat.zero_add, Nat.add_zero, Nat.mul_one, forced, beq_iff_eq, beq_eq_false_iff_ne, bne_iff_ne, bne_eq_false_iff_eq] at *)
      all_goals first | with_reducible rfl | exact True.intro | rfl
def sLaw3d : Spec := hspec fun args H => match args, H with
  | [.c .sn, .c .sn], [] => some (.c (.b (.l true)), [], [])
  | _, _ => none
set_option maxRecDepth 100000 in
set_option maxHeartbeats 16000000 in
theorem ok3d : Ok Try.prog 3 (sLaw3d) := ok_of_wpSH (E := E3) tts fn3 fun args H v H' o hs ho => by
  split at hs
  · cases hs
    have hby := bytes_nil
    have hby' := bytes_nil
    rcases bool_ft (steadyC (drSt [] (0, 0)) (drSp [] (0, 0)) (drFd [] (0, 0)) (drW [] (0, 0)) (drN [] (0, 0)) == 0) with hq | hq
    · refine ⟨_, HLe.refl _, wpS_cut (c := ⟨tt, E3, 0⟩) mixed tts E3ok 13 (fun _ => fr 360 [(0, .c .sn), (1, .c .sn), (5, .c (.p 1 (.l 0)))]) (fun _ => [some ⟨true, 3, .fl fun _ => drW [] (0, 0)⟩, some ⟨true, 0, .lit [.f .f32 fun _ => drSt [] (0, 0), .f .f32 fun _ => drSp [] (0, 0), .f .f32 fun _ => drFd [] (0, 0), .sl 0 (.l 0) (.x fun _ => drN [] (0, 0))]⟩]) (fun _ => True) (by rfl) ?_ (fun hP => p2d hby hby' (dr_ok hby (0, 0)) (dr_len (0, 0)) (Nat.le_trans (drN_bd hby (0, 0)).2.1 (by decide)))⟩
      cbv
      have hw := dr_ok hby (0, 0)
      have hl := dr_len (L := []) (0, 0)
      have hn8 : drN [] (0, 0) ≤ 1048576 := Nat.le_trans (drN_bd hby (0, 0)).2.1 (by decide)
      have hwf : 0 = 0 ∧ (drW [] (0, 0)).length = 3 * drN [] (0, 0) ∧ drN [] (0, 0) ≤ 1048576 := ⟨rfl, hl, hn8⟩
      repeat' (refine Ob.mk ?_ ?_; (focus ((try dsimp only [IE.val, NE.val, BE.val]); first | (with_reducible first | exact True.intro | exact hwf | exact ⟨rfl, runW_len _ _ _ _ _ _ hl _, hn8⟩ | exact ⟨rfl, steadyW_len _ _ _ hl, hn8⟩ | exact ⟨rfl, forTo_len3 _ _ _ _ hl, hn8⟩) | exact in3c hLk hin | exact in3d hLk hin | exact inl hLs hin | exact in3c hLw hin | exact in3d hLw hin | exact ⟨Int.natCast_nonneg _, Int.ofNat_lt.2 hin⟩)); cbv)
      generalize drSt [] (0, 0) = st at *
      generalize drSp [] (0, 0) = sp at *
      generalize drFd [] (0, 0) = fd at *
      generalize drW [] (0, 0) = l at *
      generalize drN [] (0, 0) = n at *
      dsimp only [IE.val, NE.val, BE.val]
      generalize fop .quo .f32 (floatOfInt .f32 (pkV [] 80 (0, 0))) 1082130432 = te at *
      have hLs : 0 + n ≤ (steadyL st sp fd l n).length ∧ n ≤ 1048576 := ⟨by rw [steadyL_len]; omega, hn8⟩
      have hrow : (decide (n = n) && allI (rowSame eqW 0 0 (steadyL st sp fd l n) (steadyL st sp fd l n)) n) = true := by rw [rows_self]; simp
      have h00 : (eqW 0 0 && eqW 0 0 && eqW 0 0) = true := by rw [eqW_self]; rfl
      refine alt_f hq ?_
      cbv
      repeat' (refine Ob.mk ?_ ?_; (focus ((try dsimp only [IE.val, NE.val, BE.val]); first | (with_reducible first | exact True.intro | exact hwf | exact ⟨rfl, runW_len _ _ _ _ _ _ hl _, hn8⟩ | exact ⟨rfl, steadyW_len _ _ _ hl, hn8⟩ | exact ⟨rfl, forTo_len3 _ _ _ _ hl, hn8⟩) | exact in3c hLk hin | exact in3d hLk hin | exact inl hLs hin | exact in3c hLw hin | exact in3d hLw hin | exact ⟨Int.natCast_nonneg _, Int.ofNat_lt.2 hin⟩)); cbv)
      refine alt_f hq ?_
      cbv
      repeat' (refine Ob.mk ?_ ?_; (focus ((try dsimp only [IE.val, NE.val, BE.val]); first | (with_reducible first | exact True.intro | exact hwf | exact ⟨rfl, runW_len _ _ _ _ _ _ hl _, hn8⟩ | exact ⟨rfl, steadyW_len _ _ _ hl, hn8⟩ | exact ⟨rfl, forTo_len3 _ _ _ _ hl, hn8⟩) | exact in3c hLk hin | exact in3d hLk hin | exact inl hLs hin | exact in3c hLw hin | exact in3d hLw hin | exact ⟨Int.natCast_nonneg _, Int.ofNat_lt.2 hin⟩)); cbv)
      refine alt_f hq ?_
      cbv
      repeat' (refine Ob.mk ?_ ?_; (focus ((try dsimp only [IE.val, NE.val, BE.val]); first | (with_reducible first | exact True.intro | exact hwf | exact ⟨rfl, runW_len _ _ _ _ _ _ hl _, hn8⟩ | exact ⟨rfl, steadyW_len _ _ _ hl, hn8⟩ | exact ⟨rfl, forTo_len3 _ _ _ _ hl, hn8⟩) | exact in3c hLk hin | exact in3d hLk hin | exact inl hLs hin | exact in3c hLw hin | exact in3d hLw hin | exact ⟨Int.natCast_nonneg _, Int.ofNat_lt.2 hin⟩)); cbv)
      refine alt_f hq ?_
      cbv
      repeat' (refine Ob.mk ?_ ?_; (focus ((try dsimp only [IE.val, NE.val, BE.val]); first | (with_reducible first | exact True.intro | exact hwf | exact ⟨rfl, runW_len _ _ _ _ _ _ hl _, hn8⟩ | exact ⟨rfl, steadyW_len _ _ _ hl, hn8⟩ | exact ⟨rfl, forTo_len3 _ _ _ _ hl, hn8⟩) | exact in3c hLk hin | exact in3d hLk hin | exact inl hLs hin | exact in3c hLw hin | exact in3d hLw hin | exact ⟨Int.natCast_nonneg _, Int.ofNat_lt.2 hin⟩)); cbv)
      rcases bool_ft (forC st sp fd l n te == 0) with hfc | hfc
      · as_aux_lemma =>
          refine alt_f hfc ?_
          cbv
          repeat' (refine Ob.mk ?_ ?_; (focus ((try dsimp only [IE.val, NE.val, BE.val]); first | (with_reducible first | exact True.intro | exact hwf | exact ⟨rfl, runW_len _ _ _ _ _ _ hl _, hn8⟩ | exact ⟨rfl, steadyW_len _ _ _ hl, hn8⟩ | exact ⟨rfl, forTo_len3 _ _ _ _ hl, hn8⟩) | exact in3c hLk hin | exact in3d hLk hin | exact inl hLs hin | exact in3c hLw hin | exact in3d hLw hin | exact ⟨Int.natCast_nonneg _, Int.ofNat_lt.2 hin⟩)); cbv)
          refine alt_f hfc ?_
          cbv
          repeat' (refine Ob.mk ?_ ?_; (focus ((try dsimp only [IE.val, NE.val, BE.val]); first | (with_reducible first | exact True.intro | exact hwf | exact ⟨rfl, runW_len _ _ _ _ _ _ hl _, hn8⟩ | exact ⟨rfl, steadyW_len _ _ _ hl, hn8⟩ | exact ⟨rfl, forTo_len3 _ _ _ _ hl, hn8⟩) | exact in3c hLk hin | exact in3d hLk hin | exact inl hLs hin | exact in3c hLw hin | exact in3d hLw hin | exact ⟨Int.natCast_nonneg _, Int.ofNat_lt.2 hin⟩)); cbv)
          refine Br.f (ne_ff rfl) ?_
          cbv
          repeat' (refine Ob.mk ?_ ?_; (focus ((try dsimp only [IE.val, NE.val, BE.val]); first | (with_reducible first | exact True.intro | exact hwf | exact ⟨rfl, runW_len _ _ _ _ _ _ hl _, hn8⟩ | exact ⟨rfl, steadyW_len _ _ _ hl, hn8⟩ | exact ⟨rfl, forTo_len3 _ _ _ _ hl, hn8⟩) | exact in3c hLk hin | exact in3d hLk hin | exact inl hLs hin | exact in3c hLw hin | exact in3d hLw hin | exact ⟨Int.natCast_nonneg _, Int.ofNat_lt.2 hin⟩)); cbv)
          refine Br.f (nt (decide_eq_true rfl)) ?_
          cbv
          refine Br.f (ne_ff rfl) ?_
          cbv
          refine Br.f (ne_ff rfl) ?_
          cbv
          repeat' (refine Ob.mk ?_ ?_; (focus ((try dsimp only [IE.val, NE.val, BE.val]); first | (with_reducible first | exact True.intro | exact hwf | exact ⟨rfl, runW_len _ _ _ _ _ _ hl _, hn8⟩ | exact ⟨rfl, steadyW_len _ _ _ hl, hn8⟩ | exact ⟨rfl, forTo_len3 _ _ _ _ hl, hn8⟩) | exact in3c hLk hin | exact in3d hLk hin | exact inl hLs hin | exact in3c hLw hin | exact in3d hLw hin | exact ⟨Int.natCast_nonneg _, Int.ofNat_lt.2 hin⟩)); cbv)
          refine Br.f (nt h00) ?_
          cbv
          refine Br.f (ne_ff rfl) ?_
          cbv
          repeat' (refine Ob.mk ?_ ?_; (focus ((try dsimp only [IE.val, NE.val, BE.val]); first | (with_reducible first | exact True.intro | exact hwf | exact ⟨rfl, runW_len _ _ _ _ _ _ hl _, hn8⟩ | exact ⟨rfl, steadyW_len _ _ _ hl, hn8⟩ | exact ⟨rfl, forTo_len3 _ _ _ _ hl, hn8⟩) | exact in3c hLk hin | exact in3d hLk hin | exact inl hLs hin | exact in3c hLw hin | exact in3d hLw hin | exact ⟨Int.natCast_nonneg _, Int.ofNat_lt.2 hin⟩)); cbv)
          refine Br.f (nt h00) ?_
          cbv
          refine Br.f (ne_ff rfl) ?_
          cbv
          repeat' (refine Ob.mk ?_ ?_; (focus ((try dsimp only [IE.val, NE.val, BE.val]); first | (with_reducible first | exact True.intro | exact hwf | exact ⟨rfl, runW_len _ _ _ _ _ _ hl _, hn8⟩ | exact ⟨rfl, steadyW_len _ _ _ hl, hn8⟩ | exact ⟨rfl, forTo_len3 _ _ _ _ hl, hn8⟩) | exact in3c hLk hin | exact in3d hLk hin | exact inl hLs hin | exact in3c hLw hin | exact in3d hLw hin | exact ⟨Int.natCast_nonneg _, Int.ofNat_lt.2 hin⟩)); cbv)
          refine Br.f (nt (eqW_self _)) ?_
          cbv
          refine Br.f (hq) ?_
          cbv
          refine CutG.mk (trivial) ?_
          cbv
          repeat' (refine Ob.mk ?_ ?_; rotate_left; cbv)
          all_goals (try simp only [Unit.unit, Int.ofNat_lt, Int.ofNat_le, BE.val, IE.val, NE.val, ltB_iff, ltB_no, leB_iff, leB_no, Int.toNat_natCast, Nat.zero_add, Nat.add_zero, Nat.mul_one, forced, beq_iff_eq, beq_eq_false_iff_ne, bne_iff_ne, bne_eq_false_iff_eq] at *)
          all_goals first | with_reducible rfl | exact True.intro | rfl
      · as_aux_lemma =>
          refine alt_t hfc ?_
          cbv
          repeat' (refine Ob.mk ?_ ?_; (focus ((try dsimp only [IE.val, NE.val, BE.val]); first | (with_reducible first | exact True.intro | exact hwf | exact ⟨rfl, runW_len _ _ _ _ _ _ hl _, hn8⟩ | exact ⟨rfl, steadyW_len _ _ _ hl, hn8⟩ | exact ⟨rfl, forTo_len3 _ _ _ _ hl, hn8⟩) | exact in3c hLk hin | exact in3d hLk hin | exact inl hLs hin | exact in3c hLw hin | exact in3d hLw hin | exact ⟨Int.natCast_nonneg _, Int.ofNat_lt.2 hin⟩)); cbv)
          refine alt_t hfc ?_
          cbv
          repeat' (refine Ob.mk ?_ ?_; (focus ((try dsimp only [IE.val, NE.val, BE.val]); first | (with_reducible first | exact True.intro | exact hwf | exact ⟨rfl, runW_len _ _ _ _ _ _ hl _, hn8⟩ | exact ⟨rfl, steadyW_len _ _ _ hl, hn8⟩ | exact ⟨rfl, forTo_len3 _ _ _ _ hl, hn8⟩) | exact in3c hLk hin | exact in3d hLk hin | exact inl hLs hin | exact in3c hLw hin | exact in3d hLw hin | exact ⟨Int.natCast_nonneg _, Int.ofNat_lt.2 hin⟩)); cbv)
          refine Br.f (ne_ff rfl) ?_
          cbv
          repeat' (refine Ob.mk ?_ ?_; (focus ((try dsimp only [IE.val, NE.val, BE.val]); first | (with_reducible first | exact True.intro | exact hwf | exact ⟨rfl, runW_len _ _ _ _ _ _ hl _, hn8⟩ | exact ⟨rfl, steadyW_len _ _ _ hl, hn8⟩ | exact ⟨rfl, forTo_len3 _ _ _ _ hl, hn8⟩) | exact in3c hLk hin | exact in3d hLk hin | exact inl hLs hin | exact in3c hLw hin | exact in3d hLw hin | exact ⟨Int.natCast_nonneg _, Int.ofNat_lt.2 hin⟩)); cbv)
          refine Br.f (nt (decide_eq_true rfl)) ?_
          cbv
          refine Br.f (ne_ff rfl) ?_
          cbv
          refine Br.f (ne_ff rfl) ?_
          cbv
          repeat' (refine Ob.mk ?_ ?_; (focus ((try dsimp only [IE.val, NE.val, BE.val]); first | (with_reducible first | exact True.intro | exact hwf | exact ⟨rfl, runW_len _ _ _ _ _ _ hl _, hn8⟩ | exact ⟨rfl, steadyW_len _ _ _ hl, hn8⟩ | exact ⟨rfl, forTo_len3 _ _ _ _ hl, hn8⟩) | exact in3c hLk hin | exact in3d hLk hin | exact inl hLs hin | exact in3c hLw hin | exact in3d hLw hin | exact ⟨Int.natCast_nonneg _, Int.ofNat_lt.2 hin⟩)); cbv)
          refine Br.f (nt h00) ?_
          cbv
          refine Br.f (ne_ff rfl) ?_
          cbv
          repeat' (refine Ob.mk ?_ ?_; (focus ((try dsimp only [IE.val, NE.val, BE.val]); first | (with_reducible first | exact True.intro | exact hwf | exact ⟨rfl, runW_len _ _ _ _ _ _ hl _, hn8⟩ | exact ⟨rfl, steadyW_len _ _ _ hl, hn8⟩ | exact ⟨rfl, forTo_len3 _ _ _ _ hl, hn8⟩) | exact in3c hLk hin | exact in3d hLk hin | exact inl hLs hin | exact in3c hLw hin | exact in3d hLw hin | exact ⟨Int.natCast_nonneg _, Int.ofNat_lt.2 hin⟩)); cbv)
          refine Br.f (nt webSame_self) ?_
          cbv
          refine Br.f (ne_ff rfl) ?_
          cbv
          repeat' (refine Ob.mk ?_ ?_; (focus ((try dsimp only [IE.val, NE.val, BE.val]); first | (with_reducible first | exact True.intro | exact hwf | exact ⟨rfl, runW_len _ _ _ _ _ _ hl _, hn8⟩ | exact ⟨rfl, steadyW_len _ _ _ hl, hn8⟩ | exact ⟨rfl, forTo_len3 _ _ _ _ hl, hn8⟩) | exact in3c hLk hin | exact in3d hLk hin | exact inl hLs hin | exact in3c hLw hin | exact in3d hLw hin | exact ⟨Int.natCast_nonneg _, Int.ofNat_lt.2 hin⟩)); cbv)
          refine Br.f (nt (eqW_self _)) ?_
          cbv
          refine Br.f (hq) ?_
          cbv
          refine CutG.mk (trivial) ?_
          cbv
          repeat' (refine Ob.mk ?_ ?_; rotate_left; cbv)
          all_goals (try simp only [Unit.unit, Int.ofNat_lt, Int.ofNat_le, BE.val, IE.val, NE.val, ltB_iff, ltB_no, leB_iff, leB_no, Int.toNat_natCast, Nat.zero_add, Nat.add_zero, Nat.mul_one, forced, beq_iff_eq, beq_eq_false_iff_ne, bne_iff_ne, bne_eq_false_iff_eq] at *)
          all_goals first | with_reducible rfl | exact True.intro | rfl
    · refine ⟨_, HLe.refl _, wpS_cut (c := ⟨tt, E3, 0⟩) mixed tts E3ok 12 (fun _ => fr 360 [(0, .c .sn), (1, .c .sn), (5, .c (.p 1 (.l 0))), (8, .c (.i .i64 (.l 0))), (9, .c (.sl 2 (.l 0) (.x fun _ => drN [] (0, 0)))), (13, .c (.p 4 (.l 0)))]) (fun _ => [some ⟨true, 3, .fl fun _ => drW [] (0, 0)⟩, some ⟨true, 0, .lit [.f .f32 fun _ => drSt [] (0, 0), .f .f32 fun _ => drSp [] (0, 0), .f .f32 fun _ => drFd [] (0, 0), .sl 0 (.l 0) (.x fun _ => drN [] (0, 0))]⟩, some ⟨true, 1, .fl fun _ => steadyL (drSt [] (0, 0)) (drSp [] (0, 0)) (drFd [] (0, 0)) (drW [] (0, 0)) (drN [] (0, 0))⟩, some ⟨true, 3, .fl fun _ => steadyW (drSt [] (0, 0)) (drSp [] (0, 0)) (drFd [] (0, 0)) (drW [] (0, 0)) (drN [] (0, 0))⟩, some ⟨true, 0, .lit [.f .f32 fun _ => drSt [] (0, 0), .f .f32 fun _ => drSp [] (0, 0), .f .f32 fun _ => drFd [] (0, 0), .sl 3 (.l 0) (.x fun _ => drN [] (0, 0))]⟩]) (fun _ => True) (by rfl) ?_ (fun hP => p1d hby hby' (dr_ok hby (0, 0)) (dr_len (0, 0)) (Nat.le_trans (drN_bd hby (0, 0)).2.1 (by decide)))⟩
      cbv
      have hw := dr_ok hby (0, 0)
      have hl := dr_len (L := []) (0, 0)
      have hn8 : drN [] (0, 0) ≤ 1048576 := Nat.le_trans (drN_bd hby (0, 0)).2.1 (by decide)
      have hwf : 0 = 0 ∧ (drW [] (0, 0)).length = 3 * drN [] (0, 0) ∧ drN [] (0, 0) ≤ 1048576 := ⟨rfl, hl, hn8⟩
      repeat' (refine Ob.mk ?_ ?_; (focus ((try dsimp only [IE.val, NE.val, BE.val]); first | (with_reducible first | exact True.intro | exact hwf | exact ⟨rfl, runW_len _ _ _ _ _ _ hl _, hn8⟩ | exact ⟨rfl, steadyW_len _ _ _ hl, hn8⟩ | exact ⟨rfl, forTo_len3 _ _ _ _ hl, hn8⟩) | exact in3c hLk hin | exact in3d hLk hin | exact inl hLs hin | exact in3c hLw hin | exact in3d hLw hin | exact ⟨Int.natCast_nonneg _, Int.ofNat_lt.2 hin⟩)); cbv)
      generalize drSt [] (0, 0) = st at *
      generalize drSp [] (0, 0) = sp at *
      generalize drFd [] (0, 0) = fd at *
      generalize drW [] (0, 0) = l at *
      generalize drN [] (0, 0) = n at *
      dsimp only [IE.val, NE.val, BE.val]
      generalize fop .quo .f32 (floatOfInt .f32 (pkV [] 80 (0, 0))) 1082130432 = te at *
      have hLs : 0 + n ≤ (steadyL st sp fd l n).length ∧ n ≤ 1048576 := ⟨by rw [steadyL_len]; omega, hn8⟩
      have hrow : (decide (n = n) && allI (rowSame eqW 0 0 (steadyL st sp fd l n) (steadyL st sp fd l n)) n) = true := by rw [rows_self]; simp
      have h00 : (eqW 0 0 && eqW 0 0 && eqW 0 0) = true := by rw [eqW_self]; rfl
      refine alt_t hq ?_
      cbv
      repeat' (refine Ob.mk ?_ ?_; (focus ((try dsimp only [IE.val, NE.val, BE.val]); first | (with_reducible first | exact True.intro | exact hwf | exact ⟨rfl, runW_len _ _ _ _ _ _ hl _, hn8⟩ | exact ⟨rfl, steadyW_len _ _ _ hl, hn8⟩ | exact ⟨rfl, forTo_len3 _ _ _ _ hl, hn8⟩) | exact in3c hLk hin | exact in3d hLk hin | exact inl hLs hin | exact in3c hLw hin | exact in3d hLw hin | exact ⟨Int.natCast_nonneg _, Int.ofNat_lt.2 hin⟩)); cbv)
      refine alt_t hq ?_
      cbv
      repeat' (refine Ob.mk ?_ ?_; (focus ((try dsimp only [IE.val, NE.val, BE.val]); first | (with_reducible first | exact True.intro | exact hwf | exact ⟨rfl, runW_len _ _ _ _ _ _ hl _, hn8⟩ | exact ⟨rfl, steadyW_len _ _ _ hl, hn8⟩ | exact ⟨rfl, forTo_len3 _ _ _ _ hl, hn8⟩) | exact in3c hLk hin | exact in3d hLk hin | exact inl hLs hin | exact in3c hLw hin | exact in3d hLw hin | exact ⟨Int.natCast_nonneg _, Int.ofNat_lt.2 hin⟩)); cbv)
      refine alt_t hq ?_
      cbv
      repeat' (refine Ob.mk ?_ ?_; (focus ((try dsimp only [IE.val, NE.val, BE.val]); first | (with_reducible first | exact True.intro | exact hwf | exact ⟨rfl, runW_len _ _ _ _ _ _ hl _, hn8⟩ | exact ⟨rfl, steadyW_len _ _ _ hl, hn8⟩ | exact ⟨rfl, forTo_len3 _ _ _ _ hl, hn8⟩) | exact in3c hLk hin | exact in3d hLk hin | exact inl hLs hin | exact in3c hLw hin | exact in3d hLw hin | exact ⟨Int.natCast_nonneg _, Int.ofNat_lt.2 hin⟩)); cbv)
      refine alt_t hq ?_
      cbv
      repeat' (refine Ob.mk ?_ ?_; (focus ((try dsimp only [IE.val, NE.val, BE.val]); first | (with_reducible first | exact True.intro | exact hwf | exact ⟨rfl, runW_len _ _ _ _ _ _ hl _, hn8⟩ | exact ⟨rfl, steadyW_len _ _ _ hl, hn8⟩ | exact ⟨rfl, forTo_len3 _ _ _ _ hl, hn8⟩) | exact in3c hLk hin | exact in3d hLk hin | exact inl hLs hin | exact in3c hLw hin | exact in3d hLw hin | exact ⟨Int.natCast_nonneg _, Int.ofNat_lt.2 hin⟩)); cbv)
      rcases bool_ft (forC st sp fd l n te == 0) with hfc | hfc
      · as_aux_lemma =>
          refine alt_f hfc ?_
          cbv
          repeat' (refine Ob.mk ?_ ?_; (focus ((try dsimp only [IE.val, NE.val, BE.val]); first | (with_reducible first | exact True.intro | exact hwf | exact ⟨rfl, runW_len _ _ _ _ _ _ hl _, hn8⟩ | exact ⟨rfl, steadyW_len _ _ _ hl, hn8⟩ | exact ⟨rfl, forTo_len3 _ _ _ _ hl, hn8⟩) | exact in3c hLk hin | exact in3d hLk hin | exact inl hLs hin | exact in3c hLw hin | exact in3d hLw hin | exact ⟨Int.natCast_nonneg _, Int.ofNat_lt.2 hin⟩)); cbv)
          refine alt_f hfc ?_
          cbv
          repeat' (refine Ob.mk ?_ ?_; (focus ((try dsimp only [IE.val, NE.val, BE.val]); first | (with_reducible first | exact True.intro | exact hwf | exact ⟨rfl, runW_len _ _ _ _ _ _ hl _, hn8⟩ | exact ⟨rfl, steadyW_len _ _ _ hl, hn8⟩ | exact ⟨rfl, forTo_len3 _ _ _ _ hl, hn8⟩) | exact in3c hLk hin | exact in3d hLk hin | exact inl hLs hin | exact in3c hLw hin | exact in3d hLw hin | exact ⟨Int.natCast_nonneg _, Int.ofNat_lt.2 hin⟩)); cbv)
          refine Br.f (ne_ff rfl) ?_
          cbv
          repeat' (refine Ob.mk ?_ ?_; (focus ((try dsimp only [IE.val, NE.val, BE.val]); first | (with_reducible first | exact True.intro | exact hwf | exact ⟨rfl, runW_len _ _ _ _ _ _ hl _, hn8⟩ | exact ⟨rfl, steadyW_len _ _ _ hl, hn8⟩ | exact ⟨rfl, forTo_len3 _ _ _ _ hl, hn8⟩ | exact hLs) | exact in3c hLk hin | exact in3d hLk hin | exact inl hLs hin | exact in3c hLw hin | exact in3d hLw hin | exact ⟨Int.natCast_nonneg _, Int.ofNat_lt.2 hin⟩)); cbv)
          refine Br.f (nt hrow) ?_
          cbv
          refine Br.f (ne_ff rfl) ?_
          cbv
          refine Br.f (ne_ff rfl) ?_
          cbv
          repeat' (refine Ob.mk ?_ ?_; (focus ((try dsimp only [IE.val, NE.val, BE.val]); first | (with_reducible first | exact True.intro | exact hwf | exact ⟨rfl, runW_len _ _ _ _ _ _ hl _, hn8⟩ | exact ⟨rfl, steadyW_len _ _ _ hl, hn8⟩ | exact ⟨rfl, forTo_len3 _ _ _ _ hl, hn8⟩) | exact in3c hLk hin | exact in3d hLk hin | exact inl hLs hin | exact in3c hLw hin | exact in3d hLw hin | exact ⟨Int.natCast_nonneg _, Int.ofNat_lt.2 hin⟩)); cbv)
          refine Br.f (nt webSame_self) ?_
          cbv
          refine Br.f (ne_ff rfl) ?_
          cbv
          repeat' (refine Ob.mk ?_ ?_; (focus ((try dsimp only [IE.val, NE.val, BE.val]); first | (with_reducible first | exact True.intro | exact hwf | exact ⟨rfl, runW_len _ _ _ _ _ _ hl _, hn8⟩ | exact ⟨rfl, steadyW_len _ _ _ hl, hn8⟩ | exact ⟨rfl, forTo_len3 _ _ _ _ hl, hn8⟩) | exact in3c hLk hin | exact in3d hLk hin | exact inl hLs hin | exact in3c hLw hin | exact in3d hLw hin | exact ⟨Int.natCast_nonneg _, Int.ofNat_lt.2 hin⟩)); cbv)
          refine Br.f (nt h00) ?_
          cbv
          refine Br.f (ne_ff rfl) ?_
          cbv
          repeat' (refine Ob.mk ?_ ?_; (focus ((try dsimp only [IE.val, NE.val, BE.val]); first | (with_reducible first | exact True.intro | exact hwf | exact ⟨rfl, runW_len _ _ _ _ _ _ hl _, hn8⟩ | exact ⟨rfl, steadyW_len _ _ _ hl, hn8⟩ | exact ⟨rfl, forTo_len3 _ _ _ _ hl, hn8⟩) | exact in3c hLk hin | exact in3d hLk hin | exact inl hLs hin | exact in3c hLw hin | exact in3d hLw hin | exact ⟨Int.natCast_nonneg _, Int.ofNat_lt.2 hin⟩)); cbv)
          refine Br.f (nt (eqW_self _)) ?_
          cbv
          refine CutG.ren [0, 1, 3, 6, 7] (trivial) ?_
          cbv
          repeat' (refine Ob.mk ?_ ?_; rotate_left; cbv)
          all_goals (try simp only [Unit.unit, Int.ofNat_lt, Int.ofNat_le, BE.val, IE.val, NE.val, ltB_iff, ltB_no, leB_iff, leB_no, Int.toNat_natCast, Nat.zero_add, Nat.add_zero, Nat.mul_one, forced, beq_iff_eq, beq_eq_false_iff_ne, bne_iff_ne, bne_eq_false_iff_eq] at *)
          all_goals first | with_reducible rfl | exact True.intro | rfl
      · as_aux_lemma =>
          refine alt_t hfc ?_
          cbv
          repeat' (refine Ob.mk ?_ ?_; (focus ((try dsimp only [IE.val, NE.val, BE.val]); first | (with_reducible first | exact True.intro | exact hwf | exact ⟨rfl, runW_len _ _ _ _ _ _ hl _, hn8⟩ | exact ⟨rfl, steadyW_len _ _ _ hl, hn8⟩ | exact ⟨rfl, forTo_len3 _ _ _ _ hl, hn8⟩) | exact in3c hLk hin | exact in3d hLk hin | exact inl hLs hin | exact in3c hLw hin | exact in3d hLw hin | exact ⟨Int.natCast_nonneg _, Int.ofNat_lt.2 hin⟩)); cbv)
          refine alt_t hfc ?_
          cbv
          repeat' (refine Ob.mk ?_ ?_; (focus ((try dsimp only [IE.val, NE.val, BE.val]); first | (with_reducible first | exact True.intro | exact hwf | exact ⟨rfl, runW_len _ _ _ _ _ _ hl _, hn8⟩ | exact ⟨rfl, steadyW_len _ _ _ hl, hn8⟩ | exact ⟨rfl, forTo_len3 _ _ _ _ hl, hn8⟩) | exact in3c hLk hin | exact in3d hLk hin | exact inl hLs hin | exact in3c hLw hin | exact in3d hLw hin | exact ⟨Int.natCast_nonneg _, Int.ofNat_lt.2 hin⟩)); cbv)
          refine Br.f (ne_ff rfl) ?_
          cbv
          repeat' (refine Ob.mk ?_ ?_; (focus ((try dsimp only [IE.val, NE.val, BE.val]); first | (with_reducible first | exact True.intro | exact hwf | exact ⟨rfl, runW_len _ _ _ _ _ _ hl _, hn8⟩ | exact ⟨rfl, steadyW_len _ _ _ hl, hn8⟩ | exact ⟨rfl, forTo_len3 _ _ _ _ hl, hn8⟩ | exact hLs) | exact in3c hLk hin | exact in3d hLk hin | exact inl hLs hin | exact in3c hLw hin | exact in3d hLw hin | exact ⟨Int.natCast_nonneg _, Int.ofNat_lt.2 hin⟩)); cbv)
          refine Br.f (nt hrow) ?_
          cbv
          refine Br.f (ne_ff rfl) ?_
          cbv
          refine Br.f (ne_ff rfl) ?_
          cbv
          repeat' (refine Ob.mk ?_ ?_; (focus ((try dsimp only [IE.val, NE.val, BE.val]); first | (with_reducible first | exact True.intro | exact hwf | exact ⟨rfl, runW_len _ _ _ _ _ _ hl _, hn8⟩ | exact ⟨rfl, steadyW_len _ _ _ hl, hn8⟩ | exact ⟨rfl, forTo_len3 _ _ _ _ hl, hn8⟩) | exact in3c hLk hin | exact in3d hLk hin | exact inl hLs hin | exact in3c hLw hin | exact in3d hLw hin | exact ⟨Int.natCast_nonneg _, Int.ofNat_lt.2 hin⟩)); cbv)
          refine Br.f (nt webSame_self) ?_
          cbv
          refine Br.f (ne_ff rfl) ?_
          cbv
          repeat' (refine Ob.mk ?_ ?_; (focus ((try dsimp only [IE.val, NE.val, BE.val]); first | (with_reducible first | exact True.intro | exact hwf | exact ⟨rfl, runW_len _ _ _ _ _ _ hl _, hn8⟩ | exact ⟨rfl, steadyW_len _ _ _ hl, hn8⟩ | exact ⟨rfl, forTo_len3 _ _ _ _ hl, hn8⟩) | exact in3c hLk hin | exact in3d hLk hin | exact inl hLs hin | exact in3c hLw hin | exact in3d hLw hin | exact ⟨Int.natCast_nonneg _, Int.ofNat_lt.2 hin⟩)); cbv)
          refine Br.f (nt webSame_self) ?_
          cbv
          refine Br.f (ne_ff rfl) ?_
          cbv
          repeat' (refine Ob.mk ?_ ?_; (focus ((try dsimp only [IE.val, NE.val, BE.val]); first | (with_reducible first | exact True.intro | exact hwf | exact ⟨rfl, runW_len _ _ _ _ _ _ hl _, hn8⟩ | exact ⟨rfl, steadyW_len _ _ _ hl, hn8⟩ | exact ⟨rfl, forTo_len3 _ _ _ _ hl, hn8⟩) | exact in3c hLk hin | exact in3d hLk hin | exact inl hLs hin | exact in3c hLw hin | exact in3d hLw hin | exact ⟨Int.natCast_nonneg _, Int.ofNat_lt.2 hin⟩)); cbv)
          refine Br.f (nt (eqW_self _)) ?_
          cbv
          refine CutG.ren [0, 1, 3, 6, 7] (trivial) ?_
          cbv
          repeat' (refine Ob.mk ?_ ?_; rotate_left; cbv)
          all_goals (try simp only [Unit.unit, Int.ofNat_lt, Int.ofNat_le, BE.val, IE.val, NE.val, ltB_iff, ltB_no, leB_iff, leB_no, Int.toNat_natCast, Nat.zero_add, Nat.add_zero, Nat.mul_one, forced, beq_iff_eq, beq_eq_false_iff_ne, bne_iff_ne, bne_eq_false_iff_eq] at *)
          all_goals first | with_reducible rfl | exact True.intro | rfl
  · cases hs
end Go.Proofs.Ythkjlbggipocdaa.Sh
