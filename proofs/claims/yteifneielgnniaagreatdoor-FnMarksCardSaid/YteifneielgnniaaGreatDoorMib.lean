/- The law of marks where the second row is none. No condition. -/
import Derived.Test.YteifneielgnniaaGreatDoorMh
set_option linter.unusedVariables false
set_option linter.unusedSimpArgs false
set_option linter.unusedSectionVars false
section
namespace Go.Proofs.YteifneielgnniaaGreatDoor.Sh
namespace Rg
open Go Go.Proofs
attribute [local irreducible] okS outR grS meanO offM sizeM sameM sameMS sameShS eqW eqS mkT mkX mkY mkC
set_option maxRecDepth 100000 in
set_option maxHeartbeats 16000000 in
theorem p2b (oc nc : Unit → Nat) (L : Unit → List Int) (hcb : oc ⟨⟩ = 0 ∧ (L ⟨⟩).length = nc ⟨⟩ ∧ nc ⟨⟩ ≤ 4096 ∧ bytesOk (L ⟨⟩)) :
    wpS Tryz.prog ⟨tt, E4, 1⟩ (cutR 6 (bodyOf Tryz.f4)) (finE tt Tryz.f4.results.toList 1 (.c (.b (.l true))) [none]) (fr 300 [(0, .c (.sl 0 (.x oc) (.x nc))), (1, .c .sn)]) [some ⟨false, 0, .it .u8 L⟩] := by
  have kU := shL_ok (L := []) bytes_nil (0, 0)
  have hU := shL_len [] (0, 0)
  have hE : forced [fun _ => (((shL [] (0, 0)).getD 0 (0, 0)).1, ((shL [] (0, 0)).getD 0 (0, 0)).2), fun _ => (((shL [] (0, 0)).getD 1 (0, 0)).1, ((shL [] (0, 0)).getD 1 (0, 0)).2), fun _ => (((shL [] (0, 0)).getD 2 (0, 0)).1, ((shL [] (0, 0)).getD 2 (0, 0)).2), fun _ => (((shL [] (0, 0)).getD 3 (0, 0)).1, ((shL [] (0, 0)).getD 3 (0, 0)).2), fun _ => (((shL [] (0, 0)).getD 4 (0, 0)).1, ((shL [] (0, 0)).getD 4 (0, 0)).2), fun _ => (((shL [] (0, 0)).getD 5 (0, 0)).1, ((shL [] (0, 0)).getD 5 (0, 0)).2), fun _ => (((shL [] (0, 0)).getD 6 (0, 0)).1, ((shL [] (0, 0)).getD 6 (0, 0)).2), fun _ => (((shL [] (0, 0)).getD 7 (0, 0)).1, ((shL [] (0, 0)).getD 7 (0, 0)).2), fun _ => (((shL [] (0, 0)).getD 8 (0, 0)).1, ((shL [] (0, 0)).getD 8 (0, 0)).2), fun _ => (((shL [] (0, 0)).getD 9 (0, 0)).1, ((shL [] (0, 0)).getD 9 (0, 0)).2), fun _ => (((shL [] (0, 0)).getD 10 (0, 0)).1, ((shL [] (0, 0)).getD 10 (0, 0)).2), fun _ => (((shL [] (0, 0)).getD 11 (0, 0)).1, ((shL [] (0, 0)).getD 11 (0, 0)).2), fun _ => (((shL [] (0, 0)).getD 12 (0, 0)).1, ((shL [] (0, 0)).getD 12 (0, 0)).2), fun _ => (((shL [] (0, 0)).getD 13 (0, 0)).1, ((shL [] (0, 0)).getD 13 (0, 0)).2), fun _ => (((shL [] (0, 0)).getD 14 (0, 0)).1, ((shL [] (0, 0)).getD 14 (0, 0)).2), fun _ => (((shL [] (0, 0)).getD 15 (0, 0)).1, ((shL [] (0, 0)).getD 15 (0, 0)).2)] = shL [] (0, 0) := eta16 hU
  obtain ⟨r, hr, hpk⟩ := pk_nat (L := (L ⟨⟩)) hcb.2.2.2 (k := 400) (by decide) (0, 0)
  have hpk : pkV (L ⟨⟩) 400 (0, 0) = (r : Int) := hpk
  have hw : isIn (fop .quo .f32 (floatOfInt .f32 (pkV (L ⟨⟩) 400 (0, 0))) 1098907648) 0 1166016512 = true := by rw [hpk]; exact allR_at d_within hr
  refine wpS_cut (c := ⟨tt, E4, 1⟩) mixed tts E4ok 1 (fun _ => fr 300 [(11, .c (.p 1 (.l 0))), (12, F (fop .quo .f32 (floatOfInt .f32 (pkV (L ⟨⟩) 400 (0, 0))) 1098907648))]) (fun _ => [none, some ⟨true, 0, .cx fun _ => shL [] (0, 0)⟩]) (fun _ => True) (by rfl) ?_ (fun _ => by rw [cut_6_1]; exact p3B1 hU kU hw)
  cbv
  repeat' (refine Ob.mk ?_ ?_; (focus (first | with_reducible rfl | exact hcb | exact rfl)); cbv)
  refine CutG.mk trivial ?_
  cbv
  repeat' (refine Ob.mk ?_ ?_; (focus (first | with_reducible rfl | exact hE | exact rfl)); cbv)
end Rg
end Go.Proofs.YteifneielgnniaaGreatDoor.Sh
end
section
namespace Go.Proofs.YteifneielgnniaaGreatDoor.Sh
namespace Rg
open Go Go.Proofs
attribute [local irreducible] okS outR grS meanO offM sizeM sameM sameMS sameShS eqW eqS mkT mkX mkY mkC
set_option maxRecDepth 100000 in
set_option maxHeartbeats 16000000 in
theorem p1b (oc nc : Unit → Nat) (L : Unit → List Int) (hcb : oc ⟨⟩ = 0 ∧ (L ⟨⟩).length = nc ⟨⟩ ∧ nc ⟨⟩ ≤ 4096 ∧ bytesOk (L ⟨⟩)) {x1 x2 y1 y2 : Nat} (hx : x1 < 4294967296 ∧ x2 < 4294967296) (hy : y1 < 4294967296 ∧ y2 < 4294967296) :
    wpS Tryz.prog ⟨tt, E4, 1⟩ (cutR 3 (bodyOf Tryz.f4)) (finE tt Tryz.f4.results.toList 1 (.c (.b (.l true))) [none]) (fr 300 [(0, .c (.sl 0 (.x oc) (.x nc))), (1, .c .sn), (5, .c (.z .f32 (fun _ => x1) (fun _ => x2))), (6, .c (.z .f32 (fun _ => y1) (fun _ => y2)))]) [some ⟨false, 0, .it .u8 L⟩] := by
  obtain ⟨m1, m2, m3, m4⟩ := mark_read hx.1 hx.2
  have hc0 : (mkC (mkT x1 x2) != 0) = false := by rw [m3]; rfl
  refine wpS_cut (c := ⟨tt, E4, 1⟩) mixed tts E4ok 2 (fun _ => fr 300 [(0, .c (.sl 0 (.x oc) (.x nc))), (1, .c .sn)]) (fun _ => [some ⟨false, 0, .it .u8 L⟩]) (fun _ => True) (by rfl) ?_ (fun _ => by rw [cut_3_2]; exact p2b oc nc L hcb )
  cbv
  repeat' first | (refine Ob.mk ?_ ?_; (focus (first | with_reducible rfl | exact hx | exact m4 | exact rfl)); cbv) | (refine Br.f (ntf (sameM_self _)) ?_; cbv) | (refine Br.f (ntf (eqW_self' _)) ?_; cbv) | (refine Br.f hc0 ?_; cbv) | (refine Br.f (ne_ffI rfl) ?_; cbv) | (refine Br.f (same_marks hx hy) ?_; cbv) | (refine Br.f (bne_self_eq_false _) ?_; cbv)
  refine CutG.mk trivial ?_
  cbv
  repeat' (refine Ob.mk ?_ ?_; (focus (first | with_reducible rfl | exact rfl)); cbv)
end Rg
end Go.Proofs.YteifneielgnniaaGreatDoor.Sh
end
section
namespace Go.Proofs.YteifneielgnniaaGreatDoor.Sh
namespace Rg
open Go Go.Proofs
def sLaw4b : Spec := hspec fun args H => match args, H with
  | [.c (.sl 0 (.x oc) (.x nc)), .c .sn], [some ⟨false, 0, .it .u8 L⟩] => some (.c (.b (.l true)), [none], [fun _ => oc () = 0 ∧ (L ()).length = nc () ∧ nc () ≤ 9223372036854775807 ∧ bytesOk (L ())])
  | _, _ => none
set_option maxRecDepth 100000 in
set_option maxHeartbeats 16000000 in
theorem okMb : Ok Tryz.prog 4 (sLaw4b) := ok_of_wpSH (E := E4) tts fn4 fun args H v H' o hs ho => by
  split at hs
  · rename_i oc nc L
    cases hs
    obtain ⟨ho0, hlen, hbig, hby⟩ := ho.one
    simp only [Unit.unit] at ho0 hlen hbig hby
    have hax := any_lt (L ⟨⟩) (0, 0)
    have hay := any_lt [] (0, 0)
    refine ⟨_, HLe.refl _, wpS_cut (c := ⟨tt, E4, 1⟩) mixed tts E4ok 3 (fun _ => fr 300 [(0, .c (.sl 0 (.x oc) (.x nc))), (1, .c .sn), (5, .c (.z .f32 (fun _ => (anyM (L ⟨⟩) (0, 0)).1) (fun _ => (anyM (L ⟨⟩) (0, 0)).2))), (6, .c (.z .f32 (fun _ => (anyM [] (0, 0)).1) (fun _ => (anyM [] (0, 0)).2)))]) (fun _ => [some ⟨false, 0, .it .u8 L⟩]) (fun _ => (oc ⟨⟩ = 0 ∧ (L ⟨⟩).length = nc ⟨⟩ ∧ nc ⟨⟩ ≤ 4096 ∧ bytesOk (L ⟨⟩))) (by rfl) ?_ (fun hP => p1b oc nc L hP hax hay)⟩
    cbv
    refine Br.mk (fun hz => ?_) (fun hz => ?_)
    · cbv
      repeat' (refine Ob.mk ?_ ?_; rotate_left; cbv)
      all_goals (try simp only [Unit.unit, Int.ofNat_lt, Int.ofNat_le, BE.val, IE.val, NE.val, ltB_iff, ltB_no, leB_iff, leB_no, Int.toNat_natCast, Nat.zero_add, Nat.add_zero, Nat.mul_one, forced, beq_iff_eq, beq_eq_false_iff_ne, bne_iff_ne, bne_eq_false_iff_eq] at *)
      all_goals first | with_reducible rfl | trivial
    have hcb : oc ⟨⟩ = 0 ∧ (L ⟨⟩).length = nc ⟨⟩ ∧ nc ⟨⟩ ≤ 4096 ∧ bytesOk (L ⟨⟩) := ⟨ho0, hlen, Int.ofNat_le.1 (Int.not_lt.1 fun h => Bool.noConfusion ((ltB_iff.2 h).symm.trans hz)), hby⟩
    clear hz
    cbv
    repeat' (refine Ob.mk ?_ ?_; (focus (first | exact rfl | exact hcb)); cbv)
    refine CutG.mk (hcb) ?_
    cbv
    repeat' (refine Ob.mk ?_ ?_; (focus (exact rfl)); cbv)
  · cases hs
end Rg
end Go.Proofs.YteifneielgnniaaGreatDoor.Sh
end
