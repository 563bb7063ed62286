/- The reference reads a web: all lines are good. No condition. -/
import Derived.Test.YteifneielgnniaaDoorVe
set_option linter.unusedVariables false
set_option linter.unusedSimpArgs false
set_option linter.unusedSectionVars false
section
namespace Go.Proofs.YteifneielgnniaaDoor.Sh
open Go Go.Proofs
attribute [local irreducible] wds tx rn rnC rnOk nrOk v3a v3b v3c wAt n3 webOk spL tl nl wOk
set_option maxRecDepth 100000 in
set_option maxHeartbeats 8000000 in
theorem ok8T2 : Ok Tryd.prog 8 (sRT fun t => okA t = true ∧ nl t = 2 ∧ gdTo t 2 = true ∧ wOk t = true) := ok_of_wpaH (E := E8) mixed tts E8ok fn8 fun args H v H' o hs ho => by
  split at hs
  · rename_i t
    cases hs
    have hsz : (t ⟨⟩).size ≤ 1048576 := ho.two.2
    have hsp : (10 : Int) = (((10 : UInt8).toNat : Nat) : Int) ∧ (t ⟨⟩).size ≤ 1048576 := ⟨rfl, hsz⟩
    have hpos := wds_pos 10 (t ⟨⟩)
    have hle := wds_le 10 (t ⟨⟩)
    have hwr : (IntKind.wrap .i64 (((((wds 10 (t ⟨⟩)).length : Nat)) : Int) - 1)) = ((nl (t ⟨⟩) : Nat) : Int) := by rw [wrap64 (by omega) (by omega)]; unfold nl; omega
    have hp : 0 + (IntKind.wrap .i64 (((((wds 10 (t ⟨⟩)).length : Nat)) : Int) - 1)).toNat * 1 = nl (t ⟨⟩) := by rw [hwr, Int.toNat_natCast]; omega
    have htl : (!((((wds 10 (t ⟨⟩)).map tx).getD (0 + (IntKind.wrap .i64 (((((wds 10 (t ⟨⟩)).length : Nat)) : Int) - 1)).toNat * 1) ByteArray.empty).toList == ({ data := #[] } : ByteArray).toList)) = !(tl (t ⟨⟩)) := by rw [hp]; exact congrArg _ (tl_form _)
    have hx0 : 0 ≤ (IntKind.wrap .i64 (((((wds 10 (t ⟨⟩)).length : Nat)) : Int) - 1)) ∧ (IntKind.wrap .i64 (((((wds 10 (t ⟨⟩)).length : Nat)) : Int) - 1)) < ((((wds 10 (t ⟨⟩)).length : Nat)) : Int) := by rw [hwr]; unfold nl; omega
    have hx1 : 0 + (IntKind.wrap .i64 (((((wds 10 (t ⟨⟩)).length : Nat)) : Int) - 1)).toNat * 1 < ((wds 10 (t ⟨⟩)).map tx).length := by rw [hp, List.length_map]; unfold nl; omega
    have hA : okA (t ⟨⟩) = true := ho.two.1.1
    have hn : nl (t ⟨⟩) = 2 := ho.two.1.2.1
    have hg : gdTo (t ⟨⟩) 2 = true := ho.two.1.2.2.1
    have hv : wOk (t ⟨⟩) = true := ho.two.1.2.2.2
    have hA2 := okA_t hA
    have t1 : (!((((wds 10 (t ⟨⟩)).map tx).getD (0 + (IntKind.wrap .i64 (((((wds 10 (t ⟨⟩)).length : Nat)) : Int) - 1)).toNat * 1) ByteArray.empty).toList == ({ data := #[] } : ByteArray).toList)) = false := by rw [htl, hA2.1]; rfl
    have t2 : ltB (IntKind.wrap .i64 (((((wds 10 (t ⟨⟩)).length : Nat)) : Int) - 1)) 2 = false := by rw [hwr, ltB_no]; omega
    have t3 : ltB 9 (IntKind.wrap .i64 (((((wds 10 (t ⟨⟩)).length : Nat)) : Int) - 1)) = false := by rw [hwr, ltB_no]; omega
    have be : ltB 2 (IntKind.wrap .i64 (((((wds 10 (t ⟨⟩)).length : Nat)) : Int) - 1)) = false := by rw [hwr, ltB_no]; omega
    have gg0 : nrOk 3 (((wds 10 (t ⟨⟩)).map tx).getD 0 ByteArray.empty) = true := show gd (t ⟨⟩) 0 = true from allI_at hg (by omega)
    have p0a : v3a (((wds 10 (t ⟨⟩)).map tx).getD 0 ByteArray.empty) = n3 (ln (t ⟨⟩) 0) 0 := (v3_ok gg0).1
    have p0b : v3b (((wds 10 (t ⟨⟩)).map tx).getD 0 ByteArray.empty) = n3 (ln (t ⟨⟩) 0) 1 := (v3_ok gg0).2.1
    have p0c : v3c (((wds 10 (t ⟨⟩)).map tx).getD 0 ByteArray.empty) = n3 (ln (t ⟨⟩) 0) 2 := (v3_ok gg0).2.2
    have gg1 : nrOk 3 (((wds 10 (t ⟨⟩)).map tx).getD 1 ByteArray.empty) = true := show gd (t ⟨⟩) 1 = true from allI_at hg (by omega)
    have p1a : v3a (((wds 10 (t ⟨⟩)).map tx).getD 1 ByteArray.empty) = n3 (ln (t ⟨⟩) 1) 0 := (v3_ok gg1).1
    have p1b : v3b (((wds 10 (t ⟨⟩)).map tx).getD 1 ByteArray.empty) = n3 (ln (t ⟨⟩) 1) 1 := (v3_ok gg1).2.1
    have p1c : v3c (((wds 10 (t ⟨⟩)).map tx).getD 1 ByteArray.empty) = n3 (ln (t ⟨⟩) 1) 2 := (v3_ok gg1).2.2
    have hL : spL (t ⟨⟩) = [n3 (ln (t ⟨⟩) 1) 0, n3 (ln (t ⟨⟩) 1) 1, n3 (ln (t ⟨⟩) 1) 2] := by unfold spL; rw [hn]; rfl
    have hS : [v3a (((wds 10 (t ⟨⟩)).map tx).getD 1 ByteArray.empty), v3b (((wds 10 (t ⟨⟩)).map tx).getD 1 ByteArray.empty), v3c (((wds 10 (t ⟨⟩)).map tx).getD 1 ByteArray.empty)] = spL (t ⟨⟩) := by rw [hL, p1a, p1b, p1c]
    have hnn : 1 = nl (t ⟨⟩) - 1 := by omega
    have hW : webOk (v3a (((wds 10 (t ⟨⟩)).map tx).getD 0 ByteArray.empty)) (v3b (((wds 10 (t ⟨⟩)).map tx).getD 0 ByteArray.empty)) (v3c (((wds 10 (t ⟨⟩)).map tx).getD 0 ByteArray.empty)) [v3a (((wds 10 (t ⟨⟩)).map tx).getD 1 ByteArray.empty), v3b (((wds 10 (t ⟨⟩)).map tx).getD 1 ByteArray.empty), v3c (((wds 10 (t ⟨⟩)).map tx).getD 1 ByteArray.empty)] 1 = wOk (t ⟨⟩) := by unfold wOk; rw [hS, p0a, p0b, p0c]; exact congrArg (webOk _ _ _ _) hnn
    have b0 : ltB 0 (IntKind.wrap .i64 (((((wds 10 (t ⟨⟩)).length : Nat)) : Int) - 1)) = true := by rw [hwr, ltB_iff]; omega
    have x0 : (0 : Int) ≤ 0 ∧ (0 : Int) < ((((wds 10 (t ⟨⟩)).length : Nat)) : Int) := ⟨by omega, by unfold nl at hn; omega⟩
    have y0 : 0 < ((wds 10 (t ⟨⟩)).map tx).length := by rw [List.length_map]; unfold nl at hn; omega
    have z0 : (((wds 10 (t ⟨⟩)).map tx).getD 0 ByteArray.empty).size ≤ 1048576 := ln_size (t ⟨⟩) 0 hsz
    have g0 : (!(nrOk 3 (((wds 10 (t ⟨⟩)).map tx).getD 0 ByteArray.empty))) = false := ntf (show gd (t ⟨⟩) 0 = true from allI_at hg (by omega))
    have b1 : ltB 1 (IntKind.wrap .i64 (((((wds 10 (t ⟨⟩)).length : Nat)) : Int) - 1)) = true := by rw [hwr, ltB_iff]; omega
    have x1 : (0 : Int) ≤ 1 ∧ (1 : Int) < ((((wds 10 (t ⟨⟩)).length : Nat)) : Int) := ⟨by omega, by unfold nl at hn; omega⟩
    have y1 : 1 < ((wds 10 (t ⟨⟩)).map tx).length := by rw [List.length_map]; unfold nl at hn; omega
    have z1 : (((wds 10 (t ⟨⟩)).map tx).getD 1 ByteArray.empty).size ≤ 1048576 := ln_size (t ⟨⟩) 1 hsz
    have g1 : (!(nrOk 3 (((wds 10 (t ⟨⟩)).map tx).getD 1 ByteArray.empty))) = false := ntf (show gd (t ⟨⟩) 1 = true from allI_at hg (by omega))
    have hw2 := congrArg not (hW.trans hv)
    refine ⟨_, HLe.refl _, ?_⟩
    cbv
    repeat' first | (refine Ob.mk ?_ ?_; (focus (first | exact hsp | exact hx0 | exact hx1 | exact x0 | exact y0 | exact z0 | exact x1 | exact y1 | exact z1 | exact p0a | exact p0b | exact p0c | exact hS | exact hnn | exact ⟨rfl, rfl, by decide⟩ | exact rfl)); cbv) | (refine Br.f t1 ?_; cbv) | (refine Br.f t2 ?_; cbv) | (refine Br.f t3 ?_; cbv) | (refine Br.t b0 ?_; cbv) | (refine Br.f g0 ?_; cbv) | (refine Br.t b1 ?_; cbv) | (refine Br.f g1 ?_; cbv) | (refine Br.f be ?_; cbv) | (refine Br.f hw2 ?_; cbv) | (refine Loop.mk 70 ?_; cbv) | (refine Gen.same ?_; cbv)
  · cases hs
set_option maxRecDepth 100000 in
set_option maxHeartbeats 8000000 in
theorem ok8F2 : Ok Tryd.prog 8 (sRF fun t => okA t = true ∧ nl t = 2 ∧ gdTo t 2 = true ∧ wOk t = false) := ok_of_wpaH (E := E8) mixed tts E8ok fn8 fun args H v H' o hs ho => by
  split at hs
  · rename_i t
    cases hs
    have hsz : (t ⟨⟩).size ≤ 1048576 := ho.two.2
    have hsp : (10 : Int) = (((10 : UInt8).toNat : Nat) : Int) ∧ (t ⟨⟩).size ≤ 1048576 := ⟨rfl, hsz⟩
    have hpos := wds_pos 10 (t ⟨⟩)
    have hle := wds_le 10 (t ⟨⟩)
    have hwr : (IntKind.wrap .i64 (((((wds 10 (t ⟨⟩)).length : Nat)) : Int) - 1)) = ((nl (t ⟨⟩) : Nat) : Int) := by rw [wrap64 (by omega) (by omega)]; unfold nl; omega
    have hp : 0 + (IntKind.wrap .i64 (((((wds 10 (t ⟨⟩)).length : Nat)) : Int) - 1)).toNat * 1 = nl (t ⟨⟩) := by rw [hwr, Int.toNat_natCast]; omega
    have htl : (!((((wds 10 (t ⟨⟩)).map tx).getD (0 + (IntKind.wrap .i64 (((((wds 10 (t ⟨⟩)).length : Nat)) : Int) - 1)).toNat * 1) ByteArray.empty).toList == ({ data := #[] } : ByteArray).toList)) = !(tl (t ⟨⟩)) := by rw [hp]; exact congrArg _ (tl_form _)
    have hx0 : 0 ≤ (IntKind.wrap .i64 (((((wds 10 (t ⟨⟩)).length : Nat)) : Int) - 1)) ∧ (IntKind.wrap .i64 (((((wds 10 (t ⟨⟩)).length : Nat)) : Int) - 1)) < ((((wds 10 (t ⟨⟩)).length : Nat)) : Int) := by rw [hwr]; unfold nl; omega
    have hx1 : 0 + (IntKind.wrap .i64 (((((wds 10 (t ⟨⟩)).length : Nat)) : Int) - 1)).toNat * 1 < ((wds 10 (t ⟨⟩)).map tx).length := by rw [hp, List.length_map]; unfold nl; omega
    have hA : okA (t ⟨⟩) = true := ho.two.1.1
    have hn : nl (t ⟨⟩) = 2 := ho.two.1.2.1
    have hg : gdTo (t ⟨⟩) 2 = true := ho.two.1.2.2.1
    have hv : wOk (t ⟨⟩) = false := ho.two.1.2.2.2
    have hA2 := okA_t hA
    have t1 : (!((((wds 10 (t ⟨⟩)).map tx).getD (0 + (IntKind.wrap .i64 (((((wds 10 (t ⟨⟩)).length : Nat)) : Int) - 1)).toNat * 1) ByteArray.empty).toList == ({ data := #[] } : ByteArray).toList)) = false := by rw [htl, hA2.1]; rfl
    have t2 : ltB (IntKind.wrap .i64 (((((wds 10 (t ⟨⟩)).length : Nat)) : Int) - 1)) 2 = false := by rw [hwr, ltB_no]; omega
    have t3 : ltB 9 (IntKind.wrap .i64 (((((wds 10 (t ⟨⟩)).length : Nat)) : Int) - 1)) = false := by rw [hwr, ltB_no]; omega
    have be : ltB 2 (IntKind.wrap .i64 (((((wds 10 (t ⟨⟩)).length : Nat)) : Int) - 1)) = false := by rw [hwr, ltB_no]; omega
    have gg0 : nrOk 3 (((wds 10 (t ⟨⟩)).map tx).getD 0 ByteArray.empty) = true := show gd (t ⟨⟩) 0 = true from allI_at hg (by omega)
    have p0a : v3a (((wds 10 (t ⟨⟩)).map tx).getD 0 ByteArray.empty) = n3 (ln (t ⟨⟩) 0) 0 := (v3_ok gg0).1
    have p0b : v3b (((wds 10 (t ⟨⟩)).map tx).getD 0 ByteArray.empty) = n3 (ln (t ⟨⟩) 0) 1 := (v3_ok gg0).2.1
    have p0c : v3c (((wds 10 (t ⟨⟩)).map tx).getD 0 ByteArray.empty) = n3 (ln (t ⟨⟩) 0) 2 := (v3_ok gg0).2.2
    have gg1 : nrOk 3 (((wds 10 (t ⟨⟩)).map tx).getD 1 ByteArray.empty) = true := show gd (t ⟨⟩) 1 = true from allI_at hg (by omega)
    have p1a : v3a (((wds 10 (t ⟨⟩)).map tx).getD 1 ByteArray.empty) = n3 (ln (t ⟨⟩) 1) 0 := (v3_ok gg1).1
    have p1b : v3b (((wds 10 (t ⟨⟩)).map tx).getD 1 ByteArray.empty) = n3 (ln (t ⟨⟩) 1) 1 := (v3_ok gg1).2.1
    have p1c : v3c (((wds 10 (t ⟨⟩)).map tx).getD 1 ByteArray.empty) = n3 (ln (t ⟨⟩) 1) 2 := (v3_ok gg1).2.2
    have hL : spL (t ⟨⟩) = [n3 (ln (t ⟨⟩) 1) 0, n3 (ln (t ⟨⟩) 1) 1, n3 (ln (t ⟨⟩) 1) 2] := by unfold spL; rw [hn]; rfl
    have hS : [v3a (((wds 10 (t ⟨⟩)).map tx).getD 1 ByteArray.empty), v3b (((wds 10 (t ⟨⟩)).map tx).getD 1 ByteArray.empty), v3c (((wds 10 (t ⟨⟩)).map tx).getD 1 ByteArray.empty)] = spL (t ⟨⟩) := by rw [hL, p1a, p1b, p1c]
    have hnn : 1 = nl (t ⟨⟩) - 1 := by omega
    have hW : webOk (v3a (((wds 10 (t ⟨⟩)).map tx).getD 0 ByteArray.empty)) (v3b (((wds 10 (t ⟨⟩)).map tx).getD 0 ByteArray.empty)) (v3c (((wds 10 (t ⟨⟩)).map tx).getD 0 ByteArray.empty)) [v3a (((wds 10 (t ⟨⟩)).map tx).getD 1 ByteArray.empty), v3b (((wds 10 (t ⟨⟩)).map tx).getD 1 ByteArray.empty), v3c (((wds 10 (t ⟨⟩)).map tx).getD 1 ByteArray.empty)] 1 = wOk (t ⟨⟩) := by unfold wOk; rw [hS, p0a, p0b, p0c]; exact congrArg (webOk _ _ _ _) hnn
    have b0 : ltB 0 (IntKind.wrap .i64 (((((wds 10 (t ⟨⟩)).length : Nat)) : Int) - 1)) = true := by rw [hwr, ltB_iff]; omega
    have x0 : (0 : Int) ≤ 0 ∧ (0 : Int) < ((((wds 10 (t ⟨⟩)).length : Nat)) : Int) := ⟨by omega, by unfold nl at hn; omega⟩
    have y0 : 0 < ((wds 10 (t ⟨⟩)).map tx).length := by rw [List.length_map]; unfold nl at hn; omega
    have z0 : (((wds 10 (t ⟨⟩)).map tx).getD 0 ByteArray.empty).size ≤ 1048576 := ln_size (t ⟨⟩) 0 hsz
    have g0 : (!(nrOk 3 (((wds 10 (t ⟨⟩)).map tx).getD 0 ByteArray.empty))) = false := ntf (show gd (t ⟨⟩) 0 = true from allI_at hg (by omega))
    have b1 : ltB 1 (IntKind.wrap .i64 (((((wds 10 (t ⟨⟩)).length : Nat)) : Int) - 1)) = true := by rw [hwr, ltB_iff]; omega
    have x1 : (0 : Int) ≤ 1 ∧ (1 : Int) < ((((wds 10 (t ⟨⟩)).length : Nat)) : Int) := ⟨by omega, by unfold nl at hn; omega⟩
    have y1 : 1 < ((wds 10 (t ⟨⟩)).map tx).length := by rw [List.length_map]; unfold nl at hn; omega
    have z1 : (((wds 10 (t ⟨⟩)).map tx).getD 1 ByteArray.empty).size ≤ 1048576 := ln_size (t ⟨⟩) 1 hsz
    have g1 : (!(nrOk 3 (((wds 10 (t ⟨⟩)).map tx).getD 1 ByteArray.empty))) = false := ntf (show gd (t ⟨⟩) 1 = true from allI_at hg (by omega))
    have hw2 := congrArg not (hW.trans hv)
    refine ⟨_, HLe.refl _, ?_⟩
    cbv
    repeat' first | (refine Ob.mk ?_ ?_; (focus (first | exact hsp | exact hx0 | exact hx1 | exact x0 | exact y0 | exact z0 | exact x1 | exact y1 | exact z1 | exact p0a | exact p0b | exact p0c | exact hS | exact hnn | exact ⟨rfl, rfl, by decide⟩ | exact rfl)); cbv) | (refine Br.f t1 ?_; cbv) | (refine Br.f t2 ?_; cbv) | (refine Br.f t3 ?_; cbv) | (refine Br.t b0 ?_; cbv) | (refine Br.f g0 ?_; cbv) | (refine Br.t b1 ?_; cbv) | (refine Br.f g1 ?_; cbv) | (refine Br.f be ?_; cbv) | (refine Br.t hw2 ?_; cbv) | (refine Loop.mk 70 ?_; cbv) | (refine Gen.same ?_; cbv)
  · cases hs
end Go.Proofs.YteifneielgnniaaDoor.Sh
end
section
namespace Go.Proofs.YteifneielgnniaaDoor.Sh
open Go Go.Proofs
attribute [local irreducible] wds tx rn rnC rnOk nrOk v3a v3b v3c wAt n3 webOk spL tl nl wOk
set_option maxRecDepth 100000 in
set_option maxHeartbeats 8000000 in
theorem ok8T3 : Ok Tryd.prog 8 (sRT fun t => okA t = true ∧ nl t = 3 ∧ gdTo t 3 = true ∧ wOk t = true) := ok_of_wpaH (E := E8) mixed tts E8ok fn8 fun args H v H' o hs ho => by
  split at hs
  · rename_i t
    cases hs
    have hsz : (t ⟨⟩).size ≤ 1048576 := ho.two.2
    have hsp : (10 : Int) = (((10 : UInt8).toNat : Nat) : Int) ∧ (t ⟨⟩).size ≤ 1048576 := ⟨rfl, hsz⟩
    have hpos := wds_pos 10 (t ⟨⟩)
    have hle := wds_le 10 (t ⟨⟩)
    have hwr : (IntKind.wrap .i64 (((((wds 10 (t ⟨⟩)).length : Nat)) : Int) - 1)) = ((nl (t ⟨⟩) : Nat) : Int) := by rw [wrap64 (by omega) (by omega)]; unfold nl; omega
    have hp : 0 + (IntKind.wrap .i64 (((((wds 10 (t ⟨⟩)).length : Nat)) : Int) - 1)).toNat * 1 = nl (t ⟨⟩) := by rw [hwr, Int.toNat_natCast]; omega
    have htl : (!((((wds 10 (t ⟨⟩)).map tx).getD (0 + (IntKind.wrap .i64 (((((wds 10 (t ⟨⟩)).length : Nat)) : Int) - 1)).toNat * 1) ByteArray.empty).toList == ({ data := #[] } : ByteArray).toList)) = !(tl (t ⟨⟩)) := by rw [hp]; exact congrArg _ (tl_form _)
    have hx0 : 0 ≤ (IntKind.wrap .i64 (((((wds 10 (t ⟨⟩)).length : Nat)) : Int) - 1)) ∧ (IntKind.wrap .i64 (((((wds 10 (t ⟨⟩)).length : Nat)) : Int) - 1)) < ((((wds 10 (t ⟨⟩)).length : Nat)) : Int) := by rw [hwr]; unfold nl; omega
    have hx1 : 0 + (IntKind.wrap .i64 (((((wds 10 (t ⟨⟩)).length : Nat)) : Int) - 1)).toNat * 1 < ((wds 10 (t ⟨⟩)).map tx).length := by rw [hp, List.length_map]; unfold nl; omega
    have hA : okA (t ⟨⟩) = true := ho.two.1.1
    have hn : nl (t ⟨⟩) = 3 := ho.two.1.2.1
    have hg : gdTo (t ⟨⟩) 3 = true := ho.two.1.2.2.1
    have hv : wOk (t ⟨⟩) = true := ho.two.1.2.2.2
    have hA2 := okA_t hA
    have t1 : (!((((wds 10 (t ⟨⟩)).map tx).getD (0 + (IntKind.wrap .i64 (((((wds 10 (t ⟨⟩)).length : Nat)) : Int) - 1)).toNat * 1) ByteArray.empty).toList == ({ data := #[] } : ByteArray).toList)) = false := by rw [htl, hA2.1]; rfl
    have t2 : ltB (IntKind.wrap .i64 (((((wds 10 (t ⟨⟩)).length : Nat)) : Int) - 1)) 2 = false := by rw [hwr, ltB_no]; omega
    have t3 : ltB 9 (IntKind.wrap .i64 (((((wds 10 (t ⟨⟩)).length : Nat)) : Int) - 1)) = false := by rw [hwr, ltB_no]; omega
    have be : ltB 3 (IntKind.wrap .i64 (((((wds 10 (t ⟨⟩)).length : Nat)) : Int) - 1)) = false := by rw [hwr, ltB_no]; omega
    have gg0 : nrOk 3 (((wds 10 (t ⟨⟩)).map tx).getD 0 ByteArray.empty) = true := show gd (t ⟨⟩) 0 = true from allI_at hg (by omega)
    have p0a : v3a (((wds 10 (t ⟨⟩)).map tx).getD 0 ByteArray.empty) = n3 (ln (t ⟨⟩) 0) 0 := (v3_ok gg0).1
    have p0b : v3b (((wds 10 (t ⟨⟩)).map tx).getD 0 ByteArray.empty) = n3 (ln (t ⟨⟩) 0) 1 := (v3_ok gg0).2.1
    have p0c : v3c (((wds 10 (t ⟨⟩)).map tx).getD 0 ByteArray.empty) = n3 (ln (t ⟨⟩) 0) 2 := (v3_ok gg0).2.2
    have gg1 : nrOk 3 (((wds 10 (t ⟨⟩)).map tx).getD 1 ByteArray.empty) = true := show gd (t ⟨⟩) 1 = true from allI_at hg (by omega)
    have p1a : v3a (((wds 10 (t ⟨⟩)).map tx).getD 1 ByteArray.empty) = n3 (ln (t ⟨⟩) 1) 0 := (v3_ok gg1).1
    have p1b : v3b (((wds 10 (t ⟨⟩)).map tx).getD 1 ByteArray.empty) = n3 (ln (t ⟨⟩) 1) 1 := (v3_ok gg1).2.1
    have p1c : v3c (((wds 10 (t ⟨⟩)).map tx).getD 1 ByteArray.empty) = n3 (ln (t ⟨⟩) 1) 2 := (v3_ok gg1).2.2
    have gg2 : nrOk 3 (((wds 10 (t ⟨⟩)).map tx).getD 2 ByteArray.empty) = true := show gd (t ⟨⟩) 2 = true from allI_at hg (by omega)
    have p2a : v3a (((wds 10 (t ⟨⟩)).map tx).getD 2 ByteArray.empty) = n3 (ln (t ⟨⟩) 2) 0 := (v3_ok gg2).1
    have p2b : v3b (((wds 10 (t ⟨⟩)).map tx).getD 2 ByteArray.empty) = n3 (ln (t ⟨⟩) 2) 1 := (v3_ok gg2).2.1
    have p2c : v3c (((wds 10 (t ⟨⟩)).map tx).getD 2 ByteArray.empty) = n3 (ln (t ⟨⟩) 2) 2 := (v3_ok gg2).2.2
    have hL : spL (t ⟨⟩) = [n3 (ln (t ⟨⟩) 1) 0, n3 (ln (t ⟨⟩) 1) 1, n3 (ln (t ⟨⟩) 1) 2, n3 (ln (t ⟨⟩) 2) 0, n3 (ln (t ⟨⟩) 2) 1, n3 (ln (t ⟨⟩) 2) 2] := by unfold spL; rw [hn]; rfl
    have hS : [v3a (((wds 10 (t ⟨⟩)).map tx).getD 1 ByteArray.empty), v3b (((wds 10 (t ⟨⟩)).map tx).getD 1 ByteArray.empty), v3c (((wds 10 (t ⟨⟩)).map tx).getD 1 ByteArray.empty), v3a (((wds 10 (t ⟨⟩)).map tx).getD 2 ByteArray.empty), v3b (((wds 10 (t ⟨⟩)).map tx).getD 2 ByteArray.empty), v3c (((wds 10 (t ⟨⟩)).map tx).getD 2 ByteArray.empty)] = spL (t ⟨⟩) := by rw [hL, p1a, p1b, p1c, p2a, p2b, p2c]
    have hnn : 2 = nl (t ⟨⟩) - 1 := by omega
    have hW : webOk (v3a (((wds 10 (t ⟨⟩)).map tx).getD 0 ByteArray.empty)) (v3b (((wds 10 (t ⟨⟩)).map tx).getD 0 ByteArray.empty)) (v3c (((wds 10 (t ⟨⟩)).map tx).getD 0 ByteArray.empty)) [v3a (((wds 10 (t ⟨⟩)).map tx).getD 1 ByteArray.empty), v3b (((wds 10 (t ⟨⟩)).map tx).getD 1 ByteArray.empty), v3c (((wds 10 (t ⟨⟩)).map tx).getD 1 ByteArray.empty), v3a (((wds 10 (t ⟨⟩)).map tx).getD 2 ByteArray.empty), v3b (((wds 10 (t ⟨⟩)).map tx).getD 2 ByteArray.empty), v3c (((wds 10 (t ⟨⟩)).map tx).getD 2 ByteArray.empty)] 2 = wOk (t ⟨⟩) := by unfold wOk; rw [hS, p0a, p0b, p0c]; exact congrArg (webOk _ _ _ _) hnn
    have b0 : ltB 0 (IntKind.wrap .i64 (((((wds 10 (t ⟨⟩)).length : Nat)) : Int) - 1)) = true := by rw [hwr, ltB_iff]; omega
    have x0 : (0 : Int) ≤ 0 ∧ (0 : Int) < ((((wds 10 (t ⟨⟩)).length : Nat)) : Int) := ⟨by omega, by unfold nl at hn; omega⟩
    have y0 : 0 < ((wds 10 (t ⟨⟩)).map tx).length := by rw [List.length_map]; unfold nl at hn; omega
    have z0 : (((wds 10 (t ⟨⟩)).map tx).getD 0 ByteArray.empty).size ≤ 1048576 := ln_size (t ⟨⟩) 0 hsz
    have g0 : (!(nrOk 3 (((wds 10 (t ⟨⟩)).map tx).getD 0 ByteArray.empty))) = false := ntf (show gd (t ⟨⟩) 0 = true from allI_at hg (by omega))
    have b1 : ltB 1 (IntKind.wrap .i64 (((((wds 10 (t ⟨⟩)).length : Nat)) : Int) - 1)) = true := by rw [hwr, ltB_iff]; omega
    have x1 : (0 : Int) ≤ 1 ∧ (1 : Int) < ((((wds 10 (t ⟨⟩)).length : Nat)) : Int) := ⟨by omega, by unfold nl at hn; omega⟩
    have y1 : 1 < ((wds 10 (t ⟨⟩)).map tx).length := by rw [List.length_map]; unfold nl at hn; omega
    have z1 : (((wds 10 (t ⟨⟩)).map tx).getD 1 ByteArray.empty).size ≤ 1048576 := ln_size (t ⟨⟩) 1 hsz
    have g1 : (!(nrOk 3 (((wds 10 (t ⟨⟩)).map tx).getD 1 ByteArray.empty))) = false := ntf (show gd (t ⟨⟩) 1 = true from allI_at hg (by omega))
    have b2 : ltB 2 (IntKind.wrap .i64 (((((wds 10 (t ⟨⟩)).length : Nat)) : Int) - 1)) = true := by rw [hwr, ltB_iff]; omega
    have x2 : (0 : Int) ≤ 2 ∧ (2 : Int) < ((((wds 10 (t ⟨⟩)).length : Nat)) : Int) := ⟨by omega, by unfold nl at hn; omega⟩
    have y2 : 2 < ((wds 10 (t ⟨⟩)).map tx).length := by rw [List.length_map]; unfold nl at hn; omega
    have z2 : (((wds 10 (t ⟨⟩)).map tx).getD 2 ByteArray.empty).size ≤ 1048576 := ln_size (t ⟨⟩) 2 hsz
    have g2 : (!(nrOk 3 (((wds 10 (t ⟨⟩)).map tx).getD 2 ByteArray.empty))) = false := ntf (show gd (t ⟨⟩) 2 = true from allI_at hg (by omega))
    have hw2 := congrArg not (hW.trans hv)
    refine ⟨_, HLe.refl _, ?_⟩
    cbv
    repeat' first | (refine Ob.mk ?_ ?_; (focus (first | exact hsp | exact hx0 | exact hx1 | exact x0 | exact y0 | exact z0 | exact x1 | exact y1 | exact z1 | exact x2 | exact y2 | exact z2 | exact p0a | exact p0b | exact p0c | exact hS | exact hnn | exact ⟨rfl, rfl, by decide⟩ | exact rfl)); cbv) | (refine Br.f t1 ?_; cbv) | (refine Br.f t2 ?_; cbv) | (refine Br.f t3 ?_; cbv) | (refine Br.t b0 ?_; cbv) | (refine Br.f g0 ?_; cbv) | (refine Br.t b1 ?_; cbv) | (refine Br.f g1 ?_; cbv) | (refine Br.t b2 ?_; cbv) | (refine Br.f g2 ?_; cbv) | (refine Br.f be ?_; cbv) | (refine Br.f hw2 ?_; cbv) | (refine Loop.mk 70 ?_; cbv) | (refine Gen.same ?_; cbv)
  · cases hs
set_option maxRecDepth 100000 in
set_option maxHeartbeats 8000000 in
theorem ok8F3 : Ok Tryd.prog 8 (sRF fun t => okA t = true ∧ nl t = 3 ∧ gdTo t 3 = true ∧ wOk t = false) := ok_of_wpaH (E := E8) mixed tts E8ok fn8 fun args H v H' o hs ho => by
  split at hs
  · rename_i t
    cases hs
    have hsz : (t ⟨⟩).size ≤ 1048576 := ho.two.2
    have hsp : (10 : Int) = (((10 : UInt8).toNat : Nat) : Int) ∧ (t ⟨⟩).size ≤ 1048576 := ⟨rfl, hsz⟩
    have hpos := wds_pos 10 (t ⟨⟩)
    have hle := wds_le 10 (t ⟨⟩)
    have hwr : (IntKind.wrap .i64 (((((wds 10 (t ⟨⟩)).length : Nat)) : Int) - 1)) = ((nl (t ⟨⟩) : Nat) : Int) := by rw [wrap64 (by omega) (by omega)]; unfold nl; omega
    have hp : 0 + (IntKind.wrap .i64 (((((wds 10 (t ⟨⟩)).length : Nat)) : Int) - 1)).toNat * 1 = nl (t ⟨⟩) := by rw [hwr, Int.toNat_natCast]; omega
    have htl : (!((((wds 10 (t ⟨⟩)).map tx).getD (0 + (IntKind.wrap .i64 (((((wds 10 (t ⟨⟩)).length : Nat)) : Int) - 1)).toNat * 1) ByteArray.empty).toList == ({ data := #[] } : ByteArray).toList)) = !(tl (t ⟨⟩)) := by rw [hp]; exact congrArg _ (tl_form _)
    have hx0 : 0 ≤ (IntKind.wrap .i64 (((((wds 10 (t ⟨⟩)).length : Nat)) : Int) - 1)) ∧ (IntKind.wrap .i64 (((((wds 10 (t ⟨⟩)).length : Nat)) : Int) - 1)) < ((((wds 10 (t ⟨⟩)).length : Nat)) : Int) := by rw [hwr]; unfold nl; omega
    have hx1 : 0 + (IntKind.wrap .i64 (((((wds 10 (t ⟨⟩)).length : Nat)) : Int) - 1)).toNat * 1 < ((wds 10 (t ⟨⟩)).map tx).length := by rw [hp, List.length_map]; unfold nl; omega
    have hA : okA (t ⟨⟩) = true := ho.two.1.1
    have hn : nl (t ⟨⟩) = 3 := ho.two.1.2.1
    have hg : gdTo (t ⟨⟩) 3 = true := ho.two.1.2.2.1
    have hv : wOk (t ⟨⟩) = false := ho.two.1.2.2.2
    have hA2 := okA_t hA
    have t1 : (!((((wds 10 (t ⟨⟩)).map tx).getD (0 + (IntKind.wrap .i64 (((((wds 10 (t ⟨⟩)).length : Nat)) : Int) - 1)).toNat * 1) ByteArray.empty).toList == ({ data := #[] } : ByteArray).toList)) = false := by rw [htl, hA2.1]; rfl
    have t2 : ltB (IntKind.wrap .i64 (((((wds 10 (t ⟨⟩)).length : Nat)) : Int) - 1)) 2 = false := by rw [hwr, ltB_no]; omega
    have t3 : ltB 9 (IntKind.wrap .i64 (((((wds 10 (t ⟨⟩)).length : Nat)) : Int) - 1)) = false := by rw [hwr, ltB_no]; omega
    have be : ltB 3 (IntKind.wrap .i64 (((((wds 10 (t ⟨⟩)).length : Nat)) : Int) - 1)) = false := by rw [hwr, ltB_no]; omega
    have gg0 : nrOk 3 (((wds 10 (t ⟨⟩)).map tx).getD 0 ByteArray.empty) = true := show gd (t ⟨⟩) 0 = true from allI_at hg (by omega)
    have p0a : v3a (((wds 10 (t ⟨⟩)).map tx).getD 0 ByteArray.empty) = n3 (ln (t ⟨⟩) 0) 0 := (v3_ok gg0).1
    have p0b : v3b (((wds 10 (t ⟨⟩)).map tx).getD 0 ByteArray.empty) = n3 (ln (t ⟨⟩) 0) 1 := (v3_ok gg0).2.1
    have p0c : v3c (((wds 10 (t ⟨⟩)).map tx).getD 0 ByteArray.empty) = n3 (ln (t ⟨⟩) 0) 2 := (v3_ok gg0).2.2
    have gg1 : nrOk 3 (((wds 10 (t ⟨⟩)).map tx).getD 1 ByteArray.empty) = true := show gd (t ⟨⟩) 1 = true from allI_at hg (by omega)
    have p1a : v3a (((wds 10 (t ⟨⟩)).map tx).getD 1 ByteArray.empty) = n3 (ln (t ⟨⟩) 1) 0 := (v3_ok gg1).1
    have p1b : v3b (((wds 10 (t ⟨⟩)).map tx).getD 1 ByteArray.empty) = n3 (ln (t ⟨⟩) 1) 1 := (v3_ok gg1).2.1
    have p1c : v3c (((wds 10 (t ⟨⟩)).map tx).getD 1 ByteArray.empty) = n3 (ln (t ⟨⟩) 1) 2 := (v3_ok gg1).2.2
    have gg2 : nrOk 3 (((wds 10 (t ⟨⟩)).map tx).getD 2 ByteArray.empty) = true := show gd (t ⟨⟩) 2 = true from allI_at hg (by omega)
    have p2a : v3a (((wds 10 (t ⟨⟩)).map tx).getD 2 ByteArray.empty) = n3 (ln (t ⟨⟩) 2) 0 := (v3_ok gg2).1
    have p2b : v3b (((wds 10 (t ⟨⟩)).map tx).getD 2 ByteArray.empty) = n3 (ln (t ⟨⟩) 2) 1 := (v3_ok gg2).2.1
    have p2c : v3c (((wds 10 (t ⟨⟩)).map tx).getD 2 ByteArray.empty) = n3 (ln (t ⟨⟩) 2) 2 := (v3_ok gg2).2.2
    have hL : spL (t ⟨⟩) = [n3 (ln (t ⟨⟩) 1) 0, n3 (ln (t ⟨⟩) 1) 1, n3 (ln (t ⟨⟩) 1) 2, n3 (ln (t ⟨⟩) 2) 0, n3 (ln (t ⟨⟩) 2) 1, n3 (ln (t ⟨⟩) 2) 2] := by unfold spL; rw [hn]; rfl
    have hS : [v3a (((wds 10 (t ⟨⟩)).map tx).getD 1 ByteArray.empty), v3b (((wds 10 (t ⟨⟩)).map tx).getD 1 ByteArray.empty), v3c (((wds 10 (t ⟨⟩)).map tx).getD 1 ByteArray.empty), v3a (((wds 10 (t ⟨⟩)).map tx).getD 2 ByteArray.empty), v3b (((wds 10 (t ⟨⟩)).map tx).getD 2 ByteArray.empty), v3c (((wds 10 (t ⟨⟩)).map tx).getD 2 ByteArray.empty)] = spL (t ⟨⟩) := by rw [hL, p1a, p1b, p1c, p2a, p2b, p2c]
    have hnn : 2 = nl (t ⟨⟩) - 1 := by omega
    have hW : webOk (v3a (((wds 10 (t ⟨⟩)).map tx).getD 0 ByteArray.empty)) (v3b (((wds 10 (t ⟨⟩)).map tx).getD 0 ByteArray.empty)) (v3c (((wds 10 (t ⟨⟩)).map tx).getD 0 ByteArray.empty)) [v3a (((wds 10 (t ⟨⟩)).map tx).getD 1 ByteArray.empty), v3b (((wds 10 (t ⟨⟩)).map tx).getD 1 ByteArray.empty), v3c (((wds 10 (t ⟨⟩)).map tx).getD 1 ByteArray.empty), v3a (((wds 10 (t ⟨⟩)).map tx).getD 2 ByteArray.empty), v3b (((wds 10 (t ⟨⟩)).map tx).getD 2 ByteArray.empty), v3c (((wds 10 (t ⟨⟩)).map tx).getD 2 ByteArray.empty)] 2 = wOk (t ⟨⟩) := by unfold wOk; rw [hS, p0a, p0b, p0c]; exact congrArg (webOk _ _ _ _) hnn
    have b0 : ltB 0 (IntKind.wrap .i64 (((((wds 10 (t ⟨⟩)).length : Nat)) : Int) - 1)) = true := by rw [hwr, ltB_iff]; omega
    have x0 : (0 : Int) ≤ 0 ∧ (0 : Int) < ((((wds 10 (t ⟨⟩)).length : Nat)) : Int) := ⟨by omega, by unfold nl at hn; omega⟩
    have y0 : 0 < ((wds 10 (t ⟨⟩)).map tx).length := by rw [List.length_map]; unfold nl at hn; omega
    have z0 : (((wds 10 (t ⟨⟩)).map tx).getD 0 ByteArray.empty).size ≤ 1048576 := ln_size (t ⟨⟩) 0 hsz
    have g0 : (!(nrOk 3 (((wds 10 (t ⟨⟩)).map tx).getD 0 ByteArray.empty))) = false := ntf (show gd (t ⟨⟩) 0 = true from allI_at hg (by omega))
    have b1 : ltB 1 (IntKind.wrap .i64 (((((wds 10 (t ⟨⟩)).length : Nat)) : Int) - 1)) = true := by rw [hwr, ltB_iff]; omega
    have x1 : (0 : Int) ≤ 1 ∧ (1 : Int) < ((((wds 10 (t ⟨⟩)).length : Nat)) : Int) := ⟨by omega, by unfold nl at hn; omega⟩
    have y1 : 1 < ((wds 10 (t ⟨⟩)).map tx).length := by rw [List.length_map]; unfold nl at hn; omega
    have z1 : (((wds 10 (t ⟨⟩)).map tx).getD 1 ByteArray.empty).size ≤ 1048576 := ln_size (t ⟨⟩) 1 hsz
    have g1 : (!(nrOk 3 (((wds 10 (t ⟨⟩)).map tx).getD 1 ByteArray.empty))) = false := ntf (show gd (t ⟨⟩) 1 = true from allI_at hg (by omega))
    have b2 : ltB 2 (IntKind.wrap .i64 (((((wds 10 (t ⟨⟩)).length : Nat)) : Int) - 1)) = true := by rw [hwr, ltB_iff]; omega
    have x2 : (0 : Int) ≤ 2 ∧ (2 : Int) < ((((wds 10 (t ⟨⟩)).length : Nat)) : Int) := ⟨by omega, by unfold nl at hn; omega⟩
    have y2 : 2 < ((wds 10 (t ⟨⟩)).map tx).length := by rw [List.length_map]; unfold nl at hn; omega
    have z2 : (((wds 10 (t ⟨⟩)).map tx).getD 2 ByteArray.empty).size ≤ 1048576 := ln_size (t ⟨⟩) 2 hsz
    have g2 : (!(nrOk 3 (((wds 10 (t ⟨⟩)).map tx).getD 2 ByteArray.empty))) = false := ntf (show gd (t ⟨⟩) 2 = true from allI_at hg (by omega))
    have hw2 := congrArg not (hW.trans hv)
    refine ⟨_, HLe.refl _, ?_⟩
    cbv
    repeat' first | (refine Ob.mk ?_ ?_; (focus (first | exact hsp | exact hx0 | exact hx1 | exact x0 | exact y0 | exact z0 | exact x1 | exact y1 | exact z1 | exact x2 | exact y2 | exact z2 | exact p0a | exact p0b | exact p0c | exact hS | exact hnn | exact ⟨rfl, rfl, by decide⟩ | exact rfl)); cbv) | (refine Br.f t1 ?_; cbv) | (refine Br.f t2 ?_; cbv) | (refine Br.f t3 ?_; cbv) | (refine Br.t b0 ?_; cbv) | (refine Br.f g0 ?_; cbv) | (refine Br.t b1 ?_; cbv) | (refine Br.f g1 ?_; cbv) | (refine Br.t b2 ?_; cbv) | (refine Br.f g2 ?_; cbv) | (refine Br.f be ?_; cbv) | (refine Br.t hw2 ?_; cbv) | (refine Loop.mk 70 ?_; cbv) | (refine Gen.same ?_; cbv)
  · cases hs
end Go.Proofs.YteifneielgnniaaDoor.Sh
end
section
namespace Go.Proofs.YteifneielgnniaaDoor.Sh
open Go Go.Proofs
attribute [local irreducible] wds tx rn rnC rnOk nrOk v3a v3b v3c wAt n3 webOk spL tl nl wOk
set_option maxRecDepth 100000 in
set_option maxHeartbeats 8000000 in
theorem ok8T4 : Ok Tryd.prog 8 (sRT fun t => okA t = true ∧ nl t = 4 ∧ gdTo t 4 = true ∧ wOk t = true) := ok_of_wpaH (E := E8) mixed tts E8ok fn8 fun args H v H' o hs ho => by
  split at hs
  · rename_i t
    cases hs
    have hsz : (t ⟨⟩).size ≤ 1048576 := ho.two.2
    have hsp : (10 : Int) = (((10 : UInt8).toNat : Nat) : Int) ∧ (t ⟨⟩).size ≤ 1048576 := ⟨rfl, hsz⟩
    have hpos := wds_pos 10 (t ⟨⟩)
    have hle := wds_le 10 (t ⟨⟩)
    have hwr : (IntKind.wrap .i64 (((((wds 10 (t ⟨⟩)).length : Nat)) : Int) - 1)) = ((nl (t ⟨⟩) : Nat) : Int) := by rw [wrap64 (by omega) (by omega)]; unfold nl; omega
    have hp : 0 + (IntKind.wrap .i64 (((((wds 10 (t ⟨⟩)).length : Nat)) : Int) - 1)).toNat * 1 = nl (t ⟨⟩) := by rw [hwr, Int.toNat_natCast]; omega
    have htl : (!((((wds 10 (t ⟨⟩)).map tx).getD (0 + (IntKind.wrap .i64 (((((wds 10 (t ⟨⟩)).length : Nat)) : Int) - 1)).toNat * 1) ByteArray.empty).toList == ({ data := #[] } : ByteArray).toList)) = !(tl (t ⟨⟩)) := by rw [hp]; exact congrArg _ (tl_form _)
    have hx0 : 0 ≤ (IntKind.wrap .i64 (((((wds 10 (t ⟨⟩)).length : Nat)) : Int) - 1)) ∧ (IntKind.wrap .i64 (((((wds 10 (t ⟨⟩)).length : Nat)) : Int) - 1)) < ((((wds 10 (t ⟨⟩)).length : Nat)) : Int) := by rw [hwr]; unfold nl; omega
    have hx1 : 0 + (IntKind.wrap .i64 (((((wds 10 (t ⟨⟩)).length : Nat)) : Int) - 1)).toNat * 1 < ((wds 10 (t ⟨⟩)).map tx).length := by rw [hp, List.length_map]; unfold nl; omega
    have hA : okA (t ⟨⟩) = true := ho.two.1.1
    have hn : nl (t ⟨⟩) = 4 := ho.two.1.2.1
    have hg : gdTo (t ⟨⟩) 4 = true := ho.two.1.2.2.1
    have hv : wOk (t ⟨⟩) = true := ho.two.1.2.2.2
    have hA2 := okA_t hA
    have t1 : (!((((wds 10 (t ⟨⟩)).map tx).getD (0 + (IntKind.wrap .i64 (((((wds 10 (t ⟨⟩)).length : Nat)) : Int) - 1)).toNat * 1) ByteArray.empty).toList == ({ data := #[] } : ByteArray).toList)) = false := by rw [htl, hA2.1]; rfl
    have t2 : ltB (IntKind.wrap .i64 (((((wds 10 (t ⟨⟩)).length : Nat)) : Int) - 1)) 2 = false := by rw [hwr, ltB_no]; omega
    have t3 : ltB 9 (IntKind.wrap .i64 (((((wds 10 (t ⟨⟩)).length : Nat)) : Int) - 1)) = false := by rw [hwr, ltB_no]; omega
    have be : ltB 4 (IntKind.wrap .i64 (((((wds 10 (t ⟨⟩)).length : Nat)) : Int) - 1)) = false := by rw [hwr, ltB_no]; omega
    have gg0 : nrOk 3 (((wds 10 (t ⟨⟩)).map tx).getD 0 ByteArray.empty) = true := show gd (t ⟨⟩) 0 = true from allI_at hg (by omega)
    have p0a : v3a (((wds 10 (t ⟨⟩)).map tx).getD 0 ByteArray.empty) = n3 (ln (t ⟨⟩) 0) 0 := (v3_ok gg0).1
    have p0b : v3b (((wds 10 (t ⟨⟩)).map tx).getD 0 ByteArray.empty) = n3 (ln (t ⟨⟩) 0) 1 := (v3_ok gg0).2.1
    have p0c : v3c (((wds 10 (t ⟨⟩)).map tx).getD 0 ByteArray.empty) = n3 (ln (t ⟨⟩) 0) 2 := (v3_ok gg0).2.2
    have gg1 : nrOk 3 (((wds 10 (t ⟨⟩)).map tx).getD 1 ByteArray.empty) = true := show gd (t ⟨⟩) 1 = true from allI_at hg (by omega)
    have p1a : v3a (((wds 10 (t ⟨⟩)).map tx).getD 1 ByteArray.empty) = n3 (ln (t ⟨⟩) 1) 0 := (v3_ok gg1).1
    have p1b : v3b (((wds 10 (t ⟨⟩)).map tx).getD 1 ByteArray.empty) = n3 (ln (t ⟨⟩) 1) 1 := (v3_ok gg1).2.1
    have p1c : v3c (((wds 10 (t ⟨⟩)).map tx).getD 1 ByteArray.empty) = n3 (ln (t ⟨⟩) 1) 2 := (v3_ok gg1).2.2
    have gg2 : nrOk 3 (((wds 10 (t ⟨⟩)).map tx).getD 2 ByteArray.empty) = true := show gd (t ⟨⟩) 2 = true from allI_at hg (by omega)
    have p2a : v3a (((wds 10 (t ⟨⟩)).map tx).getD 2 ByteArray.empty) = n3 (ln (t ⟨⟩) 2) 0 := (v3_ok gg2).1
    have p2b : v3b (((wds 10 (t ⟨⟩)).map tx).getD 2 ByteArray.empty) = n3 (ln (t ⟨⟩) 2) 1 := (v3_ok gg2).2.1
    have p2c : v3c (((wds 10 (t ⟨⟩)).map tx).getD 2 ByteArray.empty) = n3 (ln (t ⟨⟩) 2) 2 := (v3_ok gg2).2.2
    have gg3 : nrOk 3 (((wds 10 (t ⟨⟩)).map tx).getD 3 ByteArray.empty) = true := show gd (t ⟨⟩) 3 = true from allI_at hg (by omega)
    have p3a : v3a (((wds 10 (t ⟨⟩)).map tx).getD 3 ByteArray.empty) = n3 (ln (t ⟨⟩) 3) 0 := (v3_ok gg3).1
    have p3b : v3b (((wds 10 (t ⟨⟩)).map tx).getD 3 ByteArray.empty) = n3 (ln (t ⟨⟩) 3) 1 := (v3_ok gg3).2.1
    have p3c : v3c (((wds 10 (t ⟨⟩)).map tx).getD 3 ByteArray.empty) = n3 (ln (t ⟨⟩) 3) 2 := (v3_ok gg3).2.2
    have hL : spL (t ⟨⟩) = [n3 (ln (t ⟨⟩) 1) 0, n3 (ln (t ⟨⟩) 1) 1, n3 (ln (t ⟨⟩) 1) 2, n3 (ln (t ⟨⟩) 2) 0, n3 (ln (t ⟨⟩) 2) 1, n3 (ln (t ⟨⟩) 2) 2, n3 (ln (t ⟨⟩) 3) 0, n3 (ln (t ⟨⟩) 3) 1, n3 (ln (t ⟨⟩) 3) 2] := by unfold spL; rw [hn]; rfl
    have hS : [v3a (((wds 10 (t ⟨⟩)).map tx).getD 1 ByteArray.empty), v3b (((wds 10 (t ⟨⟩)).map tx).getD 1 ByteArray.empty), v3c (((wds 10 (t ⟨⟩)).map tx).getD 1 ByteArray.empty), v3a (((wds 10 (t ⟨⟩)).map tx).getD 2 ByteArray.empty), v3b (((wds 10 (t ⟨⟩)).map tx).getD 2 ByteArray.empty), v3c (((wds 10 (t ⟨⟩)).map tx).getD 2 ByteArray.empty), v3a (((wds 10 (t ⟨⟩)).map tx).getD 3 ByteArray.empty), v3b (((wds 10 (t ⟨⟩)).map tx).getD 3 ByteArray.empty), v3c (((wds 10 (t ⟨⟩)).map tx).getD 3 ByteArray.empty)] = spL (t ⟨⟩) := by rw [hL, p1a, p1b, p1c, p2a, p2b, p2c, p3a, p3b, p3c]
    have hnn : 3 = nl (t ⟨⟩) - 1 := by omega
    have hW : webOk (v3a (((wds 10 (t ⟨⟩)).map tx).getD 0 ByteArray.empty)) (v3b (((wds 10 (t ⟨⟩)).map tx).getD 0 ByteArray.empty)) (v3c (((wds 10 (t ⟨⟩)).map tx).getD 0 ByteArray.empty)) [v3a (((wds 10 (t ⟨⟩)).map tx).getD 1 ByteArray.empty), v3b (((wds 10 (t ⟨⟩)).map tx).getD 1 ByteArray.empty), v3c (((wds 10 (t ⟨⟩)).map tx).getD 1 ByteArray.empty), v3a (((wds 10 (t ⟨⟩)).map tx).getD 2 ByteArray.empty), v3b (((wds 10 (t ⟨⟩)).map tx).getD 2 ByteArray.empty), v3c (((wds 10 (t ⟨⟩)).map tx).getD 2 ByteArray.empty), v3a (((wds 10 (t ⟨⟩)).map tx).getD 3 ByteArray.empty), v3b (((wds 10 (t ⟨⟩)).map tx).getD 3 ByteArray.empty), v3c (((wds 10 (t ⟨⟩)).map tx).getD 3 ByteArray.empty)] 3 = wOk (t ⟨⟩) := by unfold wOk; rw [hS, p0a, p0b, p0c]; exact congrArg (webOk _ _ _ _) hnn
    have b0 : ltB 0 (IntKind.wrap .i64 (((((wds 10 (t ⟨⟩)).length : Nat)) : Int) - 1)) = true := by rw [hwr, ltB_iff]; omega
    have x0 : (0 : Int) ≤ 0 ∧ (0 : Int) < ((((wds 10 (t ⟨⟩)).length : Nat)) : Int) := ⟨by omega, by unfold nl at hn; omega⟩
    have y0 : 0 < ((wds 10 (t ⟨⟩)).map tx).length := by rw [List.length_map]; unfold nl at hn; omega
    have z0 : (((wds 10 (t ⟨⟩)).map tx).getD 0 ByteArray.empty).size ≤ 1048576 := ln_size (t ⟨⟩) 0 hsz
    have g0 : (!(nrOk 3 (((wds 10 (t ⟨⟩)).map tx).getD 0 ByteArray.empty))) = false := ntf (show gd (t ⟨⟩) 0 = true from allI_at hg (by omega))
    have b1 : ltB 1 (IntKind.wrap .i64 (((((wds 10 (t ⟨⟩)).length : Nat)) : Int) - 1)) = true := by rw [hwr, ltB_iff]; omega
    have x1 : (0 : Int) ≤ 1 ∧ (1 : Int) < ((((wds 10 (t ⟨⟩)).length : Nat)) : Int) := ⟨by omega, by unfold nl at hn; omega⟩
    have y1 : 1 < ((wds 10 (t ⟨⟩)).map tx).length := by rw [List.length_map]; unfold nl at hn; omega
    have z1 : (((wds 10 (t ⟨⟩)).map tx).getD 1 ByteArray.empty).size ≤ 1048576 := ln_size (t ⟨⟩) 1 hsz
    have g1 : (!(nrOk 3 (((wds 10 (t ⟨⟩)).map tx).getD 1 ByteArray.empty))) = false := ntf (show gd (t ⟨⟩) 1 = true from allI_at hg (by omega))
    have b2 : ltB 2 (IntKind.wrap .i64 (((((wds 10 (t ⟨⟩)).length : Nat)) : Int) - 1)) = true := by rw [hwr, ltB_iff]; omega
    have x2 : (0 : Int) ≤ 2 ∧ (2 : Int) < ((((wds 10 (t ⟨⟩)).length : Nat)) : Int) := ⟨by omega, by unfold nl at hn; omega⟩
    have y2 : 2 < ((wds 10 (t ⟨⟩)).map tx).length := by rw [List.length_map]; unfold nl at hn; omega
    have z2 : (((wds 10 (t ⟨⟩)).map tx).getD 2 ByteArray.empty).size ≤ 1048576 := ln_size (t ⟨⟩) 2 hsz
    have g2 : (!(nrOk 3 (((wds 10 (t ⟨⟩)).map tx).getD 2 ByteArray.empty))) = false := ntf (show gd (t ⟨⟩) 2 = true from allI_at hg (by omega))
    have b3 : ltB 3 (IntKind.wrap .i64 (((((wds 10 (t ⟨⟩)).length : Nat)) : Int) - 1)) = true := by rw [hwr, ltB_iff]; omega
    have x3 : (0 : Int) ≤ 3 ∧ (3 : Int) < ((((wds 10 (t ⟨⟩)).length : Nat)) : Int) := ⟨by omega, by unfold nl at hn; omega⟩
    have y3 : 3 < ((wds 10 (t ⟨⟩)).map tx).length := by rw [List.length_map]; unfold nl at hn; omega
    have z3 : (((wds 10 (t ⟨⟩)).map tx).getD 3 ByteArray.empty).size ≤ 1048576 := ln_size (t ⟨⟩) 3 hsz
    have g3 : (!(nrOk 3 (((wds 10 (t ⟨⟩)).map tx).getD 3 ByteArray.empty))) = false := ntf (show gd (t ⟨⟩) 3 = true from allI_at hg (by omega))
    have hw2 := congrArg not (hW.trans hv)
    refine ⟨_, HLe.refl _, ?_⟩
    cbv
    repeat' first | (refine Ob.mk ?_ ?_; (focus (first | exact hsp | exact hx0 | exact hx1 | exact x0 | exact y0 | exact z0 | exact x1 | exact y1 | exact z1 | exact x2 | exact y2 | exact z2 | exact x3 | exact y3 | exact z3 | exact p0a | exact p0b | exact p0c | exact hS | exact hnn | exact ⟨rfl, rfl, by decide⟩ | exact rfl)); cbv) | (refine Br.f t1 ?_; cbv) | (refine Br.f t2 ?_; cbv) | (refine Br.f t3 ?_; cbv) | (refine Br.t b0 ?_; cbv) | (refine Br.f g0 ?_; cbv) | (refine Br.t b1 ?_; cbv) | (refine Br.f g1 ?_; cbv) | (refine Br.t b2 ?_; cbv) | (refine Br.f g2 ?_; cbv) | (refine Br.t b3 ?_; cbv) | (refine Br.f g3 ?_; cbv) | (refine Br.f be ?_; cbv) | (refine Br.f hw2 ?_; cbv) | (refine Loop.mk 70 ?_; cbv) | (refine Gen.same ?_; cbv)
  · cases hs
set_option maxRecDepth 100000 in
set_option maxHeartbeats 8000000 in
theorem ok8F4 : Ok Tryd.prog 8 (sRF fun t => okA t = true ∧ nl t = 4 ∧ gdTo t 4 = true ∧ wOk t = false) := ok_of_wpaH (E := E8) mixed tts E8ok fn8 fun args H v H' o hs ho => by
  split at hs
  · rename_i t
    cases hs
    have hsz : (t ⟨⟩).size ≤ 1048576 := ho.two.2
    have hsp : (10 : Int) = (((10 : UInt8).toNat : Nat) : Int) ∧ (t ⟨⟩).size ≤ 1048576 := ⟨rfl, hsz⟩
    have hpos := wds_pos 10 (t ⟨⟩)
    have hle := wds_le 10 (t ⟨⟩)
    have hwr : (IntKind.wrap .i64 (((((wds 10 (t ⟨⟩)).length : Nat)) : Int) - 1)) = ((nl (t ⟨⟩) : Nat) : Int) := by rw [wrap64 (by omega) (by omega)]; unfold nl; omega
    have hp : 0 + (IntKind.wrap .i64 (((((wds 10 (t ⟨⟩)).length : Nat)) : Int) - 1)).toNat * 1 = nl (t ⟨⟩) := by rw [hwr, Int.toNat_natCast]; omega
    have htl : (!((((wds 10 (t ⟨⟩)).map tx).getD (0 + (IntKind.wrap .i64 (((((wds 10 (t ⟨⟩)).length : Nat)) : Int) - 1)).toNat * 1) ByteArray.empty).toList == ({ data := #[] } : ByteArray).toList)) = !(tl (t ⟨⟩)) := by rw [hp]; exact congrArg _ (tl_form _)
    have hx0 : 0 ≤ (IntKind.wrap .i64 (((((wds 10 (t ⟨⟩)).length : Nat)) : Int) - 1)) ∧ (IntKind.wrap .i64 (((((wds 10 (t ⟨⟩)).length : Nat)) : Int) - 1)) < ((((wds 10 (t ⟨⟩)).length : Nat)) : Int) := by rw [hwr]; unfold nl; omega
    have hx1 : 0 + (IntKind.wrap .i64 (((((wds 10 (t ⟨⟩)).length : Nat)) : Int) - 1)).toNat * 1 < ((wds 10 (t ⟨⟩)).map tx).length := by rw [hp, List.length_map]; unfold nl; omega
    have hA : okA (t ⟨⟩) = true := ho.two.1.1
    have hn : nl (t ⟨⟩) = 4 := ho.two.1.2.1
    have hg : gdTo (t ⟨⟩) 4 = true := ho.two.1.2.2.1
    have hv : wOk (t ⟨⟩) = false := ho.two.1.2.2.2
    have hA2 := okA_t hA
    have t1 : (!((((wds 10 (t ⟨⟩)).map tx).getD (0 + (IntKind.wrap .i64 (((((wds 10 (t ⟨⟩)).length : Nat)) : Int) - 1)).toNat * 1) ByteArray.empty).toList == ({ data := #[] } : ByteArray).toList)) = false := by rw [htl, hA2.1]; rfl
    have t2 : ltB (IntKind.wrap .i64 (((((wds 10 (t ⟨⟩)).length : Nat)) : Int) - 1)) 2 = false := by rw [hwr, ltB_no]; omega
    have t3 : ltB 9 (IntKind.wrap .i64 (((((wds 10 (t ⟨⟩)).length : Nat)) : Int) - 1)) = false := by rw [hwr, ltB_no]; omega
    have be : ltB 4 (IntKind.wrap .i64 (((((wds 10 (t ⟨⟩)).length : Nat)) : Int) - 1)) = false := by rw [hwr, ltB_no]; omega
    have gg0 : nrOk 3 (((wds 10 (t ⟨⟩)).map tx).getD 0 ByteArray.empty) = true := show gd (t ⟨⟩) 0 = true from allI_at hg (by omega)
    have p0a : v3a (((wds 10 (t ⟨⟩)).map tx).getD 0 ByteArray.empty) = n3 (ln (t ⟨⟩) 0) 0 := (v3_ok gg0).1
    have p0b : v3b (((wds 10 (t ⟨⟩)).map tx).getD 0 ByteArray.empty) = n3 (ln (t ⟨⟩) 0) 1 := (v3_ok gg0).2.1
    have p0c : v3c (((wds 10 (t ⟨⟩)).map tx).getD 0 ByteArray.empty) = n3 (ln (t ⟨⟩) 0) 2 := (v3_ok gg0).2.2
    have gg1 : nrOk 3 (((wds 10 (t ⟨⟩)).map tx).getD 1 ByteArray.empty) = true := show gd (t ⟨⟩) 1 = true from allI_at hg (by omega)
    have p1a : v3a (((wds 10 (t ⟨⟩)).map tx).getD 1 ByteArray.empty) = n3 (ln (t ⟨⟩) 1) 0 := (v3_ok gg1).1
    have p1b : v3b (((wds 10 (t ⟨⟩)).map tx).getD 1 ByteArray.empty) = n3 (ln (t ⟨⟩) 1) 1 := (v3_ok gg1).2.1
    have p1c : v3c (((wds 10 (t ⟨⟩)).map tx).getD 1 ByteArray.empty) = n3 (ln (t ⟨⟩) 1) 2 := (v3_ok gg1).2.2
    have gg2 : nrOk 3 (((wds 10 (t ⟨⟩)).map tx).getD 2 ByteArray.empty) = true := show gd (t ⟨⟩) 2 = true from allI_at hg (by omega)
    have p2a : v3a (((wds 10 (t ⟨⟩)).map tx).getD 2 ByteArray.empty) = n3 (ln (t ⟨⟩) 2) 0 := (v3_ok gg2).1
    have p2b : v3b (((wds 10 (t ⟨⟩)).map tx).getD 2 ByteArray.empty) = n3 (ln (t ⟨⟩) 2) 1 := (v3_ok gg2).2.1
    have p2c : v3c (((wds 10 (t ⟨⟩)).map tx).getD 2 ByteArray.empty) = n3 (ln (t ⟨⟩) 2) 2 := (v3_ok gg2).2.2
    have gg3 : nrOk 3 (((wds 10 (t ⟨⟩)).map tx).getD 3 ByteArray.empty) = true := show gd (t ⟨⟩) 3 = true from allI_at hg (by omega)
    have p3a : v3a (((wds 10 (t ⟨⟩)).map tx).getD 3 ByteArray.empty) = n3 (ln (t ⟨⟩) 3) 0 := (v3_ok gg3).1
    have p3b : v3b (((wds 10 (t ⟨⟩)).map tx).getD 3 ByteArray.empty) = n3 (ln (t ⟨⟩) 3) 1 := (v3_ok gg3).2.1
    have p3c : v3c (((wds 10 (t ⟨⟩)).map tx).getD 3 ByteArray.empty) = n3 (ln (t ⟨⟩) 3) 2 := (v3_ok gg3).2.2
    have hL : spL (t ⟨⟩) = [n3 (ln (t ⟨⟩) 1) 0, n3 (ln (t ⟨⟩) 1) 1, n3 (ln (t ⟨⟩) 1) 2, n3 (ln (t ⟨⟩) 2) 0, n3 (ln (t ⟨⟩) 2) 1, n3 (ln (t ⟨⟩) 2) 2, n3 (ln (t ⟨⟩) 3) 0, n3 (ln (t ⟨⟩) 3) 1, n3 (ln (t ⟨⟩) 3) 2] := by unfold spL; rw [hn]; rfl
    have hS : [v3a (((wds 10 (t ⟨⟩)).map tx).getD 1 ByteArray.empty), v3b (((wds 10 (t ⟨⟩)).map tx).getD 1 ByteArray.empty), v3c (((wds 10 (t ⟨⟩)).map tx).getD 1 ByteArray.empty), v3a (((wds 10 (t ⟨⟩)).map tx).getD 2 ByteArray.empty), v3b (((wds 10 (t ⟨⟩)).map tx).getD 2 ByteArray.empty), v3c (((wds 10 (t ⟨⟩)).map tx).getD 2 ByteArray.empty), v3a (((wds 10 (t ⟨⟩)).map tx).getD 3 ByteArray.empty), v3b (((wds 10 (t ⟨⟩)).map tx).getD 3 ByteArray.empty), v3c (((wds 10 (t ⟨⟩)).map tx).getD 3 ByteArray.empty)] = spL (t ⟨⟩) := by rw [hL, p1a, p1b, p1c, p2a, p2b, p2c, p3a, p3b, p3c]
    have hnn : 3 = nl (t ⟨⟩) - 1 := by omega
    have hW : webOk (v3a (((wds 10 (t ⟨⟩)).map tx).getD 0 ByteArray.empty)) (v3b (((wds 10 (t ⟨⟩)).map tx).getD 0 ByteArray.empty)) (v3c (((wds 10 (t ⟨⟩)).map tx).getD 0 ByteArray.empty)) [v3a (((wds 10 (t ⟨⟩)).map tx).getD 1 ByteArray.empty), v3b (((wds 10 (t ⟨⟩)).map tx).getD 1 ByteArray.empty), v3c (((wds 10 (t ⟨⟩)).map tx).getD 1 ByteArray.empty), v3a (((wds 10 (t ⟨⟩)).map tx).getD 2 ByteArray.empty), v3b (((wds 10 (t ⟨⟩)).map tx).getD 2 ByteArray.empty), v3c (((wds 10 (t ⟨⟩)).map tx).getD 2 ByteArray.empty), v3a (((wds 10 (t ⟨⟩)).map tx).getD 3 ByteArray.empty), v3b (((wds 10 (t ⟨⟩)).map tx).getD 3 ByteArray.empty), v3c (((wds 10 (t ⟨⟩)).map tx).getD 3 ByteArray.empty)] 3 = wOk (t ⟨⟩) := by unfold wOk; rw [hS, p0a, p0b, p0c]; exact congrArg (webOk _ _ _ _) hnn
    have b0 : ltB 0 (IntKind.wrap .i64 (((((wds 10 (t ⟨⟩)).length : Nat)) : Int) - 1)) = true := by rw [hwr, ltB_iff]; omega
    have x0 : (0 : Int) ≤ 0 ∧ (0 : Int) < ((((wds 10 (t ⟨⟩)).length : Nat)) : Int) := ⟨by omega, by unfold nl at hn; omega⟩
    have y0 : 0 < ((wds 10 (t ⟨⟩)).map tx).length := by rw [List.length_map]; unfold nl at hn; omega
    have z0 : (((wds 10 (t ⟨⟩)).map tx).getD 0 ByteArray.empty).size ≤ 1048576 := ln_size (t ⟨⟩) 0 hsz
    have g0 : (!(nrOk 3 (((wds 10 (t ⟨⟩)).map tx).getD 0 ByteArray.empty))) = false := ntf (show gd (t ⟨⟩) 0 = true from allI_at hg (by omega))
    have b1 : ltB 1 (IntKind.wrap .i64 (((((wds 10 (t ⟨⟩)).length : Nat)) : Int) - 1)) = true := by rw [hwr, ltB_iff]; omega
    have x1 : (0 : Int) ≤ 1 ∧ (1 : Int) < ((((wds 10 (t ⟨⟩)).length : Nat)) : Int) := ⟨by omega, by unfold nl at hn; omega⟩
    have y1 : 1 < ((wds 10 (t ⟨⟩)).map tx).length := by rw [List.length_map]; unfold nl at hn; omega
    have z1 : (((wds 10 (t ⟨⟩)).map tx).getD 1 ByteArray.empty).size ≤ 1048576 := ln_size (t ⟨⟩) 1 hsz
    have g1 : (!(nrOk 3 (((wds 10 (t ⟨⟩)).map tx).getD 1 ByteArray.empty))) = false := ntf (show gd (t ⟨⟩) 1 = true from allI_at hg (by omega))
    have b2 : ltB 2 (IntKind.wrap .i64 (((((wds 10 (t ⟨⟩)).length : Nat)) : Int) - 1)) = true := by rw [hwr, ltB_iff]; omega
    have x2 : (0 : Int) ≤ 2 ∧ (2 : Int) < ((((wds 10 (t ⟨⟩)).length : Nat)) : Int) := ⟨by omega, by unfold nl at hn; omega⟩
    have y2 : 2 < ((wds 10 (t ⟨⟩)).map tx).length := by rw [List.length_map]; unfold nl at hn; omega
    have z2 : (((wds 10 (t ⟨⟩)).map tx).getD 2 ByteArray.empty).size ≤ 1048576 := ln_size (t ⟨⟩) 2 hsz
    have g2 : (!(nrOk 3 (((wds 10 (t ⟨⟩)).map tx).getD 2 ByteArray.empty))) = false := ntf (show gd (t ⟨⟩) 2 = true from allI_at hg (by omega))
    have b3 : ltB 3 (IntKind.wrap .i64 (((((wds 10 (t ⟨⟩)).length : Nat)) : Int) - 1)) = true := by rw [hwr, ltB_iff]; omega
    have x3 : (0 : Int) ≤ 3 ∧ (3 : Int) < ((((wds 10 (t ⟨⟩)).length : Nat)) : Int) := ⟨by omega, by unfold nl at hn; omega⟩
    have y3 : 3 < ((wds 10 (t ⟨⟩)).map tx).length := by rw [List.length_map]; unfold nl at hn; omega
    have z3 : (((wds 10 (t ⟨⟩)).map tx).getD 3 ByteArray.empty).size ≤ 1048576 := ln_size (t ⟨⟩) 3 hsz
    have g3 : (!(nrOk 3 (((wds 10 (t ⟨⟩)).map tx).getD 3 ByteArray.empty))) = false := ntf (show gd (t ⟨⟩) 3 = true from allI_at hg (by omega))
    have hw2 := congrArg not (hW.trans hv)
    refine ⟨_, HLe.refl _, ?_⟩
    cbv
    repeat' first | (refine Ob.mk ?_ ?_; (focus (first | exact hsp | exact hx0 | exact hx1 | exact x0 | exact y0 | exact z0 | exact x1 | exact y1 | exact z1 | exact x2 | exact y2 | exact z2 | exact x3 | exact y3 | exact z3 | exact p0a | exact p0b | exact p0c | exact hS | exact hnn | exact ⟨rfl, rfl, by decide⟩ | exact rfl)); cbv) | (refine Br.f t1 ?_; cbv) | (refine Br.f t2 ?_; cbv) | (refine Br.f t3 ?_; cbv) | (refine Br.t b0 ?_; cbv) | (refine Br.f g0 ?_; cbv) | (refine Br.t b1 ?_; cbv) | (refine Br.f g1 ?_; cbv) | (refine Br.t b2 ?_; cbv) | (refine Br.f g2 ?_; cbv) | (refine Br.t b3 ?_; cbv) | (refine Br.f g3 ?_; cbv) | (refine Br.f be ?_; cbv) | (refine Br.t hw2 ?_; cbv) | (refine Loop.mk 70 ?_; cbv) | (refine Gen.same ?_; cbv)
  · cases hs
end Go.Proofs.YteifneielgnniaaDoor.Sh
end
section
namespace Go.Proofs.YteifneielgnniaaDoor.Sh
open Go Go.Proofs
attribute [local irreducible] wds tx rn rnC rnOk nrOk v3a v3b v3c wAt n3 webOk spL tl nl wOk
set_option maxRecDepth 100000 in
set_option maxHeartbeats 8000000 in
theorem ok8T5 : Ok Tryd.prog 8 (sRT fun t => okA t = true ∧ nl t = 5 ∧ gdTo t 5 = true ∧ wOk t = true) := ok_of_wpaH (E := E8) mixed tts E8ok fn8 fun args H v H' o hs ho => by
  split at hs
  · rename_i t
    cases hs
    have hsz : (t ⟨⟩).size ≤ 1048576 := ho.two.2
    have hsp : (10 : Int) = (((10 : UInt8).toNat : Nat) : Int) ∧ (t ⟨⟩).size ≤ 1048576 := ⟨rfl, hsz⟩
    have hpos := wds_pos 10 (t ⟨⟩)
    have hle := wds_le 10 (t ⟨⟩)
    have hwr : (IntKind.wrap .i64 (((((wds 10 (t ⟨⟩)).length : Nat)) : Int) - 1)) = ((nl (t ⟨⟩) : Nat) : Int) := by rw [wrap64 (by omega) (by omega)]; unfold nl; omega
    have hp : 0 + (IntKind.wrap .i64 (((((wds 10 (t ⟨⟩)).length : Nat)) : Int) - 1)).toNat * 1 = nl (t ⟨⟩) := by rw [hwr, Int.toNat_natCast]; omega
    have htl : (!((((wds 10 (t ⟨⟩)).map tx).getD (0 + (IntKind.wrap .i64 (((((wds 10 (t ⟨⟩)).length : Nat)) : Int) - 1)).toNat * 1) ByteArray.empty).toList == ({ data := #[] } : ByteArray).toList)) = !(tl (t ⟨⟩)) := by rw [hp]; exact congrArg _ (tl_form _)
    have hx0 : 0 ≤ (IntKind.wrap .i64 (((((wds 10 (t ⟨⟩)).length : Nat)) : Int) - 1)) ∧ (IntKind.wrap .i64 (((((wds 10 (t ⟨⟩)).length : Nat)) : Int) - 1)) < ((((wds 10 (t ⟨⟩)).length : Nat)) : Int) := by rw [hwr]; unfold nl; omega
    have hx1 : 0 + (IntKind.wrap .i64 (((((wds 10 (t ⟨⟩)).length : Nat)) : Int) - 1)).toNat * 1 < ((wds 10 (t ⟨⟩)).map tx).length := by rw [hp, List.length_map]; unfold nl; omega
    have hA : okA (t ⟨⟩) = true := ho.two.1.1
    have hn : nl (t ⟨⟩) = 5 := ho.two.1.2.1
    have hg : gdTo (t ⟨⟩) 5 = true := ho.two.1.2.2.1
    have hv : wOk (t ⟨⟩) = true := ho.two.1.2.2.2
    have hA2 := okA_t hA
    have t1 : (!((((wds 10 (t ⟨⟩)).map tx).getD (0 + (IntKind.wrap .i64 (((((wds 10 (t ⟨⟩)).length : Nat)) : Int) - 1)).toNat * 1) ByteArray.empty).toList == ({ data := #[] } : ByteArray).toList)) = false := by rw [htl, hA2.1]; rfl
    have t2 : ltB (IntKind.wrap .i64 (((((wds 10 (t ⟨⟩)).length : Nat)) : Int) - 1)) 2 = false := by rw [hwr, ltB_no]; omega
    have t3 : ltB 9 (IntKind.wrap .i64 (((((wds 10 (t ⟨⟩)).length : Nat)) : Int) - 1)) = false := by rw [hwr, ltB_no]; omega
    have be : ltB 5 (IntKind.wrap .i64 (((((wds 10 (t ⟨⟩)).length : Nat)) : Int) - 1)) = false := by rw [hwr, ltB_no]; omega
    have gg0 : nrOk 3 (((wds 10 (t ⟨⟩)).map tx).getD 0 ByteArray.empty) = true := show gd (t ⟨⟩) 0 = true from allI_at hg (by omega)
    have p0a : v3a (((wds 10 (t ⟨⟩)).map tx).getD 0 ByteArray.empty) = n3 (ln (t ⟨⟩) 0) 0 := (v3_ok gg0).1
    have p0b : v3b (((wds 10 (t ⟨⟩)).map tx).getD 0 ByteArray.empty) = n3 (ln (t ⟨⟩) 0) 1 := (v3_ok gg0).2.1
    have p0c : v3c (((wds 10 (t ⟨⟩)).map tx).getD 0 ByteArray.empty) = n3 (ln (t ⟨⟩) 0) 2 := (v3_ok gg0).2.2
    have gg1 : nrOk 3 (((wds 10 (t ⟨⟩)).map tx).getD 1 ByteArray.empty) = true := show gd (t ⟨⟩) 1 = true from allI_at hg (by omega)
    have p1a : v3a (((wds 10 (t ⟨⟩)).map tx).getD 1 ByteArray.empty) = n3 (ln (t ⟨⟩) 1) 0 := (v3_ok gg1).1
    have p1b : v3b (((wds 10 (t ⟨⟩)).map tx).getD 1 ByteArray.empty) = n3 (ln (t ⟨⟩) 1) 1 := (v3_ok gg1).2.1
    have p1c : v3c (((wds 10 (t ⟨⟩)).map tx).getD 1 ByteArray.empty) = n3 (ln (t ⟨⟩) 1) 2 := (v3_ok gg1).2.2
    have gg2 : nrOk 3 (((wds 10 (t ⟨⟩)).map tx).getD 2 ByteArray.empty) = true := show gd (t ⟨⟩) 2 = true from allI_at hg (by omega)
    have p2a : v3a (((wds 10 (t ⟨⟩)).map tx).getD 2 ByteArray.empty) = n3 (ln (t ⟨⟩) 2) 0 := (v3_ok gg2).1
    have p2b : v3b (((wds 10 (t ⟨⟩)).map tx).getD 2 ByteArray.empty) = n3 (ln (t ⟨⟩) 2) 1 := (v3_ok gg2).2.1
    have p2c : v3c (((wds 10 (t ⟨⟩)).map tx).getD 2 ByteArray.empty) = n3 (ln (t ⟨⟩) 2) 2 := (v3_ok gg2).2.2
    have gg3 : nrOk 3 (((wds 10 (t ⟨⟩)).map tx).getD 3 ByteArray.empty) = true := show gd (t ⟨⟩) 3 = true from allI_at hg (by omega)
    have p3a : v3a (((wds 10 (t ⟨⟩)).map tx).getD 3 ByteArray.empty) = n3 (ln (t ⟨⟩) 3) 0 := (v3_ok gg3).1
    have p3b : v3b (((wds 10 (t ⟨⟩)).map tx).getD 3 ByteArray.empty) = n3 (ln (t ⟨⟩) 3) 1 := (v3_ok gg3).2.1
    have p3c : v3c (((wds 10 (t ⟨⟩)).map tx).getD 3 ByteArray.empty) = n3 (ln (t ⟨⟩) 3) 2 := (v3_ok gg3).2.2
    have gg4 : nrOk 3 (((wds 10 (t ⟨⟩)).map tx).getD 4 ByteArray.empty) = true := show gd (t ⟨⟩) 4 = true from allI_at hg (by omega)
    have p4a : v3a (((wds 10 (t ⟨⟩)).map tx).getD 4 ByteArray.empty) = n3 (ln (t ⟨⟩) 4) 0 := (v3_ok gg4).1
    have p4b : v3b (((wds 10 (t ⟨⟩)).map tx).getD 4 ByteArray.empty) = n3 (ln (t ⟨⟩) 4) 1 := (v3_ok gg4).2.1
    have p4c : v3c (((wds 10 (t ⟨⟩)).map tx).getD 4 ByteArray.empty) = n3 (ln (t ⟨⟩) 4) 2 := (v3_ok gg4).2.2
    have hL : spL (t ⟨⟩) = [n3 (ln (t ⟨⟩) 1) 0, n3 (ln (t ⟨⟩) 1) 1, n3 (ln (t ⟨⟩) 1) 2, n3 (ln (t ⟨⟩) 2) 0, n3 (ln (t ⟨⟩) 2) 1, n3 (ln (t ⟨⟩) 2) 2, n3 (ln (t ⟨⟩) 3) 0, n3 (ln (t ⟨⟩) 3) 1, n3 (ln (t ⟨⟩) 3) 2, n3 (ln (t ⟨⟩) 4) 0, n3 (ln (t ⟨⟩) 4) 1, n3 (ln (t ⟨⟩) 4) 2] := by unfold spL; rw [hn]; rfl
    have hS : [v3a (((wds 10 (t ⟨⟩)).map tx).getD 1 ByteArray.empty), v3b (((wds 10 (t ⟨⟩)).map tx).getD 1 ByteArray.empty), v3c (((wds 10 (t ⟨⟩)).map tx).getD 1 ByteArray.empty), v3a (((wds 10 (t ⟨⟩)).map tx).getD 2 ByteArray.empty), v3b (((wds 10 (t ⟨⟩)).map tx).getD 2 ByteArray.empty), v3c (((wds 10 (t ⟨⟩)).map tx).getD 2 ByteArray.empty), v3a (((wds 10 (t ⟨⟩)).map tx).getD 3 ByteArray.empty), v3b (((wds 10 (t ⟨⟩)).map tx).getD 3 ByteArray.empty), v3c (((wds 10 (t ⟨⟩)).map tx).getD 3 ByteArray.empty), v3a (((wds 10 (t ⟨⟩)).map tx).getD 4 ByteArray.empty), v3b (((wds 10 (t ⟨⟩)).map tx).getD 4 ByteArray.empty), v3c (((wds 10 (t ⟨⟩)).map tx).getD 4 ByteArray.empty)] = spL (t ⟨⟩) := by rw [hL, p1a, p1b, p1c, p2a, p2b, p2c, p3a, p3b, p3c, p4a, p4b, p4c]
    have hnn : 4 = nl (t ⟨⟩) - 1 := by omega
    have hW : webOk (v3a (((wds 10 (t ⟨⟩)).map tx).getD 0 ByteArray.empty)) (v3b (((wds 10 (t ⟨⟩)).map tx).getD 0 ByteArray.empty)) (v3c (((wds 10 (t ⟨⟩)).map tx).getD 0 ByteArray.empty)) [v3a (((wds 10 (t ⟨⟩)).map tx).getD 1 ByteArray.empty), v3b (((wds 10 (t ⟨⟩)).map tx).getD 1 ByteArray.empty), v3c (((wds 10 (t ⟨⟩)).map tx).getD 1 ByteArray.empty), v3a (((wds 10 (t ⟨⟩)).map tx).getD 2 ByteArray.empty), v3b (((wds 10 (t ⟨⟩)).map tx).getD 2 ByteArray.empty), v3c (((wds 10 (t ⟨⟩)).map tx).getD 2 ByteArray.empty), v3a (((wds 10 (t ⟨⟩)).map tx).getD 3 ByteArray.empty), v3b (((wds 10 (t ⟨⟩)).map tx).getD 3 ByteArray.empty), v3c (((wds 10 (t ⟨⟩)).map tx).getD 3 ByteArray.empty), v3a (((wds 10 (t ⟨⟩)).map tx).getD 4 ByteArray.empty), v3b (((wds 10 (t ⟨⟩)).map tx).getD 4 ByteArray.empty), v3c (((wds 10 (t ⟨⟩)).map tx).getD 4 ByteArray.empty)] 4 = wOk (t ⟨⟩) := by unfold wOk; rw [hS, p0a, p0b, p0c]; exact congrArg (webOk _ _ _ _) hnn
    have b0 : ltB 0 (IntKind.wrap .i64 (((((wds 10 (t ⟨⟩)).length : Nat)) : Int) - 1)) = true := by rw [hwr, ltB_iff]; omega
    have x0 : (0 : Int) ≤ 0 ∧ (0 : Int) < ((((wds 10 (t ⟨⟩)).length : Nat)) : Int) := ⟨by omega, by unfold nl at hn; omega⟩
    have y0 : 0 < ((wds 10 (t ⟨⟩)).map tx).length := by rw [List.length_map]; unfold nl at hn; omega
    have z0 : (((wds 10 (t ⟨⟩)).map tx).getD 0 ByteArray.empty).size ≤ 1048576 := ln_size (t ⟨⟩) 0 hsz
    have g0 : (!(nrOk 3 (((wds 10 (t ⟨⟩)).map tx).getD 0 ByteArray.empty))) = false := ntf (show gd (t ⟨⟩) 0 = true from allI_at hg (by omega))
    have b1 : ltB 1 (IntKind.wrap .i64 (((((wds 10 (t ⟨⟩)).length : Nat)) : Int) - 1)) = true := by rw [hwr, ltB_iff]; omega
    have x1 : (0 : Int) ≤ 1 ∧ (1 : Int) < ((((wds 10 (t ⟨⟩)).length : Nat)) : Int) := ⟨by omega, by unfold nl at hn; omega⟩
    have y1 : 1 < ((wds 10 (t ⟨⟩)).map tx).length := by rw [List.length_map]; unfold nl at hn; omega
    have z1 : (((wds 10 (t ⟨⟩)).map tx).getD 1 ByteArray.empty).size ≤ 1048576 := ln_size (t ⟨⟩) 1 hsz
    have g1 : (!(nrOk 3 (((wds 10 (t ⟨⟩)).map tx).getD 1 ByteArray.empty))) = false := ntf (show gd (t ⟨⟩) 1 = true from allI_at hg (by omega))
    have b2 : ltB 2 (IntKind.wrap .i64 (((((wds 10 (t ⟨⟩)).length : Nat)) : Int) - 1)) = true := by rw [hwr, ltB_iff]; omega
    have x2 : (0 : Int) ≤ 2 ∧ (2 : Int) < ((((wds 10 (t ⟨⟩)).length : Nat)) : Int) := ⟨by omega, by unfold nl at hn; omega⟩
    have y2 : 2 < ((wds 10 (t ⟨⟩)).map tx).length := by rw [List.length_map]; unfold nl at hn; omega
    have z2 : (((wds 10 (t ⟨⟩)).map tx).getD 2 ByteArray.empty).size ≤ 1048576 := ln_size (t ⟨⟩) 2 hsz
    have g2 : (!(nrOk 3 (((wds 10 (t ⟨⟩)).map tx).getD 2 ByteArray.empty))) = false := ntf (show gd (t ⟨⟩) 2 = true from allI_at hg (by omega))
    have b3 : ltB 3 (IntKind.wrap .i64 (((((wds 10 (t ⟨⟩)).length : Nat)) : Int) - 1)) = true := by rw [hwr, ltB_iff]; omega
    have x3 : (0 : Int) ≤ 3 ∧ (3 : Int) < ((((wds 10 (t ⟨⟩)).length : Nat)) : Int) := ⟨by omega, by unfold nl at hn; omega⟩
    have y3 : 3 < ((wds 10 (t ⟨⟩)).map tx).length := by rw [List.length_map]; unfold nl at hn; omega
    have z3 : (((wds 10 (t ⟨⟩)).map tx).getD 3 ByteArray.empty).size ≤ 1048576 := ln_size (t ⟨⟩) 3 hsz
    have g3 : (!(nrOk 3 (((wds 10 (t ⟨⟩)).map tx).getD 3 ByteArray.empty))) = false := ntf (show gd (t ⟨⟩) 3 = true from allI_at hg (by omega))
    have b4 : ltB 4 (IntKind.wrap .i64 (((((wds 10 (t ⟨⟩)).length : Nat)) : Int) - 1)) = true := by rw [hwr, ltB_iff]; omega
    have x4 : (0 : Int) ≤ 4 ∧ (4 : Int) < ((((wds 10 (t ⟨⟩)).length : Nat)) : Int) := ⟨by omega, by unfold nl at hn; omega⟩
    have y4 : 4 < ((wds 10 (t ⟨⟩)).map tx).length := by rw [List.length_map]; unfold nl at hn; omega
    have z4 : (((wds 10 (t ⟨⟩)).map tx).getD 4 ByteArray.empty).size ≤ 1048576 := ln_size (t ⟨⟩) 4 hsz
    have g4 : (!(nrOk 3 (((wds 10 (t ⟨⟩)).map tx).getD 4 ByteArray.empty))) = false := ntf (show gd (t ⟨⟩) 4 = true from allI_at hg (by omega))
    have hw2 := congrArg not (hW.trans hv)
    refine ⟨_, HLe.refl _, ?_⟩
    cbv
    repeat' first | (refine Ob.mk ?_ ?_; (focus (first | exact hsp | exact hx0 | exact hx1 | exact x0 | exact y0 | exact z0 | exact x1 | exact y1 | exact z1 | exact x2 | exact y2 | exact z2 | exact x3 | exact y3 | exact z3 | exact x4 | exact y4 | exact z4 | exact p0a | exact p0b | exact p0c | exact hS | exact hnn | exact ⟨rfl, rfl, by decide⟩ | exact rfl)); cbv) | (refine Br.f t1 ?_; cbv) | (refine Br.f t2 ?_; cbv) | (refine Br.f t3 ?_; cbv) | (refine Br.t b0 ?_; cbv) | (refine Br.f g0 ?_; cbv) | (refine Br.t b1 ?_; cbv) | (refine Br.f g1 ?_; cbv) | (refine Br.t b2 ?_; cbv) | (refine Br.f g2 ?_; cbv) | (refine Br.t b3 ?_; cbv) | (refine Br.f g3 ?_; cbv) | (refine Br.t b4 ?_; cbv) | (refine Br.f g4 ?_; cbv) | (refine Br.f be ?_; cbv) | (refine Br.f hw2 ?_; cbv) | (refine Loop.mk 70 ?_; cbv) | (refine Gen.same ?_; cbv)
  · cases hs
set_option maxRecDepth 100000 in
set_option maxHeartbeats 8000000 in
theorem ok8F5 : Ok Tryd.prog 8 (sRF fun t => okA t = true ∧ nl t = 5 ∧ gdTo t 5 = true ∧ wOk t = false) := ok_of_wpaH (E := E8) mixed tts E8ok fn8 fun args H v H' o hs ho => by
  split at hs
  · rename_i t
    cases hs
    have hsz : (t ⟨⟩).size ≤ 1048576 := ho.two.2
    have hsp : (10 : Int) = (((10 : UInt8).toNat : Nat) : Int) ∧ (t ⟨⟩).size ≤ 1048576 := ⟨rfl, hsz⟩
    have hpos := wds_pos 10 (t ⟨⟩)
    have hle := wds_le 10 (t ⟨⟩)
    have hwr : (IntKind.wrap .i64 (((((wds 10 (t ⟨⟩)).length : Nat)) : Int) - 1)) = ((nl (t ⟨⟩) : Nat) : Int) := by rw [wrap64 (by omega) (by omega)]; unfold nl; omega
    have hp : 0 + (IntKind.wrap .i64 (((((wds 10 (t ⟨⟩)).length : Nat)) : Int) - 1)).toNat * 1 = nl (t ⟨⟩) := by rw [hwr, Int.toNat_natCast]; omega
    have htl : (!((((wds 10 (t ⟨⟩)).map tx).getD (0 + (IntKind.wrap .i64 (((((wds 10 (t ⟨⟩)).length : Nat)) : Int) - 1)).toNat * 1) ByteArray.empty).toList == ({ data := #[] } : ByteArray).toList)) = !(tl (t ⟨⟩)) := by rw [hp]; exact congrArg _ (tl_form _)
    have hx0 : 0 ≤ (IntKind.wrap .i64 (((((wds 10 (t ⟨⟩)).length : Nat)) : Int) - 1)) ∧ (IntKind.wrap .i64 (((((wds 10 (t ⟨⟩)).length : Nat)) : Int) - 1)) < ((((wds 10 (t ⟨⟩)).length : Nat)) : Int) := by rw [hwr]; unfold nl; omega
    have hx1 : 0 + (IntKind.wrap .i64 (((((wds 10 (t ⟨⟩)).length : Nat)) : Int) - 1)).toNat * 1 < ((wds 10 (t ⟨⟩)).map tx).length := by rw [hp, List.length_map]; unfold nl; omega
    have hA : okA (t ⟨⟩) = true := ho.two.1.1
    have hn : nl (t ⟨⟩) = 5 := ho.two.1.2.1
    have hg : gdTo (t ⟨⟩) 5 = true := ho.two.1.2.2.1
    have hv : wOk (t ⟨⟩) = false := ho.two.1.2.2.2
    have hA2 := okA_t hA
    have t1 : (!((((wds 10 (t ⟨⟩)).map tx).getD (0 + (IntKind.wrap .i64 (((((wds 10 (t ⟨⟩)).length : Nat)) : Int) - 1)).toNat * 1) ByteArray.empty).toList == ({ data := #[] } : ByteArray).toList)) = false := by rw [htl, hA2.1]; rfl
    have t2 : ltB (IntKind.wrap .i64 (((((wds 10 (t ⟨⟩)).length : Nat)) : Int) - 1)) 2 = false := by rw [hwr, ltB_no]; omega
    have t3 : ltB 9 (IntKind.wrap .i64 (((((wds 10 (t ⟨⟩)).length : Nat)) : Int) - 1)) = false := by rw [hwr, ltB_no]; omega
    have be : ltB 5 (IntKind.wrap .i64 (((((wds 10 (t ⟨⟩)).length : Nat)) : Int) - 1)) = false := by rw [hwr, ltB_no]; omega
    have gg0 : nrOk 3 (((wds 10 (t ⟨⟩)).map tx).getD 0 ByteArray.empty) = true := show gd (t ⟨⟩) 0 = true from allI_at hg (by omega)
    have p0a : v3a (((wds 10 (t ⟨⟩)).map tx).getD 0 ByteArray.empty) = n3 (ln (t ⟨⟩) 0) 0 := (v3_ok gg0).1
    have p0b : v3b (((wds 10 (t ⟨⟩)).map tx).getD 0 ByteArray.empty) = n3 (ln (t ⟨⟩) 0) 1 := (v3_ok gg0).2.1
    have p0c : v3c (((wds 10 (t ⟨⟩)).map tx).getD 0 ByteArray.empty) = n3 (ln (t ⟨⟩) 0) 2 := (v3_ok gg0).2.2
    have gg1 : nrOk 3 (((wds 10 (t ⟨⟩)).map tx).getD 1 ByteArray.empty) = true := show gd (t ⟨⟩) 1 = true from allI_at hg (by omega)
    have p1a : v3a (((wds 10 (t ⟨⟩)).map tx).getD 1 ByteArray.empty) = n3 (ln (t ⟨⟩) 1) 0 := (v3_ok gg1).1
    have p1b : v3b (((wds 10 (t ⟨⟩)).map tx).getD 1 ByteArray.empty) = n3 (ln (t ⟨⟩) 1) 1 := (v3_ok gg1).2.1
    have p1c : v3c (((wds 10 (t ⟨⟩)).map tx).getD 1 ByteArray.empty) = n3 (ln (t ⟨⟩) 1) 2 := (v3_ok gg1).2.2
    have gg2 : nrOk 3 (((wds 10 (t ⟨⟩)).map tx).getD 2 ByteArray.empty) = true := show gd (t ⟨⟩) 2 = true from allI_at hg (by omega)
    have p2a : v3a (((wds 10 (t ⟨⟩)).map tx).getD 2 ByteArray.empty) = n3 (ln (t ⟨⟩) 2) 0 := (v3_ok gg2).1
    have p2b : v3b (((wds 10 (t ⟨⟩)).map tx).getD 2 ByteArray.empty) = n3 (ln (t ⟨⟩) 2) 1 := (v3_ok gg2).2.1
    have p2c : v3c (((wds 10 (t ⟨⟩)).map tx).getD 2 ByteArray.empty) = n3 (ln (t ⟨⟩) 2) 2 := (v3_ok gg2).2.2
    have gg3 : nrOk 3 (((wds 10 (t ⟨⟩)).map tx).getD 3 ByteArray.empty) = true := show gd (t ⟨⟩) 3 = true from allI_at hg (by omega)
    have p3a : v3a (((wds 10 (t ⟨⟩)).map tx).getD 3 ByteArray.empty) = n3 (ln (t ⟨⟩) 3) 0 := (v3_ok gg3).1
    have p3b : v3b (((wds 10 (t ⟨⟩)).map tx).getD 3 ByteArray.empty) = n3 (ln (t ⟨⟩) 3) 1 := (v3_ok gg3).2.1
    have p3c : v3c (((wds 10 (t ⟨⟩)).map tx).getD 3 ByteArray.empty) = n3 (ln (t ⟨⟩) 3) 2 := (v3_ok gg3).2.2
    have gg4 : nrOk 3 (((wds 10 (t ⟨⟩)).map tx).getD 4 ByteArray.empty) = true := show gd (t ⟨⟩) 4 = true from allI_at hg (by omega)
    have p4a : v3a (((wds 10 (t ⟨⟩)).map tx).getD 4 ByteArray.empty) = n3 (ln (t ⟨⟩) 4) 0 := (v3_ok gg4).1
    have p4b : v3b (((wds 10 (t ⟨⟩)).map tx).getD 4 ByteArray.empty) = n3 (ln (t ⟨⟩) 4) 1 := (v3_ok gg4).2.1
    have p4c : v3c (((wds 10 (t ⟨⟩)).map tx).getD 4 ByteArray.empty) = n3 (ln (t ⟨⟩) 4) 2 := (v3_ok gg4).2.2
    have hL : spL (t ⟨⟩) = [n3 (ln (t ⟨⟩) 1) 0, n3 (ln (t ⟨⟩) 1) 1, n3 (ln (t ⟨⟩) 1) 2, n3 (ln (t ⟨⟩) 2) 0, n3 (ln (t ⟨⟩) 2) 1, n3 (ln (t ⟨⟩) 2) 2, n3 (ln (t ⟨⟩) 3) 0, n3 (ln (t ⟨⟩) 3) 1, n3 (ln (t ⟨⟩) 3) 2, n3 (ln (t ⟨⟩) 4) 0, n3 (ln (t ⟨⟩) 4) 1, n3 (ln (t ⟨⟩) 4) 2] := by unfold spL; rw [hn]; rfl
    have hS : [v3a (((wds 10 (t ⟨⟩)).map tx).getD 1 ByteArray.empty), v3b (((wds 10 (t ⟨⟩)).map tx).getD 1 ByteArray.empty), v3c (((wds 10 (t ⟨⟩)).map tx).getD 1 ByteArray.empty), v3a (((wds 10 (t ⟨⟩)).map tx).getD 2 ByteArray.empty), v3b (((wds 10 (t ⟨⟩)).map tx).getD 2 ByteArray.empty), v3c (((wds 10 (t ⟨⟩)).map tx).getD 2 ByteArray.empty), v3a (((wds 10 (t ⟨⟩)).map tx).getD 3 ByteArray.empty), v3b (((wds 10 (t ⟨⟩)).map tx).getD 3 ByteArray.empty), v3c (((wds 10 (t ⟨⟩)).map tx).getD 3 ByteArray.empty), v3a (((wds 10 (t ⟨⟩)).map tx).getD 4 ByteArray.empty), v3b (((wds 10 (t ⟨⟩)).map tx).getD 4 ByteArray.empty), v3c (((wds 10 (t ⟨⟩)).map tx).getD 4 ByteArray.empty)] = spL (t ⟨⟩) := by rw [hL, p1a, p1b, p1c, p2a, p2b, p2c, p3a, p3b, p3c, p4a, p4b, p4c]
    have hnn : 4 = nl (t ⟨⟩) - 1 := by omega
    have hW : webOk (v3a (((wds 10 (t ⟨⟩)).map tx).getD 0 ByteArray.empty)) (v3b (((wds 10 (t ⟨⟩)).map tx).getD 0 ByteArray.empty)) (v3c (((wds 10 (t ⟨⟩)).map tx).getD 0 ByteArray.empty)) [v3a (((wds 10 (t ⟨⟩)).map tx).getD 1 ByteArray.empty), v3b (((wds 10 (t ⟨⟩)).map tx).getD 1 ByteArray.empty), v3c (((wds 10 (t ⟨⟩)).map tx).getD 1 ByteArray.empty), v3a (((wds 10 (t ⟨⟩)).map tx).getD 2 ByteArray.empty), v3b (((wds 10 (t ⟨⟩)).map tx).getD 2 ByteArray.empty), v3c (((wds 10 (t ⟨⟩)).map tx).getD 2 ByteArray.empty), v3a (((wds 10 (t ⟨⟩)).map tx).getD 3 ByteArray.empty), v3b (((wds 10 (t ⟨⟩)).map tx).getD 3 ByteArray.empty), v3c (((wds 10 (t ⟨⟩)).map tx).getD 3 ByteArray.empty), v3a (((wds 10 (t ⟨⟩)).map tx).getD 4 ByteArray.empty), v3b (((wds 10 (t ⟨⟩)).map tx).getD 4 ByteArray.empty), v3c (((wds 10 (t ⟨⟩)).map tx).getD 4 ByteArray.empty)] 4 = wOk (t ⟨⟩) := by unfold wOk; rw [hS, p0a, p0b, p0c]; exact congrArg (webOk _ _ _ _) hnn
    have b0 : ltB 0 (IntKind.wrap .i64 (((((wds 10 (t ⟨⟩)).length : Nat)) : Int) - 1)) = true := by rw [hwr, ltB_iff]; omega
    have x0 : (0 : Int) ≤ 0 ∧ (0 : Int) < ((((wds 10 (t ⟨⟩)).length : Nat)) : Int) := ⟨by omega, by unfold nl at hn; omega⟩
    have y0 : 0 < ((wds 10 (t ⟨⟩)).map tx).length := by rw [List.length_map]; unfold nl at hn; omega
    have z0 : (((wds 10 (t ⟨⟩)).map tx).getD 0 ByteArray.empty).size ≤ 1048576 := ln_size (t ⟨⟩) 0 hsz
    have g0 : (!(nrOk 3 (((wds 10 (t ⟨⟩)).map tx).getD 0 ByteArray.empty))) = false := ntf (show gd (t ⟨⟩) 0 = true from allI_at hg (by omega))
    have b1 : ltB 1 (IntKind.wrap .i64 (((((wds 10 (t ⟨⟩)).length : Nat)) : Int) - 1)) = true := by rw [hwr, ltB_iff]; omega
    have x1 : (0 : Int) ≤ 1 ∧ (1 : Int) < ((((wds 10 (t ⟨⟩)).length : Nat)) : Int) := ⟨by omega, by unfold nl at hn; omega⟩
    have y1 : 1 < ((wds 10 (t ⟨⟩)).map tx).length := by rw [List.length_map]; unfold nl at hn; omega
    have z1 : (((wds 10 (t ⟨⟩)).map tx).getD 1 ByteArray.empty).size ≤ 1048576 := ln_size (t ⟨⟩) 1 hsz
    have g1 : (!(nrOk 3 (((wds 10 (t ⟨⟩)).map tx).getD 1 ByteArray.empty))) = false := ntf (show gd (t ⟨⟩) 1 = true from allI_at hg (by omega))
    have b2 : ltB 2 (IntKind.wrap .i64 (((((wds 10 (t ⟨⟩)).length : Nat)) : Int) - 1)) = true := by rw [hwr, ltB_iff]; omega
    have x2 : (0 : Int) ≤ 2 ∧ (2 : Int) < ((((wds 10 (t ⟨⟩)).length : Nat)) : Int) := ⟨by omega, by unfold nl at hn; omega⟩
    have y2 : 2 < ((wds 10 (t ⟨⟩)).map tx).length := by rw [List.length_map]; unfold nl at hn; omega
    have z2 : (((wds 10 (t ⟨⟩)).map tx).getD 2 ByteArray.empty).size ≤ 1048576 := ln_size (t ⟨⟩) 2 hsz
    have g2 : (!(nrOk 3 (((wds 10 (t ⟨⟩)).map tx).getD 2 ByteArray.empty))) = false := ntf (show gd (t ⟨⟩) 2 = true from allI_at hg (by omega))
    have b3 : ltB 3 (IntKind.wrap .i64 (((((wds 10 (t ⟨⟩)).length : Nat)) : Int) - 1)) = true := by rw [hwr, ltB_iff]; omega
    have x3 : (0 : Int) ≤ 3 ∧ (3 : Int) < ((((wds 10 (t ⟨⟩)).length : Nat)) : Int) := ⟨by omega, by unfold nl at hn; omega⟩
    have y3 : 3 < ((wds 10 (t ⟨⟩)).map tx).length := by rw [List.length_map]; unfold nl at hn; omega
    have z3 : (((wds 10 (t ⟨⟩)).map tx).getD 3 ByteArray.empty).size ≤ 1048576 := ln_size (t ⟨⟩) 3 hsz
    have g3 : (!(nrOk 3 (((wds 10 (t ⟨⟩)).map tx).getD 3 ByteArray.empty))) = false := ntf (show gd (t ⟨⟩) 3 = true from allI_at hg (by omega))
    have b4 : ltB 4 (IntKind.wrap .i64 (((((wds 10 (t ⟨⟩)).length : Nat)) : Int) - 1)) = true := by rw [hwr, ltB_iff]; omega
    have x4 : (0 : Int) ≤ 4 ∧ (4 : Int) < ((((wds 10 (t ⟨⟩)).length : Nat)) : Int) := ⟨by omega, by unfold nl at hn; omega⟩
    have y4 : 4 < ((wds 10 (t ⟨⟩)).map tx).length := by rw [List.length_map]; unfold nl at hn; omega
    have z4 : (((wds 10 (t ⟨⟩)).map tx).getD 4 ByteArray.empty).size ≤ 1048576 := ln_size (t ⟨⟩) 4 hsz
    have g4 : (!(nrOk 3 (((wds 10 (t ⟨⟩)).map tx).getD 4 ByteArray.empty))) = false := ntf (show gd (t ⟨⟩) 4 = true from allI_at hg (by omega))
    have hw2 := congrArg not (hW.trans hv)
    refine ⟨_, HLe.refl _, ?_⟩
    cbv
    repeat' first | (refine Ob.mk ?_ ?_; (focus (first | exact hsp | exact hx0 | exact hx1 | exact x0 | exact y0 | exact z0 | exact x1 | exact y1 | exact z1 | exact x2 | exact y2 | exact z2 | exact x3 | exact y3 | exact z3 | exact x4 | exact y4 | exact z4 | exact p0a | exact p0b | exact p0c | exact hS | exact hnn | exact ⟨rfl, rfl, by decide⟩ | exact rfl)); cbv) | (refine Br.f t1 ?_; cbv) | (refine Br.f t2 ?_; cbv) | (refine Br.f t3 ?_; cbv) | (refine Br.t b0 ?_; cbv) | (refine Br.f g0 ?_; cbv) | (refine Br.t b1 ?_; cbv) | (refine Br.f g1 ?_; cbv) | (refine Br.t b2 ?_; cbv) | (refine Br.f g2 ?_; cbv) | (refine Br.t b3 ?_; cbv) | (refine Br.f g3 ?_; cbv) | (refine Br.t b4 ?_; cbv) | (refine Br.f g4 ?_; cbv) | (refine Br.f be ?_; cbv) | (refine Br.t hw2 ?_; cbv) | (refine Loop.mk 70 ?_; cbv) | (refine Gen.same ?_; cbv)
  · cases hs
end Go.Proofs.YteifneielgnniaaDoor.Sh
end
section
namespace Go.Proofs.YteifneielgnniaaDoor.Sh
open Go Go.Proofs
attribute [local irreducible] wds tx rn rnC rnOk nrOk v3a v3b v3c wAt n3 webOk spL tl nl wOk
set_option maxRecDepth 100000 in
set_option maxHeartbeats 8000000 in
theorem ok8T6 : Ok Tryd.prog 8 (sRT fun t => okA t = true ∧ nl t = 6 ∧ gdTo t 6 = true ∧ wOk t = true) := ok_of_wpaH (E := E8) mixed tts E8ok fn8 fun args H v H' o hs ho => by
  split at hs
  · rename_i t
    cases hs
    have hsz : (t ⟨⟩).size ≤ 1048576 := ho.two.2
    have hsp : (10 : Int) = (((10 : UInt8).toNat : Nat) : Int) ∧ (t ⟨⟩).size ≤ 1048576 := ⟨rfl, hsz⟩
    have hpos := wds_pos 10 (t ⟨⟩)
    have hle := wds_le 10 (t ⟨⟩)
    have hwr : (IntKind.wrap .i64 (((((wds 10 (t ⟨⟩)).length : Nat)) : Int) - 1)) = ((nl (t ⟨⟩) : Nat) : Int) := by rw [wrap64 (by omega) (by omega)]; unfold nl; omega
    have hp : 0 + (IntKind.wrap .i64 (((((wds 10 (t ⟨⟩)).length : Nat)) : Int) - 1)).toNat * 1 = nl (t ⟨⟩) := by rw [hwr, Int.toNat_natCast]; omega
    have htl : (!((((wds 10 (t ⟨⟩)).map tx).getD (0 + (IntKind.wrap .i64 (((((wds 10 (t ⟨⟩)).length : Nat)) : Int) - 1)).toNat * 1) ByteArray.empty).toList == ({ data := #[] } : ByteArray).toList)) = !(tl (t ⟨⟩)) := by rw [hp]; exact congrArg _ (tl_form _)
    have hx0 : 0 ≤ (IntKind.wrap .i64 (((((wds 10 (t ⟨⟩)).length : Nat)) : Int) - 1)) ∧ (IntKind.wrap .i64 (((((wds 10 (t ⟨⟩)).length : Nat)) : Int) - 1)) < ((((wds 10 (t ⟨⟩)).length : Nat)) : Int) := by rw [hwr]; unfold nl; omega
    have hx1 : 0 + (IntKind.wrap .i64 (((((wds 10 (t ⟨⟩)).length : Nat)) : Int) - 1)).toNat * 1 < ((wds 10 (t ⟨⟩)).map tx).length := by rw [hp, List.length_map]; unfold nl; omega
    have hA : okA (t ⟨⟩) = true := ho.two.1.1
    have hn : nl (t ⟨⟩) = 6 := ho.two.1.2.1
    have hg : gdTo (t ⟨⟩) 6 = true := ho.two.1.2.2.1
    have hv : wOk (t ⟨⟩) = true := ho.two.1.2.2.2
    have hA2 := okA_t hA
    have t1 : (!((((wds 10 (t ⟨⟩)).map tx).getD (0 + (IntKind.wrap .i64 (((((wds 10 (t ⟨⟩)).length : Nat)) : Int) - 1)).toNat * 1) ByteArray.empty).toList == ({ data := #[] } : ByteArray).toList)) = false := by rw [htl, hA2.1]; rfl
    have t2 : ltB (IntKind.wrap .i64 (((((wds 10 (t ⟨⟩)).length : Nat)) : Int) - 1)) 2 = false := by rw [hwr, ltB_no]; omega
    have t3 : ltB 9 (IntKind.wrap .i64 (((((wds 10 (t ⟨⟩)).length : Nat)) : Int) - 1)) = false := by rw [hwr, ltB_no]; omega
    have be : ltB 6 (IntKind.wrap .i64 (((((wds 10 (t ⟨⟩)).length : Nat)) : Int) - 1)) = false := by rw [hwr, ltB_no]; omega
    have gg0 : nrOk 3 (((wds 10 (t ⟨⟩)).map tx).getD 0 ByteArray.empty) = true := show gd (t ⟨⟩) 0 = true from allI_at hg (by omega)
    have p0a : v3a (((wds 10 (t ⟨⟩)).map tx).getD 0 ByteArray.empty) = n3 (ln (t ⟨⟩) 0) 0 := (v3_ok gg0).1
    have p0b : v3b (((wds 10 (t ⟨⟩)).map tx).getD 0 ByteArray.empty) = n3 (ln (t ⟨⟩) 0) 1 := (v3_ok gg0).2.1
    have p0c : v3c (((wds 10 (t ⟨⟩)).map tx).getD 0 ByteArray.empty) = n3 (ln (t ⟨⟩) 0) 2 := (v3_ok gg0).2.2
    have gg1 : nrOk 3 (((wds 10 (t ⟨⟩)).map tx).getD 1 ByteArray.empty) = true := show gd (t ⟨⟩) 1 = true from allI_at hg (by omega)
    have p1a : v3a (((wds 10 (t ⟨⟩)).map tx).getD 1 ByteArray.empty) = n3 (ln (t ⟨⟩) 1) 0 := (v3_ok gg1).1
    have p1b : v3b (((wds 10 (t ⟨⟩)).map tx).getD 1 ByteArray.empty) = n3 (ln (t ⟨⟩) 1) 1 := (v3_ok gg1).2.1
    have p1c : v3c (((wds 10 (t ⟨⟩)).map tx).getD 1 ByteArray.empty) = n3 (ln (t ⟨⟩) 1) 2 := (v3_ok gg1).2.2
    have gg2 : nrOk 3 (((wds 10 (t ⟨⟩)).map tx).getD 2 ByteArray.empty) = true := show gd (t ⟨⟩) 2 = true from allI_at hg (by omega)
    have p2a : v3a (((wds 10 (t ⟨⟩)).map tx).getD 2 ByteArray.empty) = n3 (ln (t ⟨⟩) 2) 0 := (v3_ok gg2).1
    have p2b : v3b (((wds 10 (t ⟨⟩)).map tx).getD 2 ByteArray.empty) = n3 (ln (t ⟨⟩) 2) 1 := (v3_ok gg2).2.1
    have p2c : v3c (((wds 10 (t ⟨⟩)).map tx).getD 2 ByteArray.empty) = n3 (ln (t ⟨⟩) 2) 2 := (v3_ok gg2).2.2
    have gg3 : nrOk 3 (((wds 10 (t ⟨⟩)).map tx).getD 3 ByteArray.empty) = true := show gd (t ⟨⟩) 3 = true from allI_at hg (by omega)
    have p3a : v3a (((wds 10 (t ⟨⟩)).map tx).getD 3 ByteArray.empty) = n3 (ln (t ⟨⟩) 3) 0 := (v3_ok gg3).1
    have p3b : v3b (((wds 10 (t ⟨⟩)).map tx).getD 3 ByteArray.empty) = n3 (ln (t ⟨⟩) 3) 1 := (v3_ok gg3).2.1
    have p3c : v3c (((wds 10 (t ⟨⟩)).map tx).getD 3 ByteArray.empty) = n3 (ln (t ⟨⟩) 3) 2 := (v3_ok gg3).2.2
    have gg4 : nrOk 3 (((wds 10 (t ⟨⟩)).map tx).getD 4 ByteArray.empty) = true := show gd (t ⟨⟩) 4 = true from allI_at hg (by omega)
    have p4a : v3a (((wds 10 (t ⟨⟩)).map tx).getD 4 ByteArray.empty) = n3 (ln (t ⟨⟩) 4) 0 := (v3_ok gg4).1
    have p4b : v3b (((wds 10 (t ⟨⟩)).map tx).getD 4 ByteArray.empty) = n3 (ln (t ⟨⟩) 4) 1 := (v3_ok gg4).2.1
    have p4c : v3c (((wds 10 (t ⟨⟩)).map tx).getD 4 ByteArray.empty) = n3 (ln (t ⟨⟩) 4) 2 := (v3_ok gg4).2.2
    have gg5 : nrOk 3 (((wds 10 (t ⟨⟩)).map tx).getD 5 ByteArray.empty) = true := show gd (t ⟨⟩) 5 = true from allI_at hg (by omega)
    have p5a : v3a (((wds 10 (t ⟨⟩)).map tx).getD 5 ByteArray.empty) = n3 (ln (t ⟨⟩) 5) 0 := (v3_ok gg5).1
    have p5b : v3b (((wds 10 (t ⟨⟩)).map tx).getD 5 ByteArray.empty) = n3 (ln (t ⟨⟩) 5) 1 := (v3_ok gg5).2.1
    have p5c : v3c (((wds 10 (t ⟨⟩)).map tx).getD 5 ByteArray.empty) = n3 (ln (t ⟨⟩) 5) 2 := (v3_ok gg5).2.2
    have hL : spL (t ⟨⟩) = [n3 (ln (t ⟨⟩) 1) 0, n3 (ln (t ⟨⟩) 1) 1, n3 (ln (t ⟨⟩) 1) 2, n3 (ln (t ⟨⟩) 2) 0, n3 (ln (t ⟨⟩) 2) 1, n3 (ln (t ⟨⟩) 2) 2, n3 (ln (t ⟨⟩) 3) 0, n3 (ln (t ⟨⟩) 3) 1, n3 (ln (t ⟨⟩) 3) 2, n3 (ln (t ⟨⟩) 4) 0, n3 (ln (t ⟨⟩) 4) 1, n3 (ln (t ⟨⟩) 4) 2, n3 (ln (t ⟨⟩) 5) 0, n3 (ln (t ⟨⟩) 5) 1, n3 (ln (t ⟨⟩) 5) 2] := by unfold spL; rw [hn]; rfl
    have hS : [v3a (((wds 10 (t ⟨⟩)).map tx).getD 1 ByteArray.empty), v3b (((wds 10 (t ⟨⟩)).map tx).getD 1 ByteArray.empty), v3c (((wds 10 (t ⟨⟩)).map tx).getD 1 ByteArray.empty), v3a (((wds 10 (t ⟨⟩)).map tx).getD 2 ByteArray.empty), v3b (((wds 10 (t ⟨⟩)).map tx).getD 2 ByteArray.empty), v3c (((wds 10 (t ⟨⟩)).map tx).getD 2 ByteArray.empty), v3a (((wds 10 (t ⟨⟩)).map tx).getD 3 ByteArray.empty), v3b (((wds 10 (t ⟨⟩)).map tx).getD 3 ByteArray.empty), v3c (((wds 10 (t ⟨⟩)).map tx).getD 3 ByteArray.empty), v3a (((wds 10 (t ⟨⟩)).map tx).getD 4 ByteArray.empty), v3b (((wds 10 (t ⟨⟩)).map tx).getD 4 ByteArray.empty), v3c (((wds 10 (t ⟨⟩)).map tx).getD 4 ByteArray.empty), v3a (((wds 10 (t ⟨⟩)).map tx).getD 5 ByteArray.empty), v3b (((wds 10 (t ⟨⟩)).map tx).getD 5 ByteArray.empty), v3c (((wds 10 (t ⟨⟩)).map tx).getD 5 ByteArray.empty)] = spL (t ⟨⟩) := by rw [hL, p1a, p1b, p1c, p2a, p2b, p2c, p3a, p3b, p3c, p4a, p4b, p4c, p5a, p5b, p5c]
    have hnn : 5 = nl (t ⟨⟩) - 1 := by omega
    have hW : webOk (v3a (((wds 10 (t ⟨⟩)).map tx).getD 0 ByteArray.empty)) (v3b (((wds 10 (t ⟨⟩)).map tx).getD 0 ByteArray.empty)) (v3c (((wds 10 (t ⟨⟩)).map tx).getD 0 ByteArray.empty)) [v3a (((wds 10 (t ⟨⟩)).map tx).getD 1 ByteArray.empty), v3b (((wds 10 (t ⟨⟩)).map tx).getD 1 ByteArray.empty), v3c (((wds 10 (t ⟨⟩)).map tx).getD 1 ByteArray.empty), v3a (((wds 10 (t ⟨⟩)).map tx).getD 2 ByteArray.empty), v3b (((wds 10 (t ⟨⟩)).map tx).getD 2 ByteArray.empty), v3c (((wds 10 (t ⟨⟩)).map tx).getD 2 ByteArray.empty), v3a (((wds 10 (t ⟨⟩)).map tx).getD 3 ByteArray.empty), v3b (((wds 10 (t ⟨⟩)).map tx).getD 3 ByteArray.empty), v3c (((wds 10 (t ⟨⟩)).map tx).getD 3 ByteArray.empty), v3a (((wds 10 (t ⟨⟩)).map tx).getD 4 ByteArray.empty), v3b (((wds 10 (t ⟨⟩)).map tx).getD 4 ByteArray.empty), v3c (((wds 10 (t ⟨⟩)).map tx).getD 4 ByteArray.empty), v3a (((wds 10 (t ⟨⟩)).map tx).getD 5 ByteArray.empty), v3b (((wds 10 (t ⟨⟩)).map tx).getD 5 ByteArray.empty), v3c (((wds 10 (t ⟨⟩)).map tx).getD 5 ByteArray.empty)] 5 = wOk (t ⟨⟩) := by unfold wOk; rw [hS, p0a, p0b, p0c]; exact congrArg (webOk _ _ _ _) hnn
    have b0 : ltB 0 (IntKind.wrap .i64 (((((wds 10 (t ⟨⟩)).length : Nat)) : Int) - 1)) = true := by rw [hwr, ltB_iff]; omega
    have x0 : (0 : Int) ≤ 0 ∧ (0 : Int) < ((((wds 10 (t ⟨⟩)).length : Nat)) : Int) := ⟨by omega, by unfold nl at hn; omega⟩
    have y0 : 0 < ((wds 10 (t ⟨⟩)).map tx).length := by rw [List.length_map]; unfold nl at hn; omega
    have z0 : (((wds 10 (t ⟨⟩)).map tx).getD 0 ByteArray.empty).size ≤ 1048576 := ln_size (t ⟨⟩) 0 hsz
    have g0 : (!(nrOk 3 (((wds 10 (t ⟨⟩)).map tx).getD 0 ByteArray.empty))) = false := ntf (show gd (t ⟨⟩) 0 = true from allI_at hg (by omega))
    have b1 : ltB 1 (IntKind.wrap .i64 (((((wds 10 (t ⟨⟩)).length : Nat)) : Int) - 1)) = true := by rw [hwr, ltB_iff]; omega
    have x1 : (0 : Int) ≤ 1 ∧ (1 : Int) < ((((wds 10 (t ⟨⟩)).length : Nat)) : Int) := ⟨by omega, by unfold nl at hn; omega⟩
    have y1 : 1 < ((wds 10 (t ⟨⟩)).map tx).length := by rw [List.length_map]; unfold nl at hn; omega
    have z1 : (((wds 10 (t ⟨⟩)).map tx).getD 1 ByteArray.empty).size ≤ 1048576 := ln_size (t ⟨⟩) 1 hsz
    have g1 : (!(nrOk 3 (((wds 10 (t ⟨⟩)).map tx).getD 1 ByteArray.empty))) = false := ntf (show gd (t ⟨⟩) 1 = true from allI_at hg (by omega))
    have b2 : ltB 2 (IntKind.wrap .i64 (((((wds 10 (t ⟨⟩)).length : Nat)) : Int) - 1)) = true := by rw [hwr, ltB_iff]; omega
    have x2 : (0 : Int) ≤ 2 ∧ (2 : Int) < ((((wds 10 (t ⟨⟩)).length : Nat)) : Int) := ⟨by omega, by unfold nl at hn; omega⟩
    have y2 : 2 < ((wds 10 (t ⟨⟩)).map tx).length := by rw [List.length_map]; unfold nl at hn; omega
    have z2 : (((wds 10 (t ⟨⟩)).map tx).getD 2 ByteArray.empty).size ≤ 1048576 := ln_size (t ⟨⟩) 2 hsz
    have g2 : (!(nrOk 3 (((wds 10 (t ⟨⟩)).map tx).getD 2 ByteArray.empty))) = false := ntf (show gd (t ⟨⟩) 2 = true from allI_at hg (by omega))
    have b3 : ltB 3 (IntKind.wrap .i64 (((((wds 10 (t ⟨⟩)).length : Nat)) : Int) - 1)) = true := by rw [hwr, ltB_iff]; omega
    have x3 : (0 : Int) ≤ 3 ∧ (3 : Int) < ((((wds 10 (t ⟨⟩)).length : Nat)) : Int) := ⟨by omega, by unfold nl at hn; omega⟩
    have y3 : 3 < ((wds 10 (t ⟨⟩)).map tx).length := by rw [List.length_map]; unfold nl at hn; omega
    have z3 : (((wds 10 (t ⟨⟩)).map tx).getD 3 ByteArray.empty).size ≤ 1048576 := ln_size (t ⟨⟩) 3 hsz
    have g3 : (!(nrOk 3 (((wds 10 (t ⟨⟩)).map tx).getD 3 ByteArray.empty))) = false := ntf (show gd (t ⟨⟩) 3 = true from allI_at hg (by omega))
    have b4 : ltB 4 (IntKind.wrap .i64 (((((wds 10 (t ⟨⟩)).length : Nat)) : Int) - 1)) = true := by rw [hwr, ltB_iff]; omega
    have x4 : (0 : Int) ≤ 4 ∧ (4 : Int) < ((((wds 10 (t ⟨⟩)).length : Nat)) : Int) := ⟨by omega, by unfold nl at hn; omega⟩
    have y4 : 4 < ((wds 10 (t ⟨⟩)).map tx).length := by rw [List.length_map]; unfold nl at hn; omega
    have z4 : (((wds 10 (t ⟨⟩)).map tx).getD 4 ByteArray.empty).size ≤ 1048576 := ln_size (t ⟨⟩) 4 hsz
    have g4 : (!(nrOk 3 (((wds 10 (t ⟨⟩)).map tx).getD 4 ByteArray.empty))) = false := ntf (show gd (t ⟨⟩) 4 = true from allI_at hg (by omega))
    have b5 : ltB 5 (IntKind.wrap .i64 (((((wds 10 (t ⟨⟩)).length : Nat)) : Int) - 1)) = true := by rw [hwr, ltB_iff]; omega
    have x5 : (0 : Int) ≤ 5 ∧ (5 : Int) < ((((wds 10 (t ⟨⟩)).length : Nat)) : Int) := ⟨by omega, by unfold nl at hn; omega⟩
    have y5 : 5 < ((wds 10 (t ⟨⟩)).map tx).length := by rw [List.length_map]; unfold nl at hn; omega
    have z5 : (((wds 10 (t ⟨⟩)).map tx).getD 5 ByteArray.empty).size ≤ 1048576 := ln_size (t ⟨⟩) 5 hsz
    have g5 : (!(nrOk 3 (((wds 10 (t ⟨⟩)).map tx).getD 5 ByteArray.empty))) = false := ntf (show gd (t ⟨⟩) 5 = true from allI_at hg (by omega))
    have hw2 := congrArg not (hW.trans hv)
    refine ⟨_, HLe.refl _, ?_⟩
    cbv
    repeat' first | (refine Ob.mk ?_ ?_; (focus (first | exact hsp | exact hx0 | exact hx1 | exact x0 | exact y0 | exact z0 | exact x1 | exact y1 | exact z1 | exact x2 | exact y2 | exact z2 | exact x3 | exact y3 | exact z3 | exact x4 | exact y4 | exact z4 | exact x5 | exact y5 | exact z5 | exact p0a | exact p0b | exact p0c | exact hS | exact hnn | exact ⟨rfl, rfl, by decide⟩ | exact rfl)); cbv) | (refine Br.f t1 ?_; cbv) | (refine Br.f t2 ?_; cbv) | (refine Br.f t3 ?_; cbv) | (refine Br.t b0 ?_; cbv) | (refine Br.f g0 ?_; cbv) | (refine Br.t b1 ?_; cbv) | (refine Br.f g1 ?_; cbv) | (refine Br.t b2 ?_; cbv) | (refine Br.f g2 ?_; cbv) | (refine Br.t b3 ?_; cbv) | (refine Br.f g3 ?_; cbv) | (refine Br.t b4 ?_; cbv) | (refine Br.f g4 ?_; cbv) | (refine Br.t b5 ?_; cbv) | (refine Br.f g5 ?_; cbv) | (refine Br.f be ?_; cbv) | (refine Br.f hw2 ?_; cbv) | (refine Loop.mk 70 ?_; cbv) | (refine Gen.same ?_; cbv)
  · cases hs
set_option maxRecDepth 100000 in
set_option maxHeartbeats 8000000 in
theorem ok8F6 : Ok Tryd.prog 8 (sRF fun t => okA t = true ∧ nl t = 6 ∧ gdTo t 6 = true ∧ wOk t = false) := ok_of_wpaH (E := E8) mixed tts E8ok fn8 fun args H v H' o hs ho => by
  split at hs
  · rename_i t
    cases hs
    have hsz : (t ⟨⟩).size ≤ 1048576 := ho.two.2
    have hsp : (10 : Int) = (((10 : UInt8).toNat : Nat) : Int) ∧ (t ⟨⟩).size ≤ 1048576 := ⟨rfl, hsz⟩
    have hpos := wds_pos 10 (t ⟨⟩)
    have hle := wds_le 10 (t ⟨⟩)
    have hwr : (IntKind.wrap .i64 (((((wds 10 (t ⟨⟩)).length : Nat)) : Int) - 1)) = ((nl (t ⟨⟩) : Nat) : Int) := by rw [wrap64 (by omega) (by omega)]; unfold nl; omega
    have hp : 0 + (IntKind.wrap .i64 (((((wds 10 (t ⟨⟩)).length : Nat)) : Int) - 1)).toNat * 1 = nl (t ⟨⟩) := by rw [hwr, Int.toNat_natCast]; omega
    have htl : (!((((wds 10 (t ⟨⟩)).map tx).getD (0 + (IntKind.wrap .i64 (((((wds 10 (t ⟨⟩)).length : Nat)) : Int) - 1)).toNat * 1) ByteArray.empty).toList == ({ data := #[] } : ByteArray).toList)) = !(tl (t ⟨⟩)) := by rw [hp]; exact congrArg _ (tl_form _)
    have hx0 : 0 ≤ (IntKind.wrap .i64 (((((wds 10 (t ⟨⟩)).length : Nat)) : Int) - 1)) ∧ (IntKind.wrap .i64 (((((wds 10 (t ⟨⟩)).length : Nat)) : Int) - 1)) < ((((wds 10 (t ⟨⟩)).length : Nat)) : Int) := by rw [hwr]; unfold nl; omega
    have hx1 : 0 + (IntKind.wrap .i64 (((((wds 10 (t ⟨⟩)).length : Nat)) : Int) - 1)).toNat * 1 < ((wds 10 (t ⟨⟩)).map tx).length := by rw [hp, List.length_map]; unfold nl; omega
    have hA : okA (t ⟨⟩) = true := ho.two.1.1
    have hn : nl (t ⟨⟩) = 6 := ho.two.1.2.1
    have hg : gdTo (t ⟨⟩) 6 = true := ho.two.1.2.2.1
    have hv : wOk (t ⟨⟩) = false := ho.two.1.2.2.2
    have hA2 := okA_t hA
    have t1 : (!((((wds 10 (t ⟨⟩)).map tx).getD (0 + (IntKind.wrap .i64 (((((wds 10 (t ⟨⟩)).length : Nat)) : Int) - 1)).toNat * 1) ByteArray.empty).toList == ({ data := #[] } : ByteArray).toList)) = false := by rw [htl, hA2.1]; rfl
    have t2 : ltB (IntKind.wrap .i64 (((((wds 10 (t ⟨⟩)).length : Nat)) : Int) - 1)) 2 = false := by rw [hwr, ltB_no]; omega
    have t3 : ltB 9 (IntKind.wrap .i64 (((((wds 10 (t ⟨⟩)).length : Nat)) : Int) - 1)) = false := by rw [hwr, ltB_no]; omega
    have be : ltB 6 (IntKind.wrap .i64 (((((wds 10 (t ⟨⟩)).length : Nat)) : Int) - 1)) = false := by rw [hwr, ltB_no]; omega
    have gg0 : nrOk 3 (((wds 10 (t ⟨⟩)).map tx).getD 0 ByteArray.empty) = true := show gd (t ⟨⟩) 0 = true from allI_at hg (by omega)
    have p0a : v3a (((wds 10 (t ⟨⟩)).map tx).getD 0 ByteArray.empty) = n3 (ln (t ⟨⟩) 0) 0 := (v3_ok gg0).1
    have p0b : v3b (((wds 10 (t ⟨⟩)).map tx).getD 0 ByteArray.empty) = n3 (ln (t ⟨⟩) 0) 1 := (v3_ok gg0).2.1
    have p0c : v3c (((wds 10 (t ⟨⟩)).map tx).getD 0 ByteArray.empty) = n3 (ln (t ⟨⟩) 0) 2 := (v3_ok gg0).2.2
    have gg1 : nrOk 3 (((wds 10 (t ⟨⟩)).map tx).getD 1 ByteArray.empty) = true := show gd (t ⟨⟩) 1 = true from allI_at hg (by omega)
    have p1a : v3a (((wds 10 (t ⟨⟩)).map tx).getD 1 ByteArray.empty) = n3 (ln (t ⟨⟩) 1) 0 := (v3_ok gg1).1
    have p1b : v3b (((wds 10 (t ⟨⟩)).map tx).getD 1 ByteArray.empty) = n3 (ln (t ⟨⟩) 1) 1 := (v3_ok gg1).2.1
    have p1c : v3c (((wds 10 (t ⟨⟩)).map tx).getD 1 ByteArray.empty) = n3 (ln (t ⟨⟩) 1) 2 := (v3_ok gg1).2.2
    have gg2 : nrOk 3 (((wds 10 (t ⟨⟩)).map tx).getD 2 ByteArray.empty) = true := show gd (t ⟨⟩) 2 = true from allI_at hg (by omega)
    have p2a : v3a (((wds 10 (t ⟨⟩)).map tx).getD 2 ByteArray.empty) = n3 (ln (t ⟨⟩) 2) 0 := (v3_ok gg2).1
    have p2b : v3b (((wds 10 (t ⟨⟩)).map tx).getD 2 ByteArray.empty) = n3 (ln (t ⟨⟩) 2) 1 := (v3_ok gg2).2.1
    have p2c : v3c (((wds 10 (t ⟨⟩)).map tx).getD 2 ByteArray.empty) = n3 (ln (t ⟨⟩) 2) 2 := (v3_ok gg2).2.2
    have gg3 : nrOk 3 (((wds 10 (t ⟨⟩)).map tx).getD 3 ByteArray.empty) = true := show gd (t ⟨⟩) 3 = true from allI_at hg (by omega)
    have p3a : v3a (((wds 10 (t ⟨⟩)).map tx).getD 3 ByteArray.empty) = n3 (ln (t ⟨⟩) 3) 0 := (v3_ok gg3).1
    have p3b : v3b (((wds 10 (t ⟨⟩)).map tx).getD 3 ByteArray.empty) = n3 (ln (t ⟨⟩) 3) 1 := (v3_ok gg3).2.1
    have p3c : v3c (((wds 10 (t ⟨⟩)).map tx).getD 3 ByteArray.empty) = n3 (ln (t ⟨⟩) 3) 2 := (v3_ok gg3).2.2
    have gg4 : nrOk 3 (((wds 10 (t ⟨⟩)).map tx).getD 4 ByteArray.empty) = true := show gd (t ⟨⟩) 4 = true from allI_at hg (by omega)
    have p4a : v3a (((wds 10 (t ⟨⟩)).map tx).getD 4 ByteArray.empty) = n3 (ln (t ⟨⟩) 4) 0 := (v3_ok gg4).1
    have p4b : v3b (((wds 10 (t ⟨⟩)).map tx).getD 4 ByteArray.empty) = n3 (ln (t ⟨⟩) 4) 1 := (v3_ok gg4).2.1
    have p4c : v3c (((wds 10 (t ⟨⟩)).map tx).getD 4 ByteArray.empty) = n3 (ln (t ⟨⟩) 4) 2 := (v3_ok gg4).2.2
    have gg5 : nrOk 3 (((wds 10 (t ⟨⟩)).map tx).getD 5 ByteArray.empty) = true := show gd (t ⟨⟩) 5 = true from allI_at hg (by omega)
    have p5a : v3a (((wds 10 (t ⟨⟩)).map tx).getD 5 ByteArray.empty) = n3 (ln (t ⟨⟩) 5) 0 := (v3_ok gg5).1
    have p5b : v3b (((wds 10 (t ⟨⟩)).map tx).getD 5 ByteArray.empty) = n3 (ln (t ⟨⟩) 5) 1 := (v3_ok gg5).2.1
    have p5c : v3c (((wds 10 (t ⟨⟩)).map tx).getD 5 ByteArray.empty) = n3 (ln (t ⟨⟩) 5) 2 := (v3_ok gg5).2.2
    have hL : spL (t ⟨⟩) = [n3 (ln (t ⟨⟩) 1) 0, n3 (ln (t ⟨⟩) 1) 1, n3 (ln (t ⟨⟩) 1) 2, n3 (ln (t ⟨⟩) 2) 0, n3 (ln (t ⟨⟩) 2) 1, n3 (ln (t ⟨⟩) 2) 2, n3 (ln (t ⟨⟩) 3) 0, n3 (ln (t ⟨⟩) 3) 1, n3 (ln (t ⟨⟩) 3) 2, n3 (ln (t ⟨⟩) 4) 0, n3 (ln (t ⟨⟩) 4) 1, n3 (ln (t ⟨⟩) 4) 2, n3 (ln (t ⟨⟩) 5) 0, n3 (ln (t ⟨⟩) 5) 1, n3 (ln (t ⟨⟩) 5) 2] := by unfold spL; rw [hn]; rfl
    have hS : [v3a (((wds 10 (t ⟨⟩)).map tx).getD 1 ByteArray.empty), v3b (((wds 10 (t ⟨⟩)).map tx).getD 1 ByteArray.empty), v3c (((wds 10 (t ⟨⟩)).map tx).getD 1 ByteArray.empty), v3a (((wds 10 (t ⟨⟩)).map tx).getD 2 ByteArray.empty), v3b (((wds 10 (t ⟨⟩)).map tx).getD 2 ByteArray.empty), v3c (((wds 10 (t ⟨⟩)).map tx).getD 2 ByteArray.empty), v3a (((wds 10 (t ⟨⟩)).map tx).getD 3 ByteArray.empty), v3b (((wds 10 (t ⟨⟩)).map tx).getD 3 ByteArray.empty), v3c (((wds 10 (t ⟨⟩)).map tx).getD 3 ByteArray.empty), v3a (((wds 10 (t ⟨⟩)).map tx).getD 4 ByteArray.empty), v3b (((wds 10 (t ⟨⟩)).map tx).getD 4 ByteArray.empty), v3c (((wds 10 (t ⟨⟩)).map tx).getD 4 ByteArray.empty), v3a (((wds 10 (t ⟨⟩)).map tx).getD 5 ByteArray.empty), v3b (((wds 10 (t ⟨⟩)).map tx).getD 5 ByteArray.empty), v3c (((wds 10 (t ⟨⟩)).map tx).getD 5 ByteArray.empty)] = spL (t ⟨⟩) := by rw [hL, p1a, p1b, p1c, p2a, p2b, p2c, p3a, p3b, p3c, p4a, p4b, p4c, p5a, p5b, p5c]
    have hnn : 5 = nl (t ⟨⟩) - 1 := by omega
    have hW : webOk (v3a (((wds 10 (t ⟨⟩)).map tx).getD 0 ByteArray.empty)) (v3b (((wds 10 (t ⟨⟩)).map tx).getD 0 ByteArray.empty)) (v3c (((wds 10 (t ⟨⟩)).map tx).getD 0 ByteArray.empty)) [v3a (((wds 10 (t ⟨⟩)).map tx).getD 1 ByteArray.empty), v3b (((wds 10 (t ⟨⟩)).map tx).getD 1 ByteArray.empty), v3c (((wds 10 (t ⟨⟩)).map tx).getD 1 ByteArray.empty), v3a (((wds 10 (t ⟨⟩)).map tx).getD 2 ByteArray.empty), v3b (((wds 10 (t ⟨⟩)).map tx).getD 2 ByteArray.empty), v3c (((wds 10 (t ⟨⟩)).map tx).getD 2 ByteArray.empty), v3a (((wds 10 (t ⟨⟩)).map tx).getD 3 ByteArray.empty), v3b (((wds 10 (t ⟨⟩)).map tx).getD 3 ByteArray.empty), v3c (((wds 10 (t ⟨⟩)).map tx).getD 3 ByteArray.empty), v3a (((wds 10 (t ⟨⟩)).map tx).getD 4 ByteArray.empty), v3b (((wds 10 (t ⟨⟩)).map tx).getD 4 ByteArray.empty), v3c (((wds 10 (t ⟨⟩)).map tx).getD 4 ByteArray.empty), v3a (((wds 10 (t ⟨⟩)).map tx).getD 5 ByteArray.empty), v3b (((wds 10 (t ⟨⟩)).map tx).getD 5 ByteArray.empty), v3c (((wds 10 (t ⟨⟩)).map tx).getD 5 ByteArray.empty)] 5 = wOk (t ⟨⟩) := by unfold wOk; rw [hS, p0a, p0b, p0c]; exact congrArg (webOk _ _ _ _) hnn
    have b0 : ltB 0 (IntKind.wrap .i64 (((((wds 10 (t ⟨⟩)).length : Nat)) : Int) - 1)) = true := by rw [hwr, ltB_iff]; omega
    have x0 : (0 : Int) ≤ 0 ∧ (0 : Int) < ((((wds 10 (t ⟨⟩)).length : Nat)) : Int) := ⟨by omega, by unfold nl at hn; omega⟩
    have y0 : 0 < ((wds 10 (t ⟨⟩)).map tx).length := by rw [List.length_map]; unfold nl at hn; omega
    have z0 : (((wds 10 (t ⟨⟩)).map tx).getD 0 ByteArray.empty).size ≤ 1048576 := ln_size (t ⟨⟩) 0 hsz
    have g0 : (!(nrOk 3 (((wds 10 (t ⟨⟩)).map tx).getD 0 ByteArray.empty))) = false := ntf (show gd (t ⟨⟩) 0 = true from allI_at hg (by omega))
    have b1 : ltB 1 (IntKind.wrap .i64 (((((wds 10 (t ⟨⟩)).length : Nat)) : Int) - 1)) = true := by rw [hwr, ltB_iff]; omega
    have x1 : (0 : Int) ≤ 1 ∧ (1 : Int) < ((((wds 10 (t ⟨⟩)).length : Nat)) : Int) := ⟨by omega, by unfold nl at hn; omega⟩
    have y1 : 1 < ((wds 10 (t ⟨⟩)).map tx).length := by rw [List.length_map]; unfold nl at hn; omega
    have z1 : (((wds 10 (t ⟨⟩)).map tx).getD 1 ByteArray.empty).size ≤ 1048576 := ln_size (t ⟨⟩) 1 hsz
    have g1 : (!(nrOk 3 (((wds 10 (t ⟨⟩)).map tx).getD 1 ByteArray.empty))) = false := ntf (show gd (t ⟨⟩) 1 = true from allI_at hg (by omega))
    have b2 : ltB 2 (IntKind.wrap .i64 (((((wds 10 (t ⟨⟩)).length : Nat)) : Int) - 1)) = true := by rw [hwr, ltB_iff]; omega
    have x2 : (0 : Int) ≤ 2 ∧ (2 : Int) < ((((wds 10 (t ⟨⟩)).length : Nat)) : Int) := ⟨by omega, by unfold nl at hn; omega⟩
    have y2 : 2 < ((wds 10 (t ⟨⟩)).map tx).length := by rw [List.length_map]; unfold nl at hn; omega
    have z2 : (((wds 10 (t ⟨⟩)).map tx).getD 2 ByteArray.empty).size ≤ 1048576 := ln_size (t ⟨⟩) 2 hsz
    have g2 : (!(nrOk 3 (((wds 10 (t ⟨⟩)).map tx).getD 2 ByteArray.empty))) = false := ntf (show gd (t ⟨⟩) 2 = true from allI_at hg (by omega))
    have b3 : ltB 3 (IntKind.wrap .i64 (((((wds 10 (t ⟨⟩)).length : Nat)) : Int) - 1)) = true := by rw [hwr, ltB_iff]; omega
    have x3 : (0 : Int) ≤ 3 ∧ (3 : Int) < ((((wds 10 (t ⟨⟩)).length : Nat)) : Int) := ⟨by omega, by unfold nl at hn; omega⟩
    have y3 : 3 < ((wds 10 (t ⟨⟩)).map tx).length := by rw [List.length_map]; unfold nl at hn; omega
    have z3 : (((wds 10 (t ⟨⟩)).map tx).getD 3 ByteArray.empty).size ≤ 1048576 := ln_size (t ⟨⟩) 3 hsz
    have g3 : (!(nrOk 3 (((wds 10 (t ⟨⟩)).map tx).getD 3 ByteArray.empty))) = false := ntf (show gd (t ⟨⟩) 3 = true from allI_at hg (by omega))
    have b4 : ltB 4 (IntKind.wrap .i64 (((((wds 10 (t ⟨⟩)).length : Nat)) : Int) - 1)) = true := by rw [hwr, ltB_iff]; omega
    have x4 : (0 : Int) ≤ 4 ∧ (4 : Int) < ((((wds 10 (t ⟨⟩)).length : Nat)) : Int) := ⟨by omega, by unfold nl at hn; omega⟩
    have y4 : 4 < ((wds 10 (t ⟨⟩)).map tx).length := by rw [List.length_map]; unfold nl at hn; omega
    have z4 : (((wds 10 (t ⟨⟩)).map tx).getD 4 ByteArray.empty).size ≤ 1048576 := ln_size (t ⟨⟩) 4 hsz
    have g4 : (!(nrOk 3 (((wds 10 (t ⟨⟩)).map tx).getD 4 ByteArray.empty))) = false := ntf (show gd (t ⟨⟩) 4 = true from allI_at hg (by omega))
    have b5 : ltB 5 (IntKind.wrap .i64 (((((wds 10 (t ⟨⟩)).length : Nat)) : Int) - 1)) = true := by rw [hwr, ltB_iff]; omega
    have x5 : (0 : Int) ≤ 5 ∧ (5 : Int) < ((((wds 10 (t ⟨⟩)).length : Nat)) : Int) := ⟨by omega, by unfold nl at hn; omega⟩
    have y5 : 5 < ((wds 10 (t ⟨⟩)).map tx).length := by rw [List.length_map]; unfold nl at hn; omega
    have z5 : (((wds 10 (t ⟨⟩)).map tx).getD 5 ByteArray.empty).size ≤ 1048576 := ln_size (t ⟨⟩) 5 hsz
    have g5 : (!(nrOk 3 (((wds 10 (t ⟨⟩)).map tx).getD 5 ByteArray.empty))) = false := ntf (show gd (t ⟨⟩) 5 = true from allI_at hg (by omega))
    have hw2 := congrArg not (hW.trans hv)
    refine ⟨_, HLe.refl _, ?_⟩
    cbv
    repeat' first | (refine Ob.mk ?_ ?_; (focus (first | exact hsp | exact hx0 | exact hx1 | exact x0 | exact y0 | exact z0 | exact x1 | exact y1 | exact z1 | exact x2 | exact y2 | exact z2 | exact x3 | exact y3 | exact z3 | exact x4 | exact y4 | exact z4 | exact x5 | exact y5 | exact z5 | exact p0a | exact p0b | exact p0c | exact hS | exact hnn | exact ⟨rfl, rfl, by decide⟩ | exact rfl)); cbv) | (refine Br.f t1 ?_; cbv) | (refine Br.f t2 ?_; cbv) | (refine Br.f t3 ?_; cbv) | (refine Br.t b0 ?_; cbv) | (refine Br.f g0 ?_; cbv) | (refine Br.t b1 ?_; cbv) | (refine Br.f g1 ?_; cbv) | (refine Br.t b2 ?_; cbv) | (refine Br.f g2 ?_; cbv) | (refine Br.t b3 ?_; cbv) | (refine Br.f g3 ?_; cbv) | (refine Br.t b4 ?_; cbv) | (refine Br.f g4 ?_; cbv) | (refine Br.t b5 ?_; cbv) | (refine Br.f g5 ?_; cbv) | (refine Br.f be ?_; cbv) | (refine Br.t hw2 ?_; cbv) | (refine Loop.mk 70 ?_; cbv) | (refine Gen.same ?_; cbv)
  · cases hs
end Go.Proofs.YteifneielgnniaaDoor.Sh
end
section
namespace Go.Proofs.YteifneielgnniaaDoor.Sh
open Go Go.Proofs
attribute [local irreducible] wds tx rn rnC rnOk nrOk v3a v3b v3c wAt n3 webOk spL tl nl wOk
set_option maxRecDepth 100000 in
set_option maxHeartbeats 8000000 in
theorem ok8T7 : Ok Tryd.prog 8 (sRT fun t => okA t = true ∧ nl t = 7 ∧ gdTo t 7 = true ∧ wOk t = true) := ok_of_wpaH (E := E8) mixed tts E8ok fn8 fun args H v H' o hs ho => by
  split at hs
  · rename_i t
    cases hs
    have hsz : (t ⟨⟩).size ≤ 1048576 := ho.two.2
    have hsp : (10 : Int) = (((10 : UInt8).toNat : Nat) : Int) ∧ (t ⟨⟩).size ≤ 1048576 := ⟨rfl, hsz⟩
    have hpos := wds_pos 10 (t ⟨⟩)
    have hle := wds_le 10 (t ⟨⟩)
    have hwr : (IntKind.wrap .i64 (((((wds 10 (t ⟨⟩)).length : Nat)) : Int) - 1)) = ((nl (t ⟨⟩) : Nat) : Int) := by rw [wrap64 (by omega) (by omega)]; unfold nl; omega
    have hp : 0 + (IntKind.wrap .i64 (((((wds 10 (t ⟨⟩)).length : Nat)) : Int) - 1)).toNat * 1 = nl (t ⟨⟩) := by rw [hwr, Int.toNat_natCast]; omega
    have htl : (!((((wds 10 (t ⟨⟩)).map tx).getD (0 + (IntKind.wrap .i64 (((((wds 10 (t ⟨⟩)).length : Nat)) : Int) - 1)).toNat * 1) ByteArray.empty).toList == ({ data := #[] } : ByteArray).toList)) = !(tl (t ⟨⟩)) := by rw [hp]; exact congrArg _ (tl_form _)
    have hx0 : 0 ≤ (IntKind.wrap .i64 (((((wds 10 (t ⟨⟩)).length : Nat)) : Int) - 1)) ∧ (IntKind.wrap .i64 (((((wds 10 (t ⟨⟩)).length : Nat)) : Int) - 1)) < ((((wds 10 (t ⟨⟩)).length : Nat)) : Int) := by rw [hwr]; unfold nl; omega
    have hx1 : 0 + (IntKind.wrap .i64 (((((wds 10 (t ⟨⟩)).length : Nat)) : Int) - 1)).toNat * 1 < ((wds 10 (t ⟨⟩)).map tx).length := by rw [hp, List.length_map]; unfold nl; omega
    have hA : okA (t ⟨⟩) = true := ho.two.1.1
    have hn : nl (t ⟨⟩) = 7 := ho.two.1.2.1
    have hg : gdTo (t ⟨⟩) 7 = true := ho.two.1.2.2.1
    have hv : wOk (t ⟨⟩) = true := ho.two.1.2.2.2
    have hA2 := okA_t hA
    have t1 : (!((((wds 10 (t ⟨⟩)).map tx).getD (0 + (IntKind.wrap .i64 (((((wds 10 (t ⟨⟩)).length : Nat)) : Int) - 1)).toNat * 1) ByteArray.empty).toList == ({ data := #[] } : ByteArray).toList)) = false := by rw [htl, hA2.1]; rfl
    have t2 : ltB (IntKind.wrap .i64 (((((wds 10 (t ⟨⟩)).length : Nat)) : Int) - 1)) 2 = false := by rw [hwr, ltB_no]; omega
    have t3 : ltB 9 (IntKind.wrap .i64 (((((wds 10 (t ⟨⟩)).length : Nat)) : Int) - 1)) = false := by rw [hwr, ltB_no]; omega
    have be : ltB 7 (IntKind.wrap .i64 (((((wds 10 (t ⟨⟩)).length : Nat)) : Int) - 1)) = false := by rw [hwr, ltB_no]; omega
    have gg0 : nrOk 3 (((wds 10 (t ⟨⟩)).map tx).getD 0 ByteArray.empty) = true := show gd (t ⟨⟩) 0 = true from allI_at hg (by omega)
    have p0a : v3a (((wds 10 (t ⟨⟩)).map tx).getD 0 ByteArray.empty) = n3 (ln (t ⟨⟩) 0) 0 := (v3_ok gg0).1
    have p0b : v3b (((wds 10 (t ⟨⟩)).map tx).getD 0 ByteArray.empty) = n3 (ln (t ⟨⟩) 0) 1 := (v3_ok gg0).2.1
    have p0c : v3c (((wds 10 (t ⟨⟩)).map tx).getD 0 ByteArray.empty) = n3 (ln (t ⟨⟩) 0) 2 := (v3_ok gg0).2.2
    have gg1 : nrOk 3 (((wds 10 (t ⟨⟩)).map tx).getD 1 ByteArray.empty) = true := show gd (t ⟨⟩) 1 = true from allI_at hg (by omega)
    have p1a : v3a (((wds 10 (t ⟨⟩)).map tx).getD 1 ByteArray.empty) = n3 (ln (t ⟨⟩) 1) 0 := (v3_ok gg1).1
    have p1b : v3b (((wds 10 (t ⟨⟩)).map tx).getD 1 ByteArray.empty) = n3 (ln (t ⟨⟩) 1) 1 := (v3_ok gg1).2.1
    have p1c : v3c (((wds 10 (t ⟨⟩)).map tx).getD 1 ByteArray.empty) = n3 (ln (t ⟨⟩) 1) 2 := (v3_ok gg1).2.2
    have gg2 : nrOk 3 (((wds 10 (t ⟨⟩)).map tx).getD 2 ByteArray.empty) = true := show gd (t ⟨⟩) 2 = true from allI_at hg (by omega)
    have p2a : v3a (((wds 10 (t ⟨⟩)).map tx).getD 2 ByteArray.empty) = n3 (ln (t ⟨⟩) 2) 0 := (v3_ok gg2).1
    have p2b : v3b (((wds 10 (t ⟨⟩)).map tx).getD 2 ByteArray.empty) = n3 (ln (t ⟨⟩) 2) 1 := (v3_ok gg2).2.1
    have p2c : v3c (((wds 10 (t ⟨⟩)).map tx).getD 2 ByteArray.empty) = n3 (ln (t ⟨⟩) 2) 2 := (v3_ok gg2).2.2
    have gg3 : nrOk 3 (((wds 10 (t ⟨⟩)).map tx).getD 3 ByteArray.empty) = true := show gd (t ⟨⟩) 3 = true from allI_at hg (by omega)
    have p3a : v3a (((wds 10 (t ⟨⟩)).map tx).getD 3 ByteArray.empty) = n3 (ln (t ⟨⟩) 3) 0 := (v3_ok gg3).1
    have p3b : v3b (((wds 10 (t ⟨⟩)).map tx).getD 3 ByteArray.empty) = n3 (ln (t ⟨⟩) 3) 1 := (v3_ok gg3).2.1
    have p3c : v3c (((wds 10 (t ⟨⟩)).map tx).getD 3 ByteArray.empty) = n3 (ln (t ⟨⟩) 3) 2 := (v3_ok gg3).2.2
    have gg4 : nrOk 3 (((wds 10 (t ⟨⟩)).map tx).getD 4 ByteArray.empty) = true := show gd (t ⟨⟩) 4 = true from allI_at hg (by omega)
    have p4a : v3a (((wds 10 (t ⟨⟩)).map tx).getD 4 ByteArray.empty) = n3 (ln (t ⟨⟩) 4) 0 := (v3_ok gg4).1
    have p4b : v3b (((wds 10 (t ⟨⟩)).map tx).getD 4 ByteArray.empty) = n3 (ln (t ⟨⟩) 4) 1 := (v3_ok gg4).2.1
    have p4c : v3c (((wds 10 (t ⟨⟩)).map tx).getD 4 ByteArray.empty) = n3 (ln (t ⟨⟩) 4) 2 := (v3_ok gg4).2.2
    have gg5 : nrOk 3 (((wds 10 (t ⟨⟩)).map tx).getD 5 ByteArray.empty) = true := show gd (t ⟨⟩) 5 = true from allI_at hg (by omega)
    have p5a : v3a (((wds 10 (t ⟨⟩)).map tx).getD 5 ByteArray.empty) = n3 (ln (t ⟨⟩) 5) 0 := (v3_ok gg5).1
    have p5b : v3b (((wds 10 (t ⟨⟩)).map tx).getD 5 ByteArray.empty) = n3 (ln (t ⟨⟩) 5) 1 := (v3_ok gg5).2.1
    have p5c : v3c (((wds 10 (t ⟨⟩)).map tx).getD 5 ByteArray.empty) = n3 (ln (t ⟨⟩) 5) 2 := (v3_ok gg5).2.2
    have gg6 : nrOk 3 (((wds 10 (t ⟨⟩)).map tx).getD 6 ByteArray.empty) = true := show gd (t ⟨⟩) 6 = true from allI_at hg (by omega)
    have p6a : v3a (((wds 10 (t ⟨⟩)).map tx).getD 6 ByteArray.empty) = n3 (ln (t ⟨⟩) 6) 0 := (v3_ok gg6).1
    have p6b : v3b (((wds 10 (t ⟨⟩)).map tx).getD 6 ByteArray.empty) = n3 (ln (t ⟨⟩) 6) 1 := (v3_ok gg6).2.1
    have p6c : v3c (((wds 10 (t ⟨⟩)).map tx).getD 6 ByteArray.empty) = n3 (ln (t ⟨⟩) 6) 2 := (v3_ok gg6).2.2
    have hL : spL (t ⟨⟩) = [n3 (ln (t ⟨⟩) 1) 0, n3 (ln (t ⟨⟩) 1) 1, n3 (ln (t ⟨⟩) 1) 2, n3 (ln (t ⟨⟩) 2) 0, n3 (ln (t ⟨⟩) 2) 1, n3 (ln (t ⟨⟩) 2) 2, n3 (ln (t ⟨⟩) 3) 0, n3 (ln (t ⟨⟩) 3) 1, n3 (ln (t ⟨⟩) 3) 2, n3 (ln (t ⟨⟩) 4) 0, n3 (ln (t ⟨⟩) 4) 1, n3 (ln (t ⟨⟩) 4) 2, n3 (ln (t ⟨⟩) 5) 0, n3 (ln (t ⟨⟩) 5) 1, n3 (ln (t ⟨⟩) 5) 2, n3 (ln (t ⟨⟩) 6) 0, n3 (ln (t ⟨⟩) 6) 1, n3 (ln (t ⟨⟩) 6) 2] := by unfold spL; rw [hn]; rfl
    have hS : [v3a (((wds 10 (t ⟨⟩)).map tx).getD 1 ByteArray.empty), v3b (((wds 10 (t ⟨⟩)).map tx).getD 1 ByteArray.empty), v3c (((wds 10 (t ⟨⟩)).map tx).getD 1 ByteArray.empty), v3a (((wds 10 (t ⟨⟩)).map tx).getD 2 ByteArray.empty), v3b (((wds 10 (t ⟨⟩)).map tx).getD 2 ByteArray.empty), v3c (((wds 10 (t ⟨⟩)).map tx).getD 2 ByteArray.empty), v3a (((wds 10 (t ⟨⟩)).map tx).getD 3 ByteArray.empty), v3b (((wds 10 (t ⟨⟩)).map tx).getD 3 ByteArray.empty), v3c (((wds 10 (t ⟨⟩)).map tx).getD 3 ByteArray.empty), v3a (((wds 10 (t ⟨⟩)).map tx).getD 4 ByteArray.empty), v3b (((wds 10 (t ⟨⟩)).map tx).getD 4 ByteArray.empty), v3c (((wds 10 (t ⟨⟩)).map tx).getD 4 ByteArray.empty), v3a (((wds 10 (t ⟨⟩)).map tx).getD 5 ByteArray.empty), v3b (((wds 10 (t ⟨⟩)).map tx).getD 5 ByteArray.empty), v3c (((wds 10 (t ⟨⟩)).map tx).getD 5 ByteArray.empty), v3a (((wds 10 (t ⟨⟩)).map tx).getD 6 ByteArray.empty), v3b (((wds 10 (t ⟨⟩)).map tx).getD 6 ByteArray.empty), v3c (((wds 10 (t ⟨⟩)).map tx).getD 6 ByteArray.empty)] = spL (t ⟨⟩) := by rw [hL, p1a, p1b, p1c, p2a, p2b, p2c, p3a, p3b, p3c, p4a, p4b, p4c, p5a, p5b, p5c, p6a, p6b, p6c]
    have hnn : 6 = nl (t ⟨⟩) - 1 := by omega
    have hW : webOk (v3a (((wds 10 (t ⟨⟩)).map tx).getD 0 ByteArray.empty)) (v3b (((wds 10 (t ⟨⟩)).map tx).getD 0 ByteArray.empty)) (v3c (((wds 10 (t ⟨⟩)).map tx).getD 0 ByteArray.empty)) [v3a (((wds 10 (t ⟨⟩)).map tx).getD 1 ByteArray.empty), v3b (((wds 10 (t ⟨⟩)).map tx).getD 1 ByteArray.empty), v3c (((wds 10 (t ⟨⟩)).map tx).getD 1 ByteArray.empty), v3a (((wds 10 (t ⟨⟩)).map tx).getD 2 ByteArray.empty), v3b (((wds 10 (t ⟨⟩)).map tx).getD 2 ByteArray.empty), v3c (((wds 10 (t ⟨⟩)).map tx).getD 2 ByteArray.empty), v3a (((wds 10 (t ⟨⟩)).map tx).getD 3 ByteArray.empty), v3b (((wds 10 (t ⟨⟩)).map tx).getD 3 ByteArray.empty), v3c (((wds 10 (t ⟨⟩)).map tx).getD 3 ByteArray.empty), v3a (((wds 10 (t ⟨⟩)).map tx).getD 4 ByteArray.empty), v3b (((wds 10 (t ⟨⟩)).map tx).getD 4 ByteArray.empty), v3c (((wds 10 (t ⟨⟩)).map tx).getD 4 ByteArray.empty), v3a (((wds 10 (t ⟨⟩)).map tx).getD 5 ByteArray.empty), v3b (((wds 10 (t ⟨⟩)).map tx).getD 5 ByteArray.empty), v3c (((wds 10 (t ⟨⟩)).map tx).getD 5 ByteArray.empty), v3a (((wds 10 (t ⟨⟩)).map tx).getD 6 ByteArray.empty), v3b (((wds 10 (t ⟨⟩)).map tx).getD 6 ByteArray.empty), v3c (((wds 10 (t ⟨⟩)).map tx).getD 6 ByteArray.empty)] 6 = wOk (t ⟨⟩) := by unfold wOk; rw [hS, p0a, p0b, p0c]; exact congrArg (webOk _ _ _ _) hnn
    have b0 : ltB 0 (IntKind.wrap .i64 (((((wds 10 (t ⟨⟩)).length : Nat)) : Int) - 1)) = true := by rw [hwr, ltB_iff]; omega
    have x0 : (0 : Int) ≤ 0 ∧ (0 : Int) < ((((wds 10 (t ⟨⟩)).length : Nat)) : Int) := ⟨by omega, by unfold nl at hn; omega⟩
    have y0 : 0 < ((wds 10 (t ⟨⟩)).map tx).length := by rw [List.length_map]; unfold nl at hn; omega
    have z0 : (((wds 10 (t ⟨⟩)).map tx).getD 0 ByteArray.empty).size ≤ 1048576 := ln_size (t ⟨⟩) 0 hsz
    have g0 : (!(nrOk 3 (((wds 10 (t ⟨⟩)).map tx).getD 0 ByteArray.empty))) = false := ntf (show gd (t ⟨⟩) 0 = true from allI_at hg (by omega))
    have b1 : ltB 1 (IntKind.wrap .i64 (((((wds 10 (t ⟨⟩)).length : Nat)) : Int) - 1)) = true := by rw [hwr, ltB_iff]; omega
    have x1 : (0 : Int) ≤ 1 ∧ (1 : Int) < ((((wds 10 (t ⟨⟩)).length : Nat)) : Int) := ⟨by omega, by unfold nl at hn; omega⟩
    have y1 : 1 < ((wds 10 (t ⟨⟩)).map tx).length := by rw [List.length_map]; unfold nl at hn; omega
    have z1 : (((wds 10 (t ⟨⟩)).map tx).getD 1 ByteArray.empty).size ≤ 1048576 := ln_size (t ⟨⟩) 1 hsz
    have g1 : (!(nrOk 3 (((wds 10 (t ⟨⟩)).map tx).getD 1 ByteArray.empty))) = false := ntf (show gd (t ⟨⟩) 1 = true from allI_at hg (by omega))
    have b2 : ltB 2 (IntKind.wrap .i64 (((((wds 10 (t ⟨⟩)).length : Nat)) : Int) - 1)) = true := by rw [hwr, ltB_iff]; omega
    have x2 : (0 : Int) ≤ 2 ∧ (2 : Int) < ((((wds 10 (t ⟨⟩)).length : Nat)) : Int) := ⟨by omega, by unfold nl at hn; omega⟩
    have y2 : 2 < ((wds 10 (t ⟨⟩)).map tx).length := by rw [List.length_map]; unfold nl at hn; omega
    have z2 : (((wds 10 (t ⟨⟩)).map tx).getD 2 ByteArray.empty).size ≤ 1048576 := ln_size (t ⟨⟩) 2 hsz
    have g2 : (!(nrOk 3 (((wds 10 (t ⟨⟩)).map tx).getD 2 ByteArray.empty))) = false := ntf (show gd (t ⟨⟩) 2 = true from allI_at hg (by omega))
    have b3 : ltB 3 (IntKind.wrap .i64 (((((wds 10 (t ⟨⟩)).length : Nat)) : Int) - 1)) = true := by rw [hwr, ltB_iff]; omega
    have x3 : (0 : Int) ≤ 3 ∧ (3 : Int) < ((((wds 10 (t ⟨⟩)).length : Nat)) : Int) := ⟨by omega, by unfold nl at hn; omega⟩
    have y3 : 3 < ((wds 10 (t ⟨⟩)).map tx).length := by rw [List.length_map]; unfold nl at hn; omega
    have z3 : (((wds 10 (t ⟨⟩)).map tx).getD 3 ByteArray.empty).size ≤ 1048576 := ln_size (t ⟨⟩) 3 hsz
    have g3 : (!(nrOk 3 (((wds 10 (t ⟨⟩)).map tx).getD 3 ByteArray.empty))) = false := ntf (show gd (t ⟨⟩) 3 = true from allI_at hg (by omega))
    have b4 : ltB 4 (IntKind.wrap .i64 (((((wds 10 (t ⟨⟩)).length : Nat)) : Int) - 1)) = true := by rw [hwr, ltB_iff]; omega
    have x4 : (0 : Int) ≤ 4 ∧ (4 : Int) < ((((wds 10 (t ⟨⟩)).length : Nat)) : Int) := ⟨by omega, by unfold nl at hn; omega⟩
    have y4 : 4 < ((wds 10 (t ⟨⟩)).map tx).length := by rw [List.length_map]; unfold nl at hn; omega
    have z4 : (((wds 10 (t ⟨⟩)).map tx).getD 4 ByteArray.empty).size ≤ 1048576 := ln_size (t ⟨⟩) 4 hsz
    have g4 : (!(nrOk 3 (((wds 10 (t ⟨⟩)).map tx).getD 4 ByteArray.empty))) = false := ntf (show gd (t ⟨⟩) 4 = true from allI_at hg (by omega))
    have b5 : ltB 5 (IntKind.wrap .i64 (((((wds 10 (t ⟨⟩)).length : Nat)) : Int) - 1)) = true := by rw [hwr, ltB_iff]; omega
    have x5 : (0 : Int) ≤ 5 ∧ (5 : Int) < ((((wds 10 (t ⟨⟩)).length : Nat)) : Int) := ⟨by omega, by unfold nl at hn; omega⟩
    have y5 : 5 < ((wds 10 (t ⟨⟩)).map tx).length := by rw [List.length_map]; unfold nl at hn; omega
    have z5 : (((wds 10 (t ⟨⟩)).map tx).getD 5 ByteArray.empty).size ≤ 1048576 := ln_size (t ⟨⟩) 5 hsz
    have g5 : (!(nrOk 3 (((wds 10 (t ⟨⟩)).map tx).getD 5 ByteArray.empty))) = false := ntf (show gd (t ⟨⟩) 5 = true from allI_at hg (by omega))
    have b6 : ltB 6 (IntKind.wrap .i64 (((((wds 10 (t ⟨⟩)).length : Nat)) : Int) - 1)) = true := by rw [hwr, ltB_iff]; omega
    have x6 : (0 : Int) ≤ 6 ∧ (6 : Int) < ((((wds 10 (t ⟨⟩)).length : Nat)) : Int) := ⟨by omega, by unfold nl at hn; omega⟩
    have y6 : 6 < ((wds 10 (t ⟨⟩)).map tx).length := by rw [List.length_map]; unfold nl at hn; omega
    have z6 : (((wds 10 (t ⟨⟩)).map tx).getD 6 ByteArray.empty).size ≤ 1048576 := ln_size (t ⟨⟩) 6 hsz
    have g6 : (!(nrOk 3 (((wds 10 (t ⟨⟩)).map tx).getD 6 ByteArray.empty))) = false := ntf (show gd (t ⟨⟩) 6 = true from allI_at hg (by omega))
    have hw2 := congrArg not (hW.trans hv)
    refine ⟨_, HLe.refl _, ?_⟩
    cbv
    repeat' first | (refine Ob.mk ?_ ?_; (focus (first | exact hsp | exact hx0 | exact hx1 | exact x0 | exact y0 | exact z0 | exact x1 | exact y1 | exact z1 | exact x2 | exact y2 | exact z2 | exact x3 | exact y3 | exact z3 | exact x4 | exact y4 | exact z4 | exact x5 | exact y5 | exact z5 | exact x6 | exact y6 | exact z6 | exact p0a | exact p0b | exact p0c | exact hS | exact hnn | exact ⟨rfl, rfl, by decide⟩ | exact rfl)); cbv) | (refine Br.f t1 ?_; cbv) | (refine Br.f t2 ?_; cbv) | (refine Br.f t3 ?_; cbv) | (refine Br.t b0 ?_; cbv) | (refine Br.f g0 ?_; cbv) | (refine Br.t b1 ?_; cbv) | (refine Br.f g1 ?_; cbv) | (refine Br.t b2 ?_; cbv) | (refine Br.f g2 ?_; cbv) | (refine Br.t b3 ?_; cbv) | (refine Br.f g3 ?_; cbv) | (refine Br.t b4 ?_; cbv) | (refine Br.f g4 ?_; cbv) | (refine Br.t b5 ?_; cbv) | (refine Br.f g5 ?_; cbv) | (refine Br.t b6 ?_; cbv) | (refine Br.f g6 ?_; cbv) | (refine Br.f be ?_; cbv) | (refine Br.f hw2 ?_; cbv) | (refine Loop.mk 70 ?_; cbv) | (refine Gen.same ?_; cbv)
  · cases hs
set_option maxRecDepth 100000 in
set_option maxHeartbeats 8000000 in
theorem ok8F7 : Ok Tryd.prog 8 (sRF fun t => okA t = true ∧ nl t = 7 ∧ gdTo t 7 = true ∧ wOk t = false) := ok_of_wpaH (E := E8) mixed tts E8ok fn8 fun args H v H' o hs ho => by
  split at hs
  · rename_i t
    cases hs
    have hsz : (t ⟨⟩).size ≤ 1048576 := ho.two.2
    have hsp : (10 : Int) = (((10 : UInt8).toNat : Nat) : Int) ∧ (t ⟨⟩).size ≤ 1048576 := ⟨rfl, hsz⟩
    have hpos := wds_pos 10 (t ⟨⟩)
    have hle := wds_le 10 (t ⟨⟩)
    have hwr : (IntKind.wrap .i64 (((((wds 10 (t ⟨⟩)).length : Nat)) : Int) - 1)) = ((nl (t ⟨⟩) : Nat) : Int) := by rw [wrap64 (by omega) (by omega)]; unfold nl; omega
    have hp : 0 + (IntKind.wrap .i64 (((((wds 10 (t ⟨⟩)).length : Nat)) : Int) - 1)).toNat * 1 = nl (t ⟨⟩) := by rw [hwr, Int.toNat_natCast]; omega
    have htl : (!((((wds 10 (t ⟨⟩)).map tx).getD (0 + (IntKind.wrap .i64 (((((wds 10 (t ⟨⟩)).length : Nat)) : Int) - 1)).toNat * 1) ByteArray.empty).toList == ({ data := #[] } : ByteArray).toList)) = !(tl (t ⟨⟩)) := by rw [hp]; exact congrArg _ (tl_form _)
    have hx0 : 0 ≤ (IntKind.wrap .i64 (((((wds 10 (t ⟨⟩)).length : Nat)) : Int) - 1)) ∧ (IntKind.wrap .i64 (((((wds 10 (t ⟨⟩)).length : Nat)) : Int) - 1)) < ((((wds 10 (t ⟨⟩)).length : Nat)) : Int) := by rw [hwr]; unfold nl; omega
    have hx1 : 0 + (IntKind.wrap .i64 (((((wds 10 (t ⟨⟩)).length : Nat)) : Int) - 1)).toNat * 1 < ((wds 10 (t ⟨⟩)).map tx).length := by rw [hp, List.length_map]; unfold nl; omega
    have hA : okA (t ⟨⟩) = true := ho.two.1.1
    have hn : nl (t ⟨⟩) = 7 := ho.two.1.2.1
    have hg : gdTo (t ⟨⟩) 7 = true := ho.two.1.2.2.1
    have hv : wOk (t ⟨⟩) = false := ho.two.1.2.2.2
    have hA2 := okA_t hA
    have t1 : (!((((wds 10 (t ⟨⟩)).map tx).getD (0 + (IntKind.wrap .i64 (((((wds 10 (t ⟨⟩)).length : Nat)) : Int) - 1)).toNat * 1) ByteArray.empty).toList == ({ data := #[] } : ByteArray).toList)) = false := by rw [htl, hA2.1]; rfl
    have t2 : ltB (IntKind.wrap .i64 (((((wds 10 (t ⟨⟩)).length : Nat)) : Int) - 1)) 2 = false := by rw [hwr, ltB_no]; omega
    have t3 : ltB 9 (IntKind.wrap .i64 (((((wds 10 (t ⟨⟩)).length : Nat)) : Int) - 1)) = false := by rw [hwr, ltB_no]; omega
    have be : ltB 7 (IntKind.wrap .i64 (((((wds 10 (t ⟨⟩)).length : Nat)) : Int) - 1)) = false := by rw [hwr, ltB_no]; omega
    have gg0 : nrOk 3 (((wds 10 (t ⟨⟩)).map tx).getD 0 ByteArray.empty) = true := show gd (t ⟨⟩) 0 = true from allI_at hg (by omega)
    have p0a : v3a (((wds 10 (t ⟨⟩)).map tx).getD 0 ByteArray.empty) = n3 (ln (t ⟨⟩) 0) 0 := (v3_ok gg0).1
    have p0b : v3b (((wds 10 (t ⟨⟩)).map tx).getD 0 ByteArray.empty) = n3 (ln (t ⟨⟩) 0) 1 := (v3_ok gg0).2.1
    have p0c : v3c (((wds 10 (t ⟨⟩)).map tx).getD 0 ByteArray.empty) = n3 (ln (t ⟨⟩) 0) 2 := (v3_ok gg0).2.2
    have gg1 : nrOk 3 (((wds 10 (t ⟨⟩)).map tx).getD 1 ByteArray.empty) = true := show gd (t ⟨⟩) 1 = true from allI_at hg (by omega)
    have p1a : v3a (((wds 10 (t ⟨⟩)).map tx).getD 1 ByteArray.empty) = n3 (ln (t ⟨⟩) 1) 0 := (v3_ok gg1).1
    have p1b : v3b (((wds 10 (t ⟨⟩)).map tx).getD 1 ByteArray.empty) = n3 (ln (t ⟨⟩) 1) 1 := (v3_ok gg1).2.1
    have p1c : v3c (((wds 10 (t ⟨⟩)).map tx).getD 1 ByteArray.empty) = n3 (ln (t ⟨⟩) 1) 2 := (v3_ok gg1).2.2
    have gg2 : nrOk 3 (((wds 10 (t ⟨⟩)).map tx).getD 2 ByteArray.empty) = true := show gd (t ⟨⟩) 2 = true from allI_at hg (by omega)
    have p2a : v3a (((wds 10 (t ⟨⟩)).map tx).getD 2 ByteArray.empty) = n3 (ln (t ⟨⟩) 2) 0 := (v3_ok gg2).1
    have p2b : v3b (((wds 10 (t ⟨⟩)).map tx).getD 2 ByteArray.empty) = n3 (ln (t ⟨⟩) 2) 1 := (v3_ok gg2).2.1
    have p2c : v3c (((wds 10 (t ⟨⟩)).map tx).getD 2 ByteArray.empty) = n3 (ln (t ⟨⟩) 2) 2 := (v3_ok gg2).2.2
    have gg3 : nrOk 3 (((wds 10 (t ⟨⟩)).map tx).getD 3 ByteArray.empty) = true := show gd (t ⟨⟩) 3 = true from allI_at hg (by omega)
    have p3a : v3a (((wds 10 (t ⟨⟩)).map tx).getD 3 ByteArray.empty) = n3 (ln (t ⟨⟩) 3) 0 := (v3_ok gg3).1
    have p3b : v3b (((wds 10 (t ⟨⟩)).map tx).getD 3 ByteArray.empty) = n3 (ln (t ⟨⟩) 3) 1 := (v3_ok gg3).2.1
    have p3c : v3c (((wds 10 (t ⟨⟩)).map tx).getD 3 ByteArray.empty) = n3 (ln (t ⟨⟩) 3) 2 := (v3_ok gg3).2.2
    have gg4 : nrOk 3 (((wds 10 (t ⟨⟩)).map tx).getD 4 ByteArray.empty) = true := show gd (t ⟨⟩) 4 = true from allI_at hg (by omega)
    have p4a : v3a (((wds 10 (t ⟨⟩)).map tx).getD 4 ByteArray.empty) = n3 (ln (t ⟨⟩) 4) 0 := (v3_ok gg4).1
    have p4b : v3b (((wds 10 (t ⟨⟩)).map tx).getD 4 ByteArray.empty) = n3 (ln (t ⟨⟩) 4) 1 := (v3_ok gg4).2.1
    have p4c : v3c (((wds 10 (t ⟨⟩)).map tx).getD 4 ByteArray.empty) = n3 (ln (t ⟨⟩) 4) 2 := (v3_ok gg4).2.2
    have gg5 : nrOk 3 (((wds 10 (t ⟨⟩)).map tx).getD 5 ByteArray.empty) = true := show gd (t ⟨⟩) 5 = true from allI_at hg (by omega)
    have p5a : v3a (((wds 10 (t ⟨⟩)).map tx).getD 5 ByteArray.empty) = n3 (ln (t ⟨⟩) 5) 0 := (v3_ok gg5).1
    have p5b : v3b (((wds 10 (t ⟨⟩)).map tx).getD 5 ByteArray.empty) = n3 (ln (t ⟨⟩) 5) 1 := (v3_ok gg5).2.1
    have p5c : v3c (((wds 10 (t ⟨⟩)).map tx).getD 5 ByteArray.empty) = n3 (ln (t ⟨⟩) 5) 2 := (v3_ok gg5).2.2
    have gg6 : nrOk 3 (((wds 10 (t ⟨⟩)).map tx).getD 6 ByteArray.empty) = true := show gd (t ⟨⟩) 6 = true from allI_at hg (by omega)
    have p6a : v3a (((wds 10 (t ⟨⟩)).map tx).getD 6 ByteArray.empty) = n3 (ln (t ⟨⟩) 6) 0 := (v3_ok gg6).1
    have p6b : v3b (((wds 10 (t ⟨⟩)).map tx).getD 6 ByteArray.empty) = n3 (ln (t ⟨⟩) 6) 1 := (v3_ok gg6).2.1
    have p6c : v3c (((wds 10 (t ⟨⟩)).map tx).getD 6 ByteArray.empty) = n3 (ln (t ⟨⟩) 6) 2 := (v3_ok gg6).2.2
    have hL : spL (t ⟨⟩) = [n3 (ln (t ⟨⟩) 1) 0, n3 (ln (t ⟨⟩) 1) 1, n3 (ln (t ⟨⟩) 1) 2, n3 (ln (t ⟨⟩) 2) 0, n3 (ln (t ⟨⟩) 2) 1, n3 (ln (t ⟨⟩) 2) 2, n3 (ln (t ⟨⟩) 3) 0, n3 (ln (t ⟨⟩) 3) 1, n3 (ln (t ⟨⟩) 3) 2, n3 (ln (t ⟨⟩) 4) 0, n3 (ln (t ⟨⟩) 4) 1, n3 (ln (t ⟨⟩) 4) 2, n3 (ln (t ⟨⟩) 5) 0, n3 (ln (t ⟨⟩) 5) 1, n3 (ln (t ⟨⟩) 5) 2, n3 (ln (t ⟨⟩) 6) 0, n3 (ln (t ⟨⟩) 6) 1, n3 (ln (t ⟨⟩) 6) 2] := by unfold spL; rw [hn]; rfl
    have hS : [v3a (((wds 10 (t ⟨⟩)).map tx).getD 1 ByteArray.empty), v3b (((wds 10 (t ⟨⟩)).map tx).getD 1 ByteArray.empty), v3c (((wds 10 (t ⟨⟩)).map tx).getD 1 ByteArray.empty), v3a (((wds 10 (t ⟨⟩)).map tx).getD 2 ByteArray.empty), v3b (((wds 10 (t ⟨⟩)).map tx).getD 2 ByteArray.empty), v3c (((wds 10 (t ⟨⟩)).map tx).getD 2 ByteArray.empty), v3a (((wds 10 (t ⟨⟩)).map tx).getD 3 ByteArray.empty), v3b (((wds 10 (t ⟨⟩)).map tx).getD 3 ByteArray.empty), v3c (((wds 10 (t ⟨⟩)).map tx).getD 3 ByteArray.empty), v3a (((wds 10 (t ⟨⟩)).map tx).getD 4 ByteArray.empty), v3b (((wds 10 (t ⟨⟩)).map tx).getD 4 ByteArray.empty), v3c (((wds 10 (t ⟨⟩)).map tx).getD 4 ByteArray.empty), v3a (((wds 10 (t ⟨⟩)).map tx).getD 5 ByteArray.empty), v3b (((wds 10 (t ⟨⟩)).map tx).getD 5 ByteArray.empty), v3c (((wds 10 (t ⟨⟩)).map tx).getD 5 ByteArray.empty), v3a (((wds 10 (t ⟨⟩)).map tx).getD 6 ByteArray.empty), v3b (((wds 10 (t ⟨⟩)).map tx).getD 6 ByteArray.empty), v3c (((wds 10 (t ⟨⟩)).map tx).getD 6 ByteArray.empty)] = spL (t ⟨⟩) := by rw [hL, p1a, p1b, p1c, p2a, p2b, p2c, p3a, p3b, p3c, p4a, p4b, p4c, p5a, p5b, p5c, p6a, p6b, p6c]
    have hnn : 6 = nl (t ⟨⟩) - 1 := by omega
    have hW : webOk (v3a (((wds 10 (t ⟨⟩)).map tx).getD 0 ByteArray.empty)) (v3b (((wds 10 (t ⟨⟩)).map tx).getD 0 ByteArray.empty)) (v3c (((wds 10 (t ⟨⟩)).map tx).getD 0 ByteArray.empty)) [v3a (((wds 10 (t ⟨⟩)).map tx).getD 1 ByteArray.empty), v3b (((wds 10 (t ⟨⟩)).map tx).getD 1 ByteArray.empty), v3c (((wds 10 (t ⟨⟩)).map tx).getD 1 ByteArray.empty), v3a (((wds 10 (t ⟨⟩)).map tx).getD 2 ByteArray.empty), v3b (((wds 10 (t ⟨⟩)).map tx).getD 2 ByteArray.empty), v3c (((wds 10 (t ⟨⟩)).map tx).getD 2 ByteArray.empty), v3a (((wds 10 (t ⟨⟩)).map tx).getD 3 ByteArray.empty), v3b (((wds 10 (t ⟨⟩)).map tx).getD 3 ByteArray.empty), v3c (((wds 10 (t ⟨⟩)).map tx).getD 3 ByteArray.empty), v3a (((wds 10 (t ⟨⟩)).map tx).getD 4 ByteArray.empty), v3b (((wds 10 (t ⟨⟩)).map tx).getD 4 ByteArray.empty), v3c (((wds 10 (t ⟨⟩)).map tx).getD 4 ByteArray.empty), v3a (((wds 10 (t ⟨⟩)).map tx).getD 5 ByteArray.empty), v3b (((wds 10 (t ⟨⟩)).map tx).getD 5 ByteArray.empty), v3c (((wds 10 (t ⟨⟩)).map tx).getD 5 ByteArray.empty), v3a (((wds 10 (t ⟨⟩)).map tx).getD 6 ByteArray.empty), v3b (((wds 10 (t ⟨⟩)).map tx).getD 6 ByteArray.empty), v3c (((wds 10 (t ⟨⟩)).map tx).getD 6 ByteArray.empty)] 6 = wOk (t ⟨⟩) := by unfold wOk; rw [hS, p0a, p0b, p0c]; exact congrArg (webOk _ _ _ _) hnn
    have b0 : ltB 0 (IntKind.wrap .i64 (((((wds 10 (t ⟨⟩)).length : Nat)) : Int) - 1)) = true := by rw [hwr, ltB_iff]; omega
    have x0 : (0 : Int) ≤ 0 ∧ (0 : Int) < ((((wds 10 (t ⟨⟩)).length : Nat)) : Int) := ⟨by omega, by unfold nl at hn; omega⟩
    have y0 : 0 < ((wds 10 (t ⟨⟩)).map tx).length := by rw [List.length_map]; unfold nl at hn; omega
    have z0 : (((wds 10 (t ⟨⟩)).map tx).getD 0 ByteArray.empty).size ≤ 1048576 := ln_size (t ⟨⟩) 0 hsz
    have g0 : (!(nrOk 3 (((wds 10 (t ⟨⟩)).map tx).getD 0 ByteArray.empty))) = false := ntf (show gd (t ⟨⟩) 0 = true from allI_at hg (by omega))
    have b1 : ltB 1 (IntKind.wrap .i64 (((((wds 10 (t ⟨⟩)).length : Nat)) : Int) - 1)) = true := by rw [hwr, ltB_iff]; omega
    have x1 : (0 : Int) ≤ 1 ∧ (1 : Int) < ((((wds 10 (t ⟨⟩)).length : Nat)) : Int) := ⟨by omega, by unfold nl at hn; omega⟩
    have y1 : 1 < ((wds 10 (t ⟨⟩)).map tx).length := by rw [List.length_map]; unfold nl at hn; omega
    have z1 : (((wds 10 (t ⟨⟩)).map tx).getD 1 ByteArray.empty).size ≤ 1048576 := ln_size (t ⟨⟩) 1 hsz
    have g1 : (!(nrOk 3 (((wds 10 (t ⟨⟩)).map tx).getD 1 ByteArray.empty))) = false := ntf (show gd (t ⟨⟩) 1 = true from allI_at hg (by omega))
    have b2 : ltB 2 (IntKind.wrap .i64 (((((wds 10 (t ⟨⟩)).length : Nat)) : Int) - 1)) = true := by rw [hwr, ltB_iff]; omega
    have x2 : (0 : Int) ≤ 2 ∧ (2 : Int) < ((((wds 10 (t ⟨⟩)).length : Nat)) : Int) := ⟨by omega, by unfold nl at hn; omega⟩
    have y2 : 2 < ((wds 10 (t ⟨⟩)).map tx).length := by rw [List.length_map]; unfold nl at hn; omega
    have z2 : (((wds 10 (t ⟨⟩)).map tx).getD 2 ByteArray.empty).size ≤ 1048576 := ln_size (t ⟨⟩) 2 hsz
    have g2 : (!(nrOk 3 (((wds 10 (t ⟨⟩)).map tx).getD 2 ByteArray.empty))) = false := ntf (show gd (t ⟨⟩) 2 = true from allI_at hg (by omega))
    have b3 : ltB 3 (IntKind.wrap .i64 (((((wds 10 (t ⟨⟩)).length : Nat)) : Int) - 1)) = true := by rw [hwr, ltB_iff]; omega
    have x3 : (0 : Int) ≤ 3 ∧ (3 : Int) < ((((wds 10 (t ⟨⟩)).length : Nat)) : Int) := ⟨by omega, by unfold nl at hn; omega⟩
    have y3 : 3 < ((wds 10 (t ⟨⟩)).map tx).length := by rw [List.length_map]; unfold nl at hn; omega
    have z3 : (((wds 10 (t ⟨⟩)).map tx).getD 3 ByteArray.empty).size ≤ 1048576 := ln_size (t ⟨⟩) 3 hsz
    have g3 : (!(nrOk 3 (((wds 10 (t ⟨⟩)).map tx).getD 3 ByteArray.empty))) = false := ntf (show gd (t ⟨⟩) 3 = true from allI_at hg (by omega))
    have b4 : ltB 4 (IntKind.wrap .i64 (((((wds 10 (t ⟨⟩)).length : Nat)) : Int) - 1)) = true := by rw [hwr, ltB_iff]; omega
    have x4 : (0 : Int) ≤ 4 ∧ (4 : Int) < ((((wds 10 (t ⟨⟩)).length : Nat)) : Int) := ⟨by omega, by unfold nl at hn; omega⟩
    have y4 : 4 < ((wds 10 (t ⟨⟩)).map tx).length := by rw [List.length_map]; unfold nl at hn; omega
    have z4 : (((wds 10 (t ⟨⟩)).map tx).getD 4 ByteArray.empty).size ≤ 1048576 := ln_size (t ⟨⟩) 4 hsz
    have g4 : (!(nrOk 3 (((wds 10 (t ⟨⟩)).map tx).getD 4 ByteArray.empty))) = false := ntf (show gd (t ⟨⟩) 4 = true from allI_at hg (by omega))
    have b5 : ltB 5 (IntKind.wrap .i64 (((((wds 10 (t ⟨⟩)).length : Nat)) : Int) - 1)) = true := by rw [hwr, ltB_iff]; omega
    have x5 : (0 : Int) ≤ 5 ∧ (5 : Int) < ((((wds 10 (t ⟨⟩)).length : Nat)) : Int) := ⟨by omega, by unfold nl at hn; omega⟩
    have y5 : 5 < ((wds 10 (t ⟨⟩)).map tx).length := by rw [List.length_map]; unfold nl at hn; omega
    have z5 : (((wds 10 (t ⟨⟩)).map tx).getD 5 ByteArray.empty).size ≤ 1048576 := ln_size (t ⟨⟩) 5 hsz
    have g5 : (!(nrOk 3 (((wds 10 (t ⟨⟩)).map tx).getD 5 ByteArray.empty))) = false := ntf (show gd (t ⟨⟩) 5 = true from allI_at hg (by omega))
    have b6 : ltB 6 (IntKind.wrap .i64 (((((wds 10 (t ⟨⟩)).length : Nat)) : Int) - 1)) = true := by rw [hwr, ltB_iff]; omega
    have x6 : (0 : Int) ≤ 6 ∧ (6 : Int) < ((((wds 10 (t ⟨⟩)).length : Nat)) : Int) := ⟨by omega, by unfold nl at hn; omega⟩
    have y6 : 6 < ((wds 10 (t ⟨⟩)).map tx).length := by rw [List.length_map]; unfold nl at hn; omega
    have z6 : (((wds 10 (t ⟨⟩)).map tx).getD 6 ByteArray.empty).size ≤ 1048576 := ln_size (t ⟨⟩) 6 hsz
    have g6 : (!(nrOk 3 (((wds 10 (t ⟨⟩)).map tx).getD 6 ByteArray.empty))) = false := ntf (show gd (t ⟨⟩) 6 = true from allI_at hg (by omega))
    have hw2 := congrArg not (hW.trans hv)
    refine ⟨_, HLe.refl _, ?_⟩
    cbv
    repeat' first | (refine Ob.mk ?_ ?_; (focus (first | exact hsp | exact hx0 | exact hx1 | exact x0 | exact y0 | exact z0 | exact x1 | exact y1 | exact z1 | exact x2 | exact y2 | exact z2 | exact x3 | exact y3 | exact z3 | exact x4 | exact y4 | exact z4 | exact x5 | exact y5 | exact z5 | exact x6 | exact y6 | exact z6 | exact p0a | exact p0b | exact p0c | exact hS | exact hnn | exact ⟨rfl, rfl, by decide⟩ | exact rfl)); cbv) | (refine Br.f t1 ?_; cbv) | (refine Br.f t2 ?_; cbv) | (refine Br.f t3 ?_; cbv) | (refine Br.t b0 ?_; cbv) | (refine Br.f g0 ?_; cbv) | (refine Br.t b1 ?_; cbv) | (refine Br.f g1 ?_; cbv) | (refine Br.t b2 ?_; cbv) | (refine Br.f g2 ?_; cbv) | (refine Br.t b3 ?_; cbv) | (refine Br.f g3 ?_; cbv) | (refine Br.t b4 ?_; cbv) | (refine Br.f g4 ?_; cbv) | (refine Br.t b5 ?_; cbv) | (refine Br.f g5 ?_; cbv) | (refine Br.t b6 ?_; cbv) | (refine Br.f g6 ?_; cbv) | (refine Br.f be ?_; cbv) | (refine Br.t hw2 ?_; cbv) | (refine Loop.mk 70 ?_; cbv) | (refine Gen.same ?_; cbv)
  · cases hs
end Go.Proofs.YteifneielgnniaaDoor.Sh
end
section
namespace Go.Proofs.YteifneielgnniaaDoor.Sh
open Go Go.Proofs
attribute [local irreducible] wds tx rn rnC rnOk nrOk v3a v3b v3c wAt n3 webOk spL tl nl wOk
set_option maxRecDepth 100000 in
set_option maxHeartbeats 8000000 in
theorem ok8T8 : Ok Tryd.prog 8 (sRT fun t => okA t = true ∧ nl t = 8 ∧ gdTo t 8 = true ∧ wOk t = true) := ok_of_wpaH (E := E8) mixed tts E8ok fn8 fun args H v H' o hs ho => by
  split at hs
  · rename_i t
    cases hs
    have hsz : (t ⟨⟩).size ≤ 1048576 := ho.two.2
    have hsp : (10 : Int) = (((10 : UInt8).toNat : Nat) : Int) ∧ (t ⟨⟩).size ≤ 1048576 := ⟨rfl, hsz⟩
    have hpos := wds_pos 10 (t ⟨⟩)
    have hle := wds_le 10 (t ⟨⟩)
    have hwr : (IntKind.wrap .i64 (((((wds 10 (t ⟨⟩)).length : Nat)) : Int) - 1)) = ((nl (t ⟨⟩) : Nat) : Int) := by rw [wrap64 (by omega) (by omega)]; unfold nl; omega
    have hp : 0 + (IntKind.wrap .i64 (((((wds 10 (t ⟨⟩)).length : Nat)) : Int) - 1)).toNat * 1 = nl (t ⟨⟩) := by rw [hwr, Int.toNat_natCast]; omega
    have htl : (!((((wds 10 (t ⟨⟩)).map tx).getD (0 + (IntKind.wrap .i64 (((((wds 10 (t ⟨⟩)).length : Nat)) : Int) - 1)).toNat * 1) ByteArray.empty).toList == ({ data := #[] } : ByteArray).toList)) = !(tl (t ⟨⟩)) := by rw [hp]; exact congrArg _ (tl_form _)
    have hx0 : 0 ≤ (IntKind.wrap .i64 (((((wds 10 (t ⟨⟩)).length : Nat)) : Int) - 1)) ∧ (IntKind.wrap .i64 (((((wds 10 (t ⟨⟩)).length : Nat)) : Int) - 1)) < ((((wds 10 (t ⟨⟩)).length : Nat)) : Int) := by rw [hwr]; unfold nl; omega
    have hx1 : 0 + (IntKind.wrap .i64 (((((wds 10 (t ⟨⟩)).length : Nat)) : Int) - 1)).toNat * 1 < ((wds 10 (t ⟨⟩)).map tx).length := by rw [hp, List.length_map]; unfold nl; omega
    have hA : okA (t ⟨⟩) = true := ho.two.1.1
    have hn : nl (t ⟨⟩) = 8 := ho.two.1.2.1
    have hg : gdTo (t ⟨⟩) 8 = true := ho.two.1.2.2.1
    have hv : wOk (t ⟨⟩) = true := ho.two.1.2.2.2
    have hA2 := okA_t hA
    have t1 : (!((((wds 10 (t ⟨⟩)).map tx).getD (0 + (IntKind.wrap .i64 (((((wds 10 (t ⟨⟩)).length : Nat)) : Int) - 1)).toNat * 1) ByteArray.empty).toList == ({ data := #[] } : ByteArray).toList)) = false := by rw [htl, hA2.1]; rfl
    have t2 : ltB (IntKind.wrap .i64 (((((wds 10 (t ⟨⟩)).length : Nat)) : Int) - 1)) 2 = false := by rw [hwr, ltB_no]; omega
    have t3 : ltB 9 (IntKind.wrap .i64 (((((wds 10 (t ⟨⟩)).length : Nat)) : Int) - 1)) = false := by rw [hwr, ltB_no]; omega
    have be : ltB 8 (IntKind.wrap .i64 (((((wds 10 (t ⟨⟩)).length : Nat)) : Int) - 1)) = false := by rw [hwr, ltB_no]; omega
    have gg0 : nrOk 3 (((wds 10 (t ⟨⟩)).map tx).getD 0 ByteArray.empty) = true := show gd (t ⟨⟩) 0 = true from allI_at hg (by omega)
    have p0a : v3a (((wds 10 (t ⟨⟩)).map tx).getD 0 ByteArray.empty) = n3 (ln (t ⟨⟩) 0) 0 := (v3_ok gg0).1
    have p0b : v3b (((wds 10 (t ⟨⟩)).map tx).getD 0 ByteArray.empty) = n3 (ln (t ⟨⟩) 0) 1 := (v3_ok gg0).2.1
    have p0c : v3c (((wds 10 (t ⟨⟩)).map tx).getD 0 ByteArray.empty) = n3 (ln (t ⟨⟩) 0) 2 := (v3_ok gg0).2.2
    have gg1 : nrOk 3 (((wds 10 (t ⟨⟩)).map tx).getD 1 ByteArray.empty) = true := show gd (t ⟨⟩) 1 = true from allI_at hg (by omega)
    have p1a : v3a (((wds 10 (t ⟨⟩)).map tx).getD 1 ByteArray.empty) = n3 (ln (t ⟨⟩) 1) 0 := (v3_ok gg1).1
    have p1b : v3b (((wds 10 (t ⟨⟩)).map tx).getD 1 ByteArray.empty) = n3 (ln (t ⟨⟩) 1) 1 := (v3_ok gg1).2.1
    have p1c : v3c (((wds 10 (t ⟨⟩)).map tx).getD 1 ByteArray.empty) = n3 (ln (t ⟨⟩) 1) 2 := (v3_ok gg1).2.2
    have gg2 : nrOk 3 (((wds 10 (t ⟨⟩)).map tx).getD 2 ByteArray.empty) = true := show gd (t ⟨⟩) 2 = true from allI_at hg (by omega)
    have p2a : v3a (((wds 10 (t ⟨⟩)).map tx).getD 2 ByteArray.empty) = n3 (ln (t ⟨⟩) 2) 0 := (v3_ok gg2).1
    have p2b : v3b (((wds 10 (t ⟨⟩)).map tx).getD 2 ByteArray.empty) = n3 (ln (t ⟨⟩) 2) 1 := (v3_ok gg2).2.1
    have p2c : v3c (((wds 10 (t ⟨⟩)).map tx).getD 2 ByteArray.empty) = n3 (ln (t ⟨⟩) 2) 2 := (v3_ok gg2).2.2
    have gg3 : nrOk 3 (((wds 10 (t ⟨⟩)).map tx).getD 3 ByteArray.empty) = true := show gd (t ⟨⟩) 3 = true from allI_at hg (by omega)
    have p3a : v3a (((wds 10 (t ⟨⟩)).map tx).getD 3 ByteArray.empty) = n3 (ln (t ⟨⟩) 3) 0 := (v3_ok gg3).1
    have p3b : v3b (((wds 10 (t ⟨⟩)).map tx).getD 3 ByteArray.empty) = n3 (ln (t ⟨⟩) 3) 1 := (v3_ok gg3).2.1
    have p3c : v3c (((wds 10 (t ⟨⟩)).map tx).getD 3 ByteArray.empty) = n3 (ln (t ⟨⟩) 3) 2 := (v3_ok gg3).2.2
    have gg4 : nrOk 3 (((wds 10 (t ⟨⟩)).map tx).getD 4 ByteArray.empty) = true := show gd (t ⟨⟩) 4 = true from allI_at hg (by omega)
    have p4a : v3a (((wds 10 (t ⟨⟩)).map tx).getD 4 ByteArray.empty) = n3 (ln (t ⟨⟩) 4) 0 := (v3_ok gg4).1
    have p4b : v3b (((wds 10 (t ⟨⟩)).map tx).getD 4 ByteArray.empty) = n3 (ln (t ⟨⟩) 4) 1 := (v3_ok gg4).2.1
    have p4c : v3c (((wds 10 (t ⟨⟩)).map tx).getD 4 ByteArray.empty) = n3 (ln (t ⟨⟩) 4) 2 := (v3_ok gg4).2.2
    have gg5 : nrOk 3 (((wds 10 (t ⟨⟩)).map tx).getD 5 ByteArray.empty) = true := show gd (t ⟨⟩) 5 = true from allI_at hg (by omega)
    have p5a : v3a (((wds 10 (t ⟨⟩)).map tx).getD 5 ByteArray.empty) = n3 (ln (t ⟨⟩) 5) 0 := (v3_ok gg5).1
    have p5b : v3b (((wds 10 (t ⟨⟩)).map tx).getD 5 ByteArray.empty) = n3 (ln (t ⟨⟩) 5) 1 := (v3_ok gg5).2.1
    have p5c : v3c (((wds 10 (t ⟨⟩)).map tx).getD 5 ByteArray.empty) = n3 (ln (t ⟨⟩) 5) 2 := (v3_ok gg5).2.2
    have gg6 : nrOk 3 (((wds 10 (t ⟨⟩)).map tx).getD 6 ByteArray.empty) = true := show gd (t ⟨⟩) 6 = true from allI_at hg (by omega)
    have p6a : v3a (((wds 10 (t ⟨⟩)).map tx).getD 6 ByteArray.empty) = n3 (ln (t ⟨⟩) 6) 0 := (v3_ok gg6).1
    have p6b : v3b (((wds 10 (t ⟨⟩)).map tx).getD 6 ByteArray.empty) = n3 (ln (t ⟨⟩) 6) 1 := (v3_ok gg6).2.1
    have p6c : v3c (((wds 10 (t ⟨⟩)).map tx).getD 6 ByteArray.empty) = n3 (ln (t ⟨⟩) 6) 2 := (v3_ok gg6).2.2
    have gg7 : nrOk 3 (((wds 10 (t ⟨⟩)).map tx).getD 7 ByteArray.empty) = true := show gd (t ⟨⟩) 7 = true from allI_at hg (by omega)
    have p7a : v3a (((wds 10 (t ⟨⟩)).map tx).getD 7 ByteArray.empty) = n3 (ln (t ⟨⟩) 7) 0 := (v3_ok gg7).1
    have p7b : v3b (((wds 10 (t ⟨⟩)).map tx).getD 7 ByteArray.empty) = n3 (ln (t ⟨⟩) 7) 1 := (v3_ok gg7).2.1
    have p7c : v3c (((wds 10 (t ⟨⟩)).map tx).getD 7 ByteArray.empty) = n3 (ln (t ⟨⟩) 7) 2 := (v3_ok gg7).2.2
    have hL : spL (t ⟨⟩) = [n3 (ln (t ⟨⟩) 1) 0, n3 (ln (t ⟨⟩) 1) 1, n3 (ln (t ⟨⟩) 1) 2, n3 (ln (t ⟨⟩) 2) 0, n3 (ln (t ⟨⟩) 2) 1, n3 (ln (t ⟨⟩) 2) 2, n3 (ln (t ⟨⟩) 3) 0, n3 (ln (t ⟨⟩) 3) 1, n3 (ln (t ⟨⟩) 3) 2, n3 (ln (t ⟨⟩) 4) 0, n3 (ln (t ⟨⟩) 4) 1, n3 (ln (t ⟨⟩) 4) 2, n3 (ln (t ⟨⟩) 5) 0, n3 (ln (t ⟨⟩) 5) 1, n3 (ln (t ⟨⟩) 5) 2, n3 (ln (t ⟨⟩) 6) 0, n3 (ln (t ⟨⟩) 6) 1, n3 (ln (t ⟨⟩) 6) 2, n3 (ln (t ⟨⟩) 7) 0, n3 (ln (t ⟨⟩) 7) 1, n3 (ln (t ⟨⟩) 7) 2] := by unfold spL; rw [hn]; rfl
    have hS : [v3a (((wds 10 (t ⟨⟩)).map tx).getD 1 ByteArray.empty), v3b (((wds 10 (t ⟨⟩)).map tx).getD 1 ByteArray.empty), v3c (((wds 10 (t ⟨⟩)).map tx).getD 1 ByteArray.empty), v3a (((wds 10 (t ⟨⟩)).map tx).getD 2 ByteArray.empty), v3b (((wds 10 (t ⟨⟩)).map tx).getD 2 ByteArray.empty), v3c (((wds 10 (t ⟨⟩)).map tx).getD 2 ByteArray.empty), v3a (((wds 10 (t ⟨⟩)).map tx).getD 3 ByteArray.empty), v3b (((wds 10 (t ⟨⟩)).map tx).getD 3 ByteArray.empty), v3c (((wds 10 (t ⟨⟩)).map tx).getD 3 ByteArray.empty), v3a (((wds 10 (t ⟨⟩)).map tx).getD 4 ByteArray.empty), v3b (((wds 10 (t ⟨⟩)).map tx).getD 4 ByteArray.empty), v3c (((wds 10 (t ⟨⟩)).map tx).getD 4 ByteArray.empty), v3a (((wds 10 (t ⟨⟩)).map tx).getD 5 ByteArray.empty), v3b (((wds 10 (t ⟨⟩)).map tx).getD 5 ByteArray.empty), v3c (((wds 10 (t ⟨⟩)).map tx).getD 5 ByteArray.empty), v3a (((wds 10 (t ⟨⟩)).map tx).getD 6 ByteArray.empty), v3b (((wds 10 (t ⟨⟩)).map tx).getD 6 ByteArray.empty), v3c (((wds 10 (t ⟨⟩)).map tx).getD 6 ByteArray.empty), v3a (((wds 10 (t ⟨⟩)).map tx).getD 7 ByteArray.empty), v3b (((wds 10 (t ⟨⟩)).map tx).getD 7 ByteArray.empty), v3c (((wds 10 (t ⟨⟩)).map tx).getD 7 ByteArray.empty)] = spL (t ⟨⟩) := by rw [hL, p1a, p1b, p1c, p2a, p2b, p2c, p3a, p3b, p3c, p4a, p4b, p4c, p5a, p5b, p5c, p6a, p6b, p6c, p7a, p7b, p7c]
    have hnn : 7 = nl (t ⟨⟩) - 1 := by omega
    have hW : webOk (v3a (((wds 10 (t ⟨⟩)).map tx).getD 0 ByteArray.empty)) (v3b (((wds 10 (t ⟨⟩)).map tx).getD 0 ByteArray.empty)) (v3c (((wds 10 (t ⟨⟩)).map tx).getD 0 ByteArray.empty)) [v3a (((wds 10 (t ⟨⟩)).map tx).getD 1 ByteArray.empty), v3b (((wds 10 (t ⟨⟩)).map tx).getD 1 ByteArray.empty), v3c (((wds 10 (t ⟨⟩)).map tx).getD 1 ByteArray.empty), v3a (((wds 10 (t ⟨⟩)).map tx).getD 2 ByteArray.empty), v3b (((wds 10 (t ⟨⟩)).map tx).getD 2 ByteArray.empty), v3c (((wds 10 (t ⟨⟩)).map tx).getD 2 ByteArray.empty), v3a (((wds 10 (t ⟨⟩)).map tx).getD 3 ByteArray.empty), v3b (((wds 10 (t ⟨⟩)).map tx).getD 3 ByteArray.empty), v3c (((wds 10 (t ⟨⟩)).map tx).getD 3 ByteArray.empty), v3a (((wds 10 (t ⟨⟩)).map tx).getD 4 ByteArray.empty), v3b (((wds 10 (t ⟨⟩)).map tx).getD 4 ByteArray.empty), v3c (((wds 10 (t ⟨⟩)).map tx).getD 4 ByteArray.empty), v3a (((wds 10 (t ⟨⟩)).map tx).getD 5 ByteArray.empty), v3b (((wds 10 (t ⟨⟩)).map tx).getD 5 ByteArray.empty), v3c (((wds 10 (t ⟨⟩)).map tx).getD 5 ByteArray.empty), v3a (((wds 10 (t ⟨⟩)).map tx).getD 6 ByteArray.empty), v3b (((wds 10 (t ⟨⟩)).map tx).getD 6 ByteArray.empty), v3c (((wds 10 (t ⟨⟩)).map tx).getD 6 ByteArray.empty), v3a (((wds 10 (t ⟨⟩)).map tx).getD 7 ByteArray.empty), v3b (((wds 10 (t ⟨⟩)).map tx).getD 7 ByteArray.empty), v3c (((wds 10 (t ⟨⟩)).map tx).getD 7 ByteArray.empty)] 7 = wOk (t ⟨⟩) := by unfold wOk; rw [hS, p0a, p0b, p0c]; exact congrArg (webOk _ _ _ _) hnn
    have b0 : ltB 0 (IntKind.wrap .i64 (((((wds 10 (t ⟨⟩)).length : Nat)) : Int) - 1)) = true := by rw [hwr, ltB_iff]; omega
    have x0 : (0 : Int) ≤ 0 ∧ (0 : Int) < ((((wds 10 (t ⟨⟩)).length : Nat)) : Int) := ⟨by omega, by unfold nl at hn; omega⟩
    have y0 : 0 < ((wds 10 (t ⟨⟩)).map tx).length := by rw [List.length_map]; unfold nl at hn; omega
    have z0 : (((wds 10 (t ⟨⟩)).map tx).getD 0 ByteArray.empty).size ≤ 1048576 := ln_size (t ⟨⟩) 0 hsz
    have g0 : (!(nrOk 3 (((wds 10 (t ⟨⟩)).map tx).getD 0 ByteArray.empty))) = false := ntf (show gd (t ⟨⟩) 0 = true from allI_at hg (by omega))
    have b1 : ltB 1 (IntKind.wrap .i64 (((((wds 10 (t ⟨⟩)).length : Nat)) : Int) - 1)) = true := by rw [hwr, ltB_iff]; omega
    have x1 : (0 : Int) ≤ 1 ∧ (1 : Int) < ((((wds 10 (t ⟨⟩)).length : Nat)) : Int) := ⟨by omega, by unfold nl at hn; omega⟩
    have y1 : 1 < ((wds 10 (t ⟨⟩)).map tx).length := by rw [List.length_map]; unfold nl at hn; omega
    have z1 : (((wds 10 (t ⟨⟩)).map tx).getD 1 ByteArray.empty).size ≤ 1048576 := ln_size (t ⟨⟩) 1 hsz
    have g1 : (!(nrOk 3 (((wds 10 (t ⟨⟩)).map tx).getD 1 ByteArray.empty))) = false := ntf (show gd (t ⟨⟩) 1 = true from allI_at hg (by omega))
    have b2 : ltB 2 (IntKind.wrap .i64 (((((wds 10 (t ⟨⟩)).length : Nat)) : Int) - 1)) = true := by rw [hwr, ltB_iff]; omega
    have x2 : (0 : Int) ≤ 2 ∧ (2 : Int) < ((((wds 10 (t ⟨⟩)).length : Nat)) : Int) := ⟨by omega, by unfold nl at hn; omega⟩
    have y2 : 2 < ((wds 10 (t ⟨⟩)).map tx).length := by rw [List.length_map]; unfold nl at hn; omega
    have z2 : (((wds 10 (t ⟨⟩)).map tx).getD 2 ByteArray.empty).size ≤ 1048576 := ln_size (t ⟨⟩) 2 hsz
    have g2 : (!(nrOk 3 (((wds 10 (t ⟨⟩)).map tx).getD 2 ByteArray.empty))) = false := ntf (show gd (t ⟨⟩) 2 = true from allI_at hg (by omega))
    have b3 : ltB 3 (IntKind.wrap .i64 (((((wds 10 (t ⟨⟩)).length : Nat)) : Int) - 1)) = true := by rw [hwr, ltB_iff]; omega
    have x3 : (0 : Int) ≤ 3 ∧ (3 : Int) < ((((wds 10 (t ⟨⟩)).length : Nat)) : Int) := ⟨by omega, by unfold nl at hn; omega⟩
    have y3 : 3 < ((wds 10 (t ⟨⟩)).map tx).length := by rw [List.length_map]; unfold nl at hn; omega
    have z3 : (((wds 10 (t ⟨⟩)).map tx).getD 3 ByteArray.empty).size ≤ 1048576 := ln_size (t ⟨⟩) 3 hsz
    have g3 : (!(nrOk 3 (((wds 10 (t ⟨⟩)).map tx).getD 3 ByteArray.empty))) = false := ntf (show gd (t ⟨⟩) 3 = true from allI_at hg (by omega))
    have b4 : ltB 4 (IntKind.wrap .i64 (((((wds 10 (t ⟨⟩)).length : Nat)) : Int) - 1)) = true := by rw [hwr, ltB_iff]; omega
    have x4 : (0 : Int) ≤ 4 ∧ (4 : Int) < ((((wds 10 (t ⟨⟩)).length : Nat)) : Int) := ⟨by omega, by unfold nl at hn; omega⟩
    have y4 : 4 < ((wds 10 (t ⟨⟩)).map tx).length := by rw [List.length_map]; unfold nl at hn; omega
    have z4 : (((wds 10 (t ⟨⟩)).map tx).getD 4 ByteArray.empty).size ≤ 1048576 := ln_size (t ⟨⟩) 4 hsz
    have g4 : (!(nrOk 3 (((wds 10 (t ⟨⟩)).map tx).getD 4 ByteArray.empty))) = false := ntf (show gd (t ⟨⟩) 4 = true from allI_at hg (by omega))
    have b5 : ltB 5 (IntKind.wrap .i64 (((((wds 10 (t ⟨⟩)).length : Nat)) : Int) - 1)) = true := by rw [hwr, ltB_iff]; omega
    have x5 : (0 : Int) ≤ 5 ∧ (5 : Int) < ((((wds 10 (t ⟨⟩)).length : Nat)) : Int) := ⟨by omega, by unfold nl at hn; omega⟩
    have y5 : 5 < ((wds 10 (t ⟨⟩)).map tx).length := by rw [List.length_map]; unfold nl at hn; omega
    have z5 : (((wds 10 (t ⟨⟩)).map tx).getD 5 ByteArray.empty).size ≤ 1048576 := ln_size (t ⟨⟩) 5 hsz
    have g5 : (!(nrOk 3 (((wds 10 (t ⟨⟩)).map tx).getD 5 ByteArray.empty))) = false := ntf (show gd (t ⟨⟩) 5 = true from allI_at hg (by omega))
    have b6 : ltB 6 (IntKind.wrap .i64 (((((wds 10 (t ⟨⟩)).length : Nat)) : Int) - 1)) = true := by rw [hwr, ltB_iff]; omega
    have x6 : (0 : Int) ≤ 6 ∧ (6 : Int) < ((((wds 10 (t ⟨⟩)).length : Nat)) : Int) := ⟨by omega, by unfold nl at hn; omega⟩
    have y6 : 6 < ((wds 10 (t ⟨⟩)).map tx).length := by rw [List.length_map]; unfold nl at hn; omega
    have z6 : (((wds 10 (t ⟨⟩)).map tx).getD 6 ByteArray.empty).size ≤ 1048576 := ln_size (t ⟨⟩) 6 hsz
    have g6 : (!(nrOk 3 (((wds 10 (t ⟨⟩)).map tx).getD 6 ByteArray.empty))) = false := ntf (show gd (t ⟨⟩) 6 = true from allI_at hg (by omega))
    have b7 : ltB 7 (IntKind.wrap .i64 (((((wds 10 (t ⟨⟩)).length : Nat)) : Int) - 1)) = true := by rw [hwr, ltB_iff]; omega
    have x7 : (0 : Int) ≤ 7 ∧ (7 : Int) < ((((wds 10 (t ⟨⟩)).length : Nat)) : Int) := ⟨by omega, by unfold nl at hn; omega⟩
    have y7 : 7 < ((wds 10 (t ⟨⟩)).map tx).length := by rw [List.length_map]; unfold nl at hn; omega
    have z7 : (((wds 10 (t ⟨⟩)).map tx).getD 7 ByteArray.empty).size ≤ 1048576 := ln_size (t ⟨⟩) 7 hsz
    have g7 : (!(nrOk 3 (((wds 10 (t ⟨⟩)).map tx).getD 7 ByteArray.empty))) = false := ntf (show gd (t ⟨⟩) 7 = true from allI_at hg (by omega))
    have hw2 := congrArg not (hW.trans hv)
    refine ⟨_, HLe.refl _, ?_⟩
    cbv
    repeat' first | (refine Ob.mk ?_ ?_; (focus (first | exact hsp | exact hx0 | exact hx1 | exact x0 | exact y0 | exact z0 | exact x1 | exact y1 | exact z1 | exact x2 | exact y2 | exact z2 | exact x3 | exact y3 | exact z3 | exact x4 | exact y4 | exact z4 | exact x5 | exact y5 | exact z5 | exact x6 | exact y6 | exact z6 | exact x7 | exact y7 | exact z7 | exact p0a | exact p0b | exact p0c | exact hS | exact hnn | exact ⟨rfl, rfl, by decide⟩ | exact rfl)); cbv) | (refine Br.f t1 ?_; cbv) | (refine Br.f t2 ?_; cbv) | (refine Br.f t3 ?_; cbv) | (refine Br.t b0 ?_; cbv) | (refine Br.f g0 ?_; cbv) | (refine Br.t b1 ?_; cbv) | (refine Br.f g1 ?_; cbv) | (refine Br.t b2 ?_; cbv) | (refine Br.f g2 ?_; cbv) | (refine Br.t b3 ?_; cbv) | (refine Br.f g3 ?_; cbv) | (refine Br.t b4 ?_; cbv) | (refine Br.f g4 ?_; cbv) | (refine Br.t b5 ?_; cbv) | (refine Br.f g5 ?_; cbv) | (refine Br.t b6 ?_; cbv) | (refine Br.f g6 ?_; cbv) | (refine Br.t b7 ?_; cbv) | (refine Br.f g7 ?_; cbv) | (refine Br.f be ?_; cbv) | (refine Br.f hw2 ?_; cbv) | (refine Loop.mk 70 ?_; cbv) | (refine Gen.same ?_; cbv)
  · cases hs
set_option maxRecDepth 100000 in
set_option maxHeartbeats 8000000 in
theorem ok8F8 : Ok Tryd.prog 8 (sRF fun t => okA t = true ∧ nl t = 8 ∧ gdTo t 8 = true ∧ wOk t = false) := ok_of_wpaH (E := E8) mixed tts E8ok fn8 fun args H v H' o hs ho => by
  split at hs
  · rename_i t
    cases hs
    have hsz : (t ⟨⟩).size ≤ 1048576 := ho.two.2
    have hsp : (10 : Int) = (((10 : UInt8).toNat : Nat) : Int) ∧ (t ⟨⟩).size ≤ 1048576 := ⟨rfl, hsz⟩
    have hpos := wds_pos 10 (t ⟨⟩)
    have hle := wds_le 10 (t ⟨⟩)
    have hwr : (IntKind.wrap .i64 (((((wds 10 (t ⟨⟩)).length : Nat)) : Int) - 1)) = ((nl (t ⟨⟩) : Nat) : Int) := by rw [wrap64 (by omega) (by omega)]; unfold nl; omega
    have hp : 0 + (IntKind.wrap .i64 (((((wds 10 (t ⟨⟩)).length : Nat)) : Int) - 1)).toNat * 1 = nl (t ⟨⟩) := by rw [hwr, Int.toNat_natCast]; omega
    have htl : (!((((wds 10 (t ⟨⟩)).map tx).getD (0 + (IntKind.wrap .i64 (((((wds 10 (t ⟨⟩)).length : Nat)) : Int) - 1)).toNat * 1) ByteArray.empty).toList == ({ data := #[] } : ByteArray).toList)) = !(tl (t ⟨⟩)) := by rw [hp]; exact congrArg _ (tl_form _)
    have hx0 : 0 ≤ (IntKind.wrap .i64 (((((wds 10 (t ⟨⟩)).length : Nat)) : Int) - 1)) ∧ (IntKind.wrap .i64 (((((wds 10 (t ⟨⟩)).length : Nat)) : Int) - 1)) < ((((wds 10 (t ⟨⟩)).length : Nat)) : Int) := by rw [hwr]; unfold nl; omega
    have hx1 : 0 + (IntKind.wrap .i64 (((((wds 10 (t ⟨⟩)).length : Nat)) : Int) - 1)).toNat * 1 < ((wds 10 (t ⟨⟩)).map tx).length := by rw [hp, List.length_map]; unfold nl; omega
    have hA : okA (t ⟨⟩) = true := ho.two.1.1
    have hn : nl (t ⟨⟩) = 8 := ho.two.1.2.1
    have hg : gdTo (t ⟨⟩) 8 = true := ho.two.1.2.2.1
    have hv : wOk (t ⟨⟩) = false := ho.two.1.2.2.2
    have hA2 := okA_t hA
    have t1 : (!((((wds 10 (t ⟨⟩)).map tx).getD (0 + (IntKind.wrap .i64 (((((wds 10 (t ⟨⟩)).length : Nat)) : Int) - 1)).toNat * 1) ByteArray.empty).toList == ({ data := #[] } : ByteArray).toList)) = false := by rw [htl, hA2.1]; rfl
    have t2 : ltB (IntKind.wrap .i64 (((((wds 10 (t ⟨⟩)).length : Nat)) : Int) - 1)) 2 = false := by rw [hwr, ltB_no]; omega
    have t3 : ltB 9 (IntKind.wrap .i64 (((((wds 10 (t ⟨⟩)).length : Nat)) : Int) - 1)) = false := by rw [hwr, ltB_no]; omega
    have be : ltB 8 (IntKind.wrap .i64 (((((wds 10 (t ⟨⟩)).length : Nat)) : Int) - 1)) = false := by rw [hwr, ltB_no]; omega
    have gg0 : nrOk 3 (((wds 10 (t ⟨⟩)).map tx).getD 0 ByteArray.empty) = true := show gd (t ⟨⟩) 0 = true from allI_at hg (by omega)
    have p0a : v3a (((wds 10 (t ⟨⟩)).map tx).getD 0 ByteArray.empty) = n3 (ln (t ⟨⟩) 0) 0 := (v3_ok gg0).1
    have p0b : v3b (((wds 10 (t ⟨⟩)).map tx).getD 0 ByteArray.empty) = n3 (ln (t ⟨⟩) 0) 1 := (v3_ok gg0).2.1
    have p0c : v3c (((wds 10 (t ⟨⟩)).map tx).getD 0 ByteArray.empty) = n3 (ln (t ⟨⟩) 0) 2 := (v3_ok gg0).2.2
    have gg1 : nrOk 3 (((wds 10 (t ⟨⟩)).map tx).getD 1 ByteArray.empty) = true := show gd (t ⟨⟩) 1 = true from allI_at hg (by omega)
    have p1a : v3a (((wds 10 (t ⟨⟩)).map tx).getD 1 ByteArray.empty) = n3 (ln (t ⟨⟩) 1) 0 := (v3_ok gg1).1
    have p1b : v3b (((wds 10 (t ⟨⟩)).map tx).getD 1 ByteArray.empty) = n3 (ln (t ⟨⟩) 1) 1 := (v3_ok gg1).2.1
    have p1c : v3c (((wds 10 (t ⟨⟩)).map tx).getD 1 ByteArray.empty) = n3 (ln (t ⟨⟩) 1) 2 := (v3_ok gg1).2.2
    have gg2 : nrOk 3 (((wds 10 (t ⟨⟩)).map tx).getD 2 ByteArray.empty) = true := show gd (t ⟨⟩) 2 = true from allI_at hg (by omega)
    have p2a : v3a (((wds 10 (t ⟨⟩)).map tx).getD 2 ByteArray.empty) = n3 (ln (t ⟨⟩) 2) 0 := (v3_ok gg2).1
    have p2b : v3b (((wds 10 (t ⟨⟩)).map tx).getD 2 ByteArray.empty) = n3 (ln (t ⟨⟩) 2) 1 := (v3_ok gg2).2.1
    have p2c : v3c (((wds 10 (t ⟨⟩)).map tx).getD 2 ByteArray.empty) = n3 (ln (t ⟨⟩) 2) 2 := (v3_ok gg2).2.2
    have gg3 : nrOk 3 (((wds 10 (t ⟨⟩)).map tx).getD 3 ByteArray.empty) = true := show gd (t ⟨⟩) 3 = true from allI_at hg (by omega)
    have p3a : v3a (((wds 10 (t ⟨⟩)).map tx).getD 3 ByteArray.empty) = n3 (ln (t ⟨⟩) 3) 0 := (v3_ok gg3).1
    have p3b : v3b (((wds 10 (t ⟨⟩)).map tx).getD 3 ByteArray.empty) = n3 (ln (t ⟨⟩) 3) 1 := (v3_ok gg3).2.1
    have p3c : v3c (((wds 10 (t ⟨⟩)).map tx).getD 3 ByteArray.empty) = n3 (ln (t ⟨⟩) 3) 2 := (v3_ok gg3).2.2
    have gg4 : nrOk 3 (((wds 10 (t ⟨⟩)).map tx).getD 4 ByteArray.empty) = true := show gd (t ⟨⟩) 4 = true from allI_at hg (by omega)
    have p4a : v3a (((wds 10 (t ⟨⟩)).map tx).getD 4 ByteArray.empty) = n3 (ln (t ⟨⟩) 4) 0 := (v3_ok gg4).1
    have p4b : v3b (((wds 10 (t ⟨⟩)).map tx).getD 4 ByteArray.empty) = n3 (ln (t ⟨⟩) 4) 1 := (v3_ok gg4).2.1
    have p4c : v3c (((wds 10 (t ⟨⟩)).map tx).getD 4 ByteArray.empty) = n3 (ln (t ⟨⟩) 4) 2 := (v3_ok gg4).2.2
    have gg5 : nrOk 3 (((wds 10 (t ⟨⟩)).map tx).getD 5 ByteArray.empty) = true := show gd (t ⟨⟩) 5 = true from allI_at hg (by omega)
    have p5a : v3a (((wds 10 (t ⟨⟩)).map tx).getD 5 ByteArray.empty) = n3 (ln (t ⟨⟩) 5) 0 := (v3_ok gg5).1
    have p5b : v3b (((wds 10 (t ⟨⟩)).map tx).getD 5 ByteArray.empty) = n3 (ln (t ⟨⟩) 5) 1 := (v3_ok gg5).2.1
    have p5c : v3c (((wds 10 (t ⟨⟩)).map tx).getD 5 ByteArray.empty) = n3 (ln (t ⟨⟩) 5) 2 := (v3_ok gg5).2.2
    have gg6 : nrOk 3 (((wds 10 (t ⟨⟩)).map tx).getD 6 ByteArray.empty) = true := show gd (t ⟨⟩) 6 = true from allI_at hg (by omega)
    have p6a : v3a (((wds 10 (t ⟨⟩)).map tx).getD 6 ByteArray.empty) = n3 (ln (t ⟨⟩) 6) 0 := (v3_ok gg6).1
    have p6b : v3b (((wds 10 (t ⟨⟩)).map tx).getD 6 ByteArray.empty) = n3 (ln (t ⟨⟩) 6) 1 := (v3_ok gg6).2.1
    have p6c : v3c (((wds 10 (t ⟨⟩)).map tx).getD 6 ByteArray.empty) = n3 (ln (t ⟨⟩) 6) 2 := (v3_ok gg6).2.2
    have gg7 : nrOk 3 (((wds 10 (t ⟨⟩)).map tx).getD 7 ByteArray.empty) = true := show gd (t ⟨⟩) 7 = true from allI_at hg (by omega)
    have p7a : v3a (((wds 10 (t ⟨⟩)).map tx).getD 7 ByteArray.empty) = n3 (ln (t ⟨⟩) 7) 0 := (v3_ok gg7).1
    have p7b : v3b (((wds 10 (t ⟨⟩)).map tx).getD 7 ByteArray.empty) = n3 (ln (t ⟨⟩) 7) 1 := (v3_ok gg7).2.1
    have p7c : v3c (((wds 10 (t ⟨⟩)).map tx).getD 7 ByteArray.empty) = n3 (ln (t ⟨⟩) 7) 2 := (v3_ok gg7).2.2
    have hL : spL (t ⟨⟩) = [n3 (ln (t ⟨⟩) 1) 0, n3 (ln (t ⟨⟩) 1) 1, n3 (ln (t ⟨⟩) 1) 2, n3 (ln (t ⟨⟩) 2) 0, n3 (ln (t ⟨⟩) 2) 1, n3 (ln (t ⟨⟩) 2) 2, n3 (ln (t ⟨⟩) 3) 0, n3 (ln (t ⟨⟩) 3) 1, n3 (ln (t ⟨⟩) 3) 2, n3 (ln (t ⟨⟩) 4) 0, n3 (ln (t ⟨⟩) 4) 1, n3 (ln (t ⟨⟩) 4) 2, n3 (ln (t ⟨⟩) 5) 0, n3 (ln (t ⟨⟩) 5) 1, n3 (ln (t ⟨⟩) 5) 2, n3 (ln (t ⟨⟩) 6) 0, n3 (ln (t ⟨⟩) 6) 1, n3 (ln (t ⟨⟩) 6) 2, n3 (ln (t ⟨⟩) 7) 0, n3 (ln (t ⟨⟩) 7) 1, n3 (ln (t ⟨⟩) 7) 2] := by unfold spL; rw [hn]; rfl
    have hS : [v3a (((wds 10 (t ⟨⟩)).map tx).getD 1 ByteArray.empty), v3b (((wds 10 (t ⟨⟩)).map tx).getD 1 ByteArray.empty), v3c (((wds 10 (t ⟨⟩)).map tx).getD 1 ByteArray.empty), v3a (((wds 10 (t ⟨⟩)).map tx).getD 2 ByteArray.empty), v3b (((wds 10 (t ⟨⟩)).map tx).getD 2 ByteArray.empty), v3c (((wds 10 (t ⟨⟩)).map tx).getD 2 ByteArray.empty), v3a (((wds 10 (t ⟨⟩)).map tx).getD 3 ByteArray.empty), v3b (((wds 10 (t ⟨⟩)).map tx).getD 3 ByteArray.empty), v3c (((wds 10 (t ⟨⟩)).map tx).getD 3 ByteArray.empty), v3a (((wds 10 (t ⟨⟩)).map tx).getD 4 ByteArray.empty), v3b (((wds 10 (t ⟨⟩)).map tx).getD 4 ByteArray.empty), v3c (((wds 10 (t ⟨⟩)).map tx).getD 4 ByteArray.empty), v3a (((wds 10 (t ⟨⟩)).map tx).getD 5 ByteArray.empty), v3b (((wds 10 (t ⟨⟩)).map tx).getD 5 ByteArray.empty), v3c (((wds 10 (t ⟨⟩)).map tx).getD 5 ByteArray.empty), v3a (((wds 10 (t ⟨⟩)).map tx).getD 6 ByteArray.empty), v3b (((wds 10 (t ⟨⟩)).map tx).getD 6 ByteArray.empty), v3c (((wds 10 (t ⟨⟩)).map tx).getD 6 ByteArray.empty), v3a (((wds 10 (t ⟨⟩)).map tx).getD 7 ByteArray.empty), v3b (((wds 10 (t ⟨⟩)).map tx).getD 7 ByteArray.empty), v3c (((wds 10 (t ⟨⟩)).map tx).getD 7 ByteArray.empty)] = spL (t ⟨⟩) := by rw [hL, p1a, p1b, p1c, p2a, p2b, p2c, p3a, p3b, p3c, p4a, p4b, p4c, p5a, p5b, p5c, p6a, p6b, p6c, p7a, p7b, p7c]
    have hnn : 7 = nl (t ⟨⟩) - 1 := by omega
    have hW : webOk (v3a (((wds 10 (t ⟨⟩)).map tx).getD 0 ByteArray.empty)) (v3b (((wds 10 (t ⟨⟩)).map tx).getD 0 ByteArray.empty)) (v3c (((wds 10 (t ⟨⟩)).map tx).getD 0 ByteArray.empty)) [v3a (((wds 10 (t ⟨⟩)).map tx).getD 1 ByteArray.empty), v3b (((wds 10 (t ⟨⟩)).map tx).getD 1 ByteArray.empty), v3c (((wds 10 (t ⟨⟩)).map tx).getD 1 ByteArray.empty), v3a (((wds 10 (t ⟨⟩)).map tx).getD 2 ByteArray.empty), v3b (((wds 10 (t ⟨⟩)).map tx).getD 2 ByteArray.empty), v3c (((wds 10 (t ⟨⟩)).map tx).getD 2 ByteArray.empty), v3a (((wds 10 (t ⟨⟩)).map tx).getD 3 ByteArray.empty), v3b (((wds 10 (t ⟨⟩)).map tx).getD 3 ByteArray.empty), v3c (((wds 10 (t ⟨⟩)).map tx).getD 3 ByteArray.empty), v3a (((wds 10 (t ⟨⟩)).map tx).getD 4 ByteArray.empty), v3b (((wds 10 (t ⟨⟩)).map tx).getD 4 ByteArray.empty), v3c (((wds 10 (t ⟨⟩)).map tx).getD 4 ByteArray.empty), v3a (((wds 10 (t ⟨⟩)).map tx).getD 5 ByteArray.empty), v3b (((wds 10 (t ⟨⟩)).map tx).getD 5 ByteArray.empty), v3c (((wds 10 (t ⟨⟩)).map tx).getD 5 ByteArray.empty), v3a (((wds 10 (t ⟨⟩)).map tx).getD 6 ByteArray.empty), v3b (((wds 10 (t ⟨⟩)).map tx).getD 6 ByteArray.empty), v3c (((wds 10 (t ⟨⟩)).map tx).getD 6 ByteArray.empty), v3a (((wds 10 (t ⟨⟩)).map tx).getD 7 ByteArray.empty), v3b (((wds 10 (t ⟨⟩)).map tx).getD 7 ByteArray.empty), v3c (((wds 10 (t ⟨⟩)).map tx).getD 7 ByteArray.empty)] 7 = wOk (t ⟨⟩) := by unfold wOk; rw [hS, p0a, p0b, p0c]; exact congrArg (webOk _ _ _ _) hnn
    have b0 : ltB 0 (IntKind.wrap .i64 (((((wds 10 (t ⟨⟩)).length : Nat)) : Int) - 1)) = true := by rw [hwr, ltB_iff]; omega
    have x0 : (0 : Int) ≤ 0 ∧ (0 : Int) < ((((wds 10 (t ⟨⟩)).length : Nat)) : Int) := ⟨by omega, by unfold nl at hn; omega⟩
    have y0 : 0 < ((wds 10 (t ⟨⟩)).map tx).length := by rw [List.length_map]; unfold nl at hn; omega
    have z0 : (((wds 10 (t ⟨⟩)).map tx).getD 0 ByteArray.empty).size ≤ 1048576 := ln_size (t ⟨⟩) 0 hsz
    have g0 : (!(nrOk 3 (((wds 10 (t ⟨⟩)).map tx).getD 0 ByteArray.empty))) = false := ntf (show gd (t ⟨⟩) 0 = true from allI_at hg (by omega))
    have b1 : ltB 1 (IntKind.wrap .i64 (((((wds 10 (t ⟨⟩)).length : Nat)) : Int) - 1)) = true := by rw [hwr, ltB_iff]; omega
    have x1 : (0 : Int) ≤ 1 ∧ (1 : Int) < ((((wds 10 (t ⟨⟩)).length : Nat)) : Int) := ⟨by omega, by unfold nl at hn; omega⟩
    have y1 : 1 < ((wds 10 (t ⟨⟩)).map tx).length := by rw [List.length_map]; unfold nl at hn; omega
    have z1 : (((wds 10 (t ⟨⟩)).map tx).getD 1 ByteArray.empty).size ≤ 1048576 := ln_size (t ⟨⟩) 1 hsz
    have g1 : (!(nrOk 3 (((wds 10 (t ⟨⟩)).map tx).getD 1 ByteArray.empty))) = false := ntf (show gd (t ⟨⟩) 1 = true from allI_at hg (by omega))
    have b2 : ltB 2 (IntKind.wrap .i64 (((((wds 10 (t ⟨⟩)).length : Nat)) : Int) - 1)) = true := by rw [hwr, ltB_iff]; omega
    have x2 : (0 : Int) ≤ 2 ∧ (2 : Int) < ((((wds 10 (t ⟨⟩)).length : Nat)) : Int) := ⟨by omega, by unfold nl at hn; omega⟩
    have y2 : 2 < ((wds 10 (t ⟨⟩)).map tx).length := by rw [List.length_map]; unfold nl at hn; omega
    have z2 : (((wds 10 (t ⟨⟩)).map tx).getD 2 ByteArray.empty).size ≤ 1048576 := ln_size (t ⟨⟩) 2 hsz
    have g2 : (!(nrOk 3 (((wds 10 (t ⟨⟩)).map tx).getD 2 ByteArray.empty))) = false := ntf (show gd (t ⟨⟩) 2 = true from allI_at hg (by omega))
    have b3 : ltB 3 (IntKind.wrap .i64 (((((wds 10 (t ⟨⟩)).length : Nat)) : Int) - 1)) = true := by rw [hwr, ltB_iff]; omega
    have x3 : (0 : Int) ≤ 3 ∧ (3 : Int) < ((((wds 10 (t ⟨⟩)).length : Nat)) : Int) := ⟨by omega, by unfold nl at hn; omega⟩
    have y3 : 3 < ((wds 10 (t ⟨⟩)).map tx).length := by rw [List.length_map]; unfold nl at hn; omega
    have z3 : (((wds 10 (t ⟨⟩)).map tx).getD 3 ByteArray.empty).size ≤ 1048576 := ln_size (t ⟨⟩) 3 hsz
    have g3 : (!(nrOk 3 (((wds 10 (t ⟨⟩)).map tx).getD 3 ByteArray.empty))) = false := ntf (show gd (t ⟨⟩) 3 = true from allI_at hg (by omega))
    have b4 : ltB 4 (IntKind.wrap .i64 (((((wds 10 (t ⟨⟩)).length : Nat)) : Int) - 1)) = true := by rw [hwr, ltB_iff]; omega
    have x4 : (0 : Int) ≤ 4 ∧ (4 : Int) < ((((wds 10 (t ⟨⟩)).length : Nat)) : Int) := ⟨by omega, by unfold nl at hn; omega⟩
    have y4 : 4 < ((wds 10 (t ⟨⟩)).map tx).length := by rw [List.length_map]; unfold nl at hn; omega
    have z4 : (((wds 10 (t ⟨⟩)).map tx).getD 4 ByteArray.empty).size ≤ 1048576 := ln_size (t ⟨⟩) 4 hsz
    have g4 : (!(nrOk 3 (((wds 10 (t ⟨⟩)).map tx).getD 4 ByteArray.empty))) = false := ntf (show gd (t ⟨⟩) 4 = true from allI_at hg (by omega))
    have b5 : ltB 5 (IntKind.wrap .i64 (((((wds 10 (t ⟨⟩)).length : Nat)) : Int) - 1)) = true := by rw [hwr, ltB_iff]; omega
    have x5 : (0 : Int) ≤ 5 ∧ (5 : Int) < ((((wds 10 (t ⟨⟩)).length : Nat)) : Int) := ⟨by omega, by unfold nl at hn; omega⟩
    have y5 : 5 < ((wds 10 (t ⟨⟩)).map tx).length := by rw [List.length_map]; unfold nl at hn; omega
    have z5 : (((wds 10 (t ⟨⟩)).map tx).getD 5 ByteArray.empty).size ≤ 1048576 := ln_size (t ⟨⟩) 5 hsz
    have g5 : (!(nrOk 3 (((wds 10 (t ⟨⟩)).map tx).getD 5 ByteArray.empty))) = false := ntf (show gd (t ⟨⟩) 5 = true from allI_at hg (by omega))
    have b6 : ltB 6 (IntKind.wrap .i64 (((((wds 10 (t ⟨⟩)).length : Nat)) : Int) - 1)) = true := by rw [hwr, ltB_iff]; omega
    have x6 : (0 : Int) ≤ 6 ∧ (6 : Int) < ((((wds 10 (t ⟨⟩)).length : Nat)) : Int) := ⟨by omega, by unfold nl at hn; omega⟩
    have y6 : 6 < ((wds 10 (t ⟨⟩)).map tx).length := by rw [List.length_map]; unfold nl at hn; omega
    have z6 : (((wds 10 (t ⟨⟩)).map tx).getD 6 ByteArray.empty).size ≤ 1048576 := ln_size (t ⟨⟩) 6 hsz
    have g6 : (!(nrOk 3 (((wds 10 (t ⟨⟩)).map tx).getD 6 ByteArray.empty))) = false := ntf (show gd (t ⟨⟩) 6 = true from allI_at hg (by omega))
    have b7 : ltB 7 (IntKind.wrap .i64 (((((wds 10 (t ⟨⟩)).length : Nat)) : Int) - 1)) = true := by rw [hwr, ltB_iff]; omega
    have x7 : (0 : Int) ≤ 7 ∧ (7 : Int) < ((((wds 10 (t ⟨⟩)).length : Nat)) : Int) := ⟨by omega, by unfold nl at hn; omega⟩
    have y7 : 7 < ((wds 10 (t ⟨⟩)).map tx).length := by rw [List.length_map]; unfold nl at hn; omega
    have z7 : (((wds 10 (t ⟨⟩)).map tx).getD 7 ByteArray.empty).size ≤ 1048576 := ln_size (t ⟨⟩) 7 hsz
    have g7 : (!(nrOk 3 (((wds 10 (t ⟨⟩)).map tx).getD 7 ByteArray.empty))) = false := ntf (show gd (t ⟨⟩) 7 = true from allI_at hg (by omega))
    have hw2 := congrArg not (hW.trans hv)
    refine ⟨_, HLe.refl _, ?_⟩
    cbv
    repeat' first | (refine Ob.mk ?_ ?_; (focus (first | exact hsp | exact hx0 | exact hx1 | exact x0 | exact y0 | exact z0 | exact x1 | exact y1 | exact z1 | exact x2 | exact y2 | exact z2 | exact x3 | exact y3 | exact z3 | exact x4 | exact y4 | exact z4 | exact x5 | exact y5 | exact z5 | exact x6 | exact y6 | exact z6 | exact x7 | exact y7 | exact z7 | exact p0a | exact p0b | exact p0c | exact hS | exact hnn | exact ⟨rfl, rfl, by decide⟩ | exact rfl)); cbv) | (refine Br.f t1 ?_; cbv) | (refine Br.f t2 ?_; cbv) | (refine Br.f t3 ?_; cbv) | (refine Br.t b0 ?_; cbv) | (refine Br.f g0 ?_; cbv) | (refine Br.t b1 ?_; cbv) | (refine Br.f g1 ?_; cbv) | (refine Br.t b2 ?_; cbv) | (refine Br.f g2 ?_; cbv) | (refine Br.t b3 ?_; cbv) | (refine Br.f g3 ?_; cbv) | (refine Br.t b4 ?_; cbv) | (refine Br.f g4 ?_; cbv) | (refine Br.t b5 ?_; cbv) | (refine Br.f g5 ?_; cbv) | (refine Br.t b6 ?_; cbv) | (refine Br.f g6 ?_; cbv) | (refine Br.t b7 ?_; cbv) | (refine Br.f g7 ?_; cbv) | (refine Br.f be ?_; cbv) | (refine Br.t hw2 ?_; cbv) | (refine Loop.mk 70 ?_; cbv) | (refine Gen.same ?_; cbv)
  · cases hs
end Go.Proofs.YteifneielgnniaaDoor.Sh
end
section
namespace Go.Proofs.YteifneielgnniaaDoor.Sh
open Go Go.Proofs
attribute [local irreducible] wds tx rn rnC rnOk nrOk v3a v3b v3c wAt n3 webOk spL tl nl wOk
set_option maxRecDepth 100000 in
set_option maxHeartbeats 8000000 in
theorem ok8T9 : Ok Tryd.prog 8 (sRT fun t => okA t = true ∧ nl t = 9 ∧ gdTo t 9 = true ∧ wOk t = true) := ok_of_wpaH (E := E8) mixed tts E8ok fn8 fun args H v H' o hs ho => by
  split at hs
  · rename_i t
    cases hs
    have hsz : (t ⟨⟩).size ≤ 1048576 := ho.two.2
    have hsp : (10 : Int) = (((10 : UInt8).toNat : Nat) : Int) ∧ (t ⟨⟩).size ≤ 1048576 := ⟨rfl, hsz⟩
    have hpos := wds_pos 10 (t ⟨⟩)
    have hle := wds_le 10 (t ⟨⟩)
    have hwr : (IntKind.wrap .i64 (((((wds 10 (t ⟨⟩)).length : Nat)) : Int) - 1)) = ((nl (t ⟨⟩) : Nat) : Int) := by rw [wrap64 (by omega) (by omega)]; unfold nl; omega
    have hp : 0 + (IntKind.wrap .i64 (((((wds 10 (t ⟨⟩)).length : Nat)) : Int) - 1)).toNat * 1 = nl (t ⟨⟩) := by rw [hwr, Int.toNat_natCast]; omega
    have htl : (!((((wds 10 (t ⟨⟩)).map tx).getD (0 + (IntKind.wrap .i64 (((((wds 10 (t ⟨⟩)).length : Nat)) : Int) - 1)).toNat * 1) ByteArray.empty).toList == ({ data := #[] } : ByteArray).toList)) = !(tl (t ⟨⟩)) := by rw [hp]; exact congrArg _ (tl_form _)
    have hx0 : 0 ≤ (IntKind.wrap .i64 (((((wds 10 (t ⟨⟩)).length : Nat)) : Int) - 1)) ∧ (IntKind.wrap .i64 (((((wds 10 (t ⟨⟩)).length : Nat)) : Int) - 1)) < ((((wds 10 (t ⟨⟩)).length : Nat)) : Int) := by rw [hwr]; unfold nl; omega
    have hx1 : 0 + (IntKind.wrap .i64 (((((wds 10 (t ⟨⟩)).length : Nat)) : Int) - 1)).toNat * 1 < ((wds 10 (t ⟨⟩)).map tx).length := by rw [hp, List.length_map]; unfold nl; omega
    have hA : okA (t ⟨⟩) = true := ho.two.1.1
    have hn : nl (t ⟨⟩) = 9 := ho.two.1.2.1
    have hg : gdTo (t ⟨⟩) 9 = true := ho.two.1.2.2.1
    have hv : wOk (t ⟨⟩) = true := ho.two.1.2.2.2
    have hA2 := okA_t hA
    have t1 : (!((((wds 10 (t ⟨⟩)).map tx).getD (0 + (IntKind.wrap .i64 (((((wds 10 (t ⟨⟩)).length : Nat)) : Int) - 1)).toNat * 1) ByteArray.empty).toList == ({ data := #[] } : ByteArray).toList)) = false := by rw [htl, hA2.1]; rfl
    have t2 : ltB (IntKind.wrap .i64 (((((wds 10 (t ⟨⟩)).length : Nat)) : Int) - 1)) 2 = false := by rw [hwr, ltB_no]; omega
    have t3 : ltB 9 (IntKind.wrap .i64 (((((wds 10 (t ⟨⟩)).length : Nat)) : Int) - 1)) = false := by rw [hwr, ltB_no]; omega
    have be : ltB 9 (IntKind.wrap .i64 (((((wds 10 (t ⟨⟩)).length : Nat)) : Int) - 1)) = false := by rw [hwr, ltB_no]; omega
    have gg0 : nrOk 3 (((wds 10 (t ⟨⟩)).map tx).getD 0 ByteArray.empty) = true := show gd (t ⟨⟩) 0 = true from allI_at hg (by omega)
    have p0a : v3a (((wds 10 (t ⟨⟩)).map tx).getD 0 ByteArray.empty) = n3 (ln (t ⟨⟩) 0) 0 := (v3_ok gg0).1
    have p0b : v3b (((wds 10 (t ⟨⟩)).map tx).getD 0 ByteArray.empty) = n3 (ln (t ⟨⟩) 0) 1 := (v3_ok gg0).2.1
    have p0c : v3c (((wds 10 (t ⟨⟩)).map tx).getD 0 ByteArray.empty) = n3 (ln (t ⟨⟩) 0) 2 := (v3_ok gg0).2.2
    have gg1 : nrOk 3 (((wds 10 (t ⟨⟩)).map tx).getD 1 ByteArray.empty) = true := show gd (t ⟨⟩) 1 = true from allI_at hg (by omega)
    have p1a : v3a (((wds 10 (t ⟨⟩)).map tx).getD 1 ByteArray.empty) = n3 (ln (t ⟨⟩) 1) 0 := (v3_ok gg1).1
    have p1b : v3b (((wds 10 (t ⟨⟩)).map tx).getD 1 ByteArray.empty) = n3 (ln (t ⟨⟩) 1) 1 := (v3_ok gg1).2.1
    have p1c : v3c (((wds 10 (t ⟨⟩)).map tx).getD 1 ByteArray.empty) = n3 (ln (t ⟨⟩) 1) 2 := (v3_ok gg1).2.2
    have gg2 : nrOk 3 (((wds 10 (t ⟨⟩)).map tx).getD 2 ByteArray.empty) = true := show gd (t ⟨⟩) 2 = true from allI_at hg (by omega)
    have p2a : v3a (((wds 10 (t ⟨⟩)).map tx).getD 2 ByteArray.empty) = n3 (ln (t ⟨⟩) 2) 0 := (v3_ok gg2).1
    have p2b : v3b (((wds 10 (t ⟨⟩)).map tx).getD 2 ByteArray.empty) = n3 (ln (t ⟨⟩) 2) 1 := (v3_ok gg2).2.1
    have p2c : v3c (((wds 10 (t ⟨⟩)).map tx).getD 2 ByteArray.empty) = n3 (ln (t ⟨⟩) 2) 2 := (v3_ok gg2).2.2
    have gg3 : nrOk 3 (((wds 10 (t ⟨⟩)).map tx).getD 3 ByteArray.empty) = true := show gd (t ⟨⟩) 3 = true from allI_at hg (by omega)
    have p3a : v3a (((wds 10 (t ⟨⟩)).map tx).getD 3 ByteArray.empty) = n3 (ln (t ⟨⟩) 3) 0 := (v3_ok gg3).1
    have p3b : v3b (((wds 10 (t ⟨⟩)).map tx).getD 3 ByteArray.empty) = n3 (ln (t ⟨⟩) 3) 1 := (v3_ok gg3).2.1
    have p3c : v3c (((wds 10 (t ⟨⟩)).map tx).getD 3 ByteArray.empty) = n3 (ln (t ⟨⟩) 3) 2 := (v3_ok gg3).2.2
    have gg4 : nrOk 3 (((wds 10 (t ⟨⟩)).map tx).getD 4 ByteArray.empty) = true := show gd (t ⟨⟩) 4 = true from allI_at hg (by omega)
    have p4a : v3a (((wds 10 (t ⟨⟩)).map tx).getD 4 ByteArray.empty) = n3 (ln (t ⟨⟩) 4) 0 := (v3_ok gg4).1
    have p4b : v3b (((wds 10 (t ⟨⟩)).map tx).getD 4 ByteArray.empty) = n3 (ln (t ⟨⟩) 4) 1 := (v3_ok gg4).2.1
    have p4c : v3c (((wds 10 (t ⟨⟩)).map tx).getD 4 ByteArray.empty) = n3 (ln (t ⟨⟩) 4) 2 := (v3_ok gg4).2.2
    have gg5 : nrOk 3 (((wds 10 (t ⟨⟩)).map tx).getD 5 ByteArray.empty) = true := show gd (t ⟨⟩) 5 = true from allI_at hg (by omega)
    have p5a : v3a (((wds 10 (t ⟨⟩)).map tx).getD 5 ByteArray.empty) = n3 (ln (t ⟨⟩) 5) 0 := (v3_ok gg5).1
    have p5b : v3b (((wds 10 (t ⟨⟩)).map tx).getD 5 ByteArray.empty) = n3 (ln (t ⟨⟩) 5) 1 := (v3_ok gg5).2.1
    have p5c : v3c (((wds 10 (t ⟨⟩)).map tx).getD 5 ByteArray.empty) = n3 (ln (t ⟨⟩) 5) 2 := (v3_ok gg5).2.2
    have gg6 : nrOk 3 (((wds 10 (t ⟨⟩)).map tx).getD 6 ByteArray.empty) = true := show gd (t ⟨⟩) 6 = true from allI_at hg (by omega)
    have p6a : v3a (((wds 10 (t ⟨⟩)).map tx).getD 6 ByteArray.empty) = n3 (ln (t ⟨⟩) 6) 0 := (v3_ok gg6).1
    have p6b : v3b (((wds 10 (t ⟨⟩)).map tx).getD 6 ByteArray.empty) = n3 (ln (t ⟨⟩) 6) 1 := (v3_ok gg6).2.1
    have p6c : v3c (((wds 10 (t ⟨⟩)).map tx).getD 6 ByteArray.empty) = n3 (ln (t ⟨⟩) 6) 2 := (v3_ok gg6).2.2
    have gg7 : nrOk 3 (((wds 10 (t ⟨⟩)).map tx).getD 7 ByteArray.empty) = true := show gd (t ⟨⟩) 7 = true from allI_at hg (by omega)
    have p7a : v3a (((wds 10 (t ⟨⟩)).map tx).getD 7 ByteArray.empty) = n3 (ln (t ⟨⟩) 7) 0 := (v3_ok gg7).1
    have p7b : v3b (((wds 10 (t ⟨⟩)).map tx).getD 7 ByteArray.empty) = n3 (ln (t ⟨⟩) 7) 1 := (v3_ok gg7).2.1
    have p7c : v3c (((wds 10 (t ⟨⟩)).map tx).getD 7 ByteArray.empty) = n3 (ln (t ⟨⟩) 7) 2 := (v3_ok gg7).2.2
    have gg8 : nrOk 3 (((wds 10 (t ⟨⟩)).map tx).getD 8 ByteArray.empty) = true := show gd (t ⟨⟩) 8 = true from allI_at hg (by omega)
    have p8a : v3a (((wds 10 (t ⟨⟩)).map tx).getD 8 ByteArray.empty) = n3 (ln (t ⟨⟩) 8) 0 := (v3_ok gg8).1
    have p8b : v3b (((wds 10 (t ⟨⟩)).map tx).getD 8 ByteArray.empty) = n3 (ln (t ⟨⟩) 8) 1 := (v3_ok gg8).2.1
    have p8c : v3c (((wds 10 (t ⟨⟩)).map tx).getD 8 ByteArray.empty) = n3 (ln (t ⟨⟩) 8) 2 := (v3_ok gg8).2.2
    have hL : spL (t ⟨⟩) = [n3 (ln (t ⟨⟩) 1) 0, n3 (ln (t ⟨⟩) 1) 1, n3 (ln (t ⟨⟩) 1) 2, n3 (ln (t ⟨⟩) 2) 0, n3 (ln (t ⟨⟩) 2) 1, n3 (ln (t ⟨⟩) 2) 2, n3 (ln (t ⟨⟩) 3) 0, n3 (ln (t ⟨⟩) 3) 1, n3 (ln (t ⟨⟩) 3) 2, n3 (ln (t ⟨⟩) 4) 0, n3 (ln (t ⟨⟩) 4) 1, n3 (ln (t ⟨⟩) 4) 2, n3 (ln (t ⟨⟩) 5) 0, n3 (ln (t ⟨⟩) 5) 1, n3 (ln (t ⟨⟩) 5) 2, n3 (ln (t ⟨⟩) 6) 0, n3 (ln (t ⟨⟩) 6) 1, n3 (ln (t ⟨⟩) 6) 2, n3 (ln (t ⟨⟩) 7) 0, n3 (ln (t ⟨⟩) 7) 1, n3 (ln (t ⟨⟩) 7) 2, n3 (ln (t ⟨⟩) 8) 0, n3 (ln (t ⟨⟩) 8) 1, n3 (ln (t ⟨⟩) 8) 2] := by unfold spL; rw [hn]; rfl
    have hS : [v3a (((wds 10 (t ⟨⟩)).map tx).getD 1 ByteArray.empty), v3b (((wds 10 (t ⟨⟩)).map tx).getD 1 ByteArray.empty), v3c (((wds 10 (t ⟨⟩)).map tx).getD 1 ByteArray.empty), v3a (((wds 10 (t ⟨⟩)).map tx).getD 2 ByteArray.empty), v3b (((wds 10 (t ⟨⟩)).map tx).getD 2 ByteArray.empty), v3c (((wds 10 (t ⟨⟩)).map tx).getD 2 ByteArray.empty), v3a (((wds 10 (t ⟨⟩)).map tx).getD 3 ByteArray.empty), v3b (((wds 10 (t ⟨⟩)).map tx).getD 3 ByteArray.empty), v3c (((wds 10 (t ⟨⟩)).map tx).getD 3 ByteArray.empty), v3a (((wds 10 (t ⟨⟩)).map tx).getD 4 ByteArray.empty), v3b (((wds 10 (t ⟨⟩)).map tx).getD 4 ByteArray.empty), v3c (((wds 10 (t ⟨⟩)).map tx).getD 4 ByteArray.empty), v3a (((wds 10 (t ⟨⟩)).map tx).getD 5 ByteArray.empty), v3b (((wds 10 (t ⟨⟩)).map tx).getD 5 ByteArray.empty), v3c (((wds 10 (t ⟨⟩)).map tx).getD 5 ByteArray.empty), v3a (((wds 10 (t ⟨⟩)).map tx).getD 6 ByteArray.empty), v3b (((wds 10 (t ⟨⟩)).map tx).getD 6 ByteArray.empty), v3c (((wds 10 (t ⟨⟩)).map tx).getD 6 ByteArray.empty), v3a (((wds 10 (t ⟨⟩)).map tx).getD 7 ByteArray.empty), v3b (((wds 10 (t ⟨⟩)).map tx).getD 7 ByteArray.empty), v3c (((wds 10 (t ⟨⟩)).map tx).getD 7 ByteArray.empty), v3a (((wds 10 (t ⟨⟩)).map tx).getD 8 ByteArray.empty), v3b (((wds 10 (t ⟨⟩)).map tx).getD 8 ByteArray.empty), v3c (((wds 10 (t ⟨⟩)).map tx).getD 8 ByteArray.empty)] = spL (t ⟨⟩) := by rw [hL, p1a, p1b, p1c, p2a, p2b, p2c, p3a, p3b, p3c, p4a, p4b, p4c, p5a, p5b, p5c, p6a, p6b, p6c, p7a, p7b, p7c, p8a, p8b, p8c]
    have hnn : 8 = nl (t ⟨⟩) - 1 := by omega
    have hW : webOk (v3a (((wds 10 (t ⟨⟩)).map tx).getD 0 ByteArray.empty)) (v3b (((wds 10 (t ⟨⟩)).map tx).getD 0 ByteArray.empty)) (v3c (((wds 10 (t ⟨⟩)).map tx).getD 0 ByteArray.empty)) [v3a (((wds 10 (t ⟨⟩)).map tx).getD 1 ByteArray.empty), v3b (((wds 10 (t ⟨⟩)).map tx).getD 1 ByteArray.empty), v3c (((wds 10 (t ⟨⟩)).map tx).getD 1 ByteArray.empty), v3a (((wds 10 (t ⟨⟩)).map tx).getD 2 ByteArray.empty), v3b (((wds 10 (t ⟨⟩)).map tx).getD 2 ByteArray.empty), v3c (((wds 10 (t ⟨⟩)).map tx).getD 2 ByteArray.empty), v3a (((wds 10 (t ⟨⟩)).map tx).getD 3 ByteArray.empty), v3b (((wds 10 (t ⟨⟩)).map tx).getD 3 ByteArray.empty), v3c (((wds 10 (t ⟨⟩)).map tx).getD 3 ByteArray.empty), v3a (((wds 10 (t ⟨⟩)).map tx).getD 4 ByteArray.empty), v3b (((wds 10 (t ⟨⟩)).map tx).getD 4 ByteArray.empty), v3c (((wds 10 (t ⟨⟩)).map tx).getD 4 ByteArray.empty), v3a (((wds 10 (t ⟨⟩)).map tx).getD 5 ByteArray.empty), v3b (((wds 10 (t ⟨⟩)).map tx).getD 5 ByteArray.empty), v3c (((wds 10 (t ⟨⟩)).map tx).getD 5 ByteArray.empty), v3a (((wds 10 (t ⟨⟩)).map tx).getD 6 ByteArray.empty), v3b (((wds 10 (t ⟨⟩)).map tx).getD 6 ByteArray.empty), v3c (((wds 10 (t ⟨⟩)).map tx).getD 6 ByteArray.empty), v3a (((wds 10 (t ⟨⟩)).map tx).getD 7 ByteArray.empty), v3b (((wds 10 (t ⟨⟩)).map tx).getD 7 ByteArray.empty), v3c (((wds 10 (t ⟨⟩)).map tx).getD 7 ByteArray.empty), v3a (((wds 10 (t ⟨⟩)).map tx).getD 8 ByteArray.empty), v3b (((wds 10 (t ⟨⟩)).map tx).getD 8 ByteArray.empty), v3c (((wds 10 (t ⟨⟩)).map tx).getD 8 ByteArray.empty)] 8 = wOk (t ⟨⟩) := by unfold wOk; rw [hS, p0a, p0b, p0c]; exact congrArg (webOk _ _ _ _) hnn
    have b0 : ltB 0 (IntKind.wrap .i64 (((((wds 10 (t ⟨⟩)).length : Nat)) : Int) - 1)) = true := by rw [hwr, ltB_iff]; omega
    have x0 : (0 : Int) ≤ 0 ∧ (0 : Int) < ((((wds 10 (t ⟨⟩)).length : Nat)) : Int) := ⟨by omega, by unfold nl at hn; omega⟩
    have y0 : 0 < ((wds 10 (t ⟨⟩)).map tx).length := by rw [List.length_map]; unfold nl at hn; omega
    have z0 : (((wds 10 (t ⟨⟩)).map tx).getD 0 ByteArray.empty).size ≤ 1048576 := ln_size (t ⟨⟩) 0 hsz
    have g0 : (!(nrOk 3 (((wds 10 (t ⟨⟩)).map tx).getD 0 ByteArray.empty))) = false := ntf (show gd (t ⟨⟩) 0 = true from allI_at hg (by omega))
    have b1 : ltB 1 (IntKind.wrap .i64 (((((wds 10 (t ⟨⟩)).length : Nat)) : Int) - 1)) = true := by rw [hwr, ltB_iff]; omega
    have x1 : (0 : Int) ≤ 1 ∧ (1 : Int) < ((((wds 10 (t ⟨⟩)).length : Nat)) : Int) := ⟨by omega, by unfold nl at hn; omega⟩
    have y1 : 1 < ((wds 10 (t ⟨⟩)).map tx).length := by rw [List.length_map]; unfold nl at hn; omega
    have z1 : (((wds 10 (t ⟨⟩)).map tx).getD 1 ByteArray.empty).size ≤ 1048576 := ln_size (t ⟨⟩) 1 hsz
    have g1 : (!(nrOk 3 (((wds 10 (t ⟨⟩)).map tx).getD 1 ByteArray.empty))) = false := ntf (show gd (t ⟨⟩) 1 = true from allI_at hg (by omega))
    have b2 : ltB 2 (IntKind.wrap .i64 (((((wds 10 (t ⟨⟩)).length : Nat)) : Int) - 1)) = true := by rw [hwr, ltB_iff]; omega
    have x2 : (0 : Int) ≤ 2 ∧ (2 : Int) < ((((wds 10 (t ⟨⟩)).length : Nat)) : Int) := ⟨by omega, by unfold nl at hn; omega⟩
    have y2 : 2 < ((wds 10 (t ⟨⟩)).map tx).length := by rw [List.length_map]; unfold nl at hn; omega
    have z2 : (((wds 10 (t ⟨⟩)).map tx).getD 2 ByteArray.empty).size ≤ 1048576 := ln_size (t ⟨⟩) 2 hsz
    have g2 : (!(nrOk 3 (((wds 10 (t ⟨⟩)).map tx).getD 2 ByteArray.empty))) = false := ntf (show gd (t ⟨⟩) 2 = true from allI_at hg (by omega))
    have b3 : ltB 3 (IntKind.wrap .i64 (((((wds 10 (t ⟨⟩)).length : Nat)) : Int) - 1)) = true := by rw [hwr, ltB_iff]; omega
    have x3 : (0 : Int) ≤ 3 ∧ (3 : Int) < ((((wds 10 (t ⟨⟩)).length : Nat)) : Int) := ⟨by omega, by unfold nl at hn; omega⟩
    have y3 : 3 < ((wds 10 (t ⟨⟩)).map tx).length := by rw [List.length_map]; unfold nl at hn; omega
    have z3 : (((wds 10 (t ⟨⟩)).map tx).getD 3 ByteArray.empty).size ≤ 1048576 := ln_size (t ⟨⟩) 3 hsz
    have g3 : (!(nrOk 3 (((wds 10 (t ⟨⟩)).map tx).getD 3 ByteArray.empty))) = false := ntf (show gd (t ⟨⟩) 3 = true from allI_at hg (by omega))
    have b4 : ltB 4 (IntKind.wrap .i64 (((((wds 10 (t ⟨⟩)).length : Nat)) : Int) - 1)) = true := by rw [hwr, ltB_iff]; omega
    have x4 : (0 : Int) ≤ 4 ∧ (4 : Int) < ((((wds 10 (t ⟨⟩)).length : Nat)) : Int) := ⟨by omega, by unfold nl at hn; omega⟩
    have y4 : 4 < ((wds 10 (t ⟨⟩)).map tx).length := by rw [List.length_map]; unfold nl at hn; omega
    have z4 : (((wds 10 (t ⟨⟩)).map tx).getD 4 ByteArray.empty).size ≤ 1048576 := ln_size (t ⟨⟩) 4 hsz
    have g4 : (!(nrOk 3 (((wds 10 (t ⟨⟩)).map tx).getD 4 ByteArray.empty))) = false := ntf (show gd (t ⟨⟩) 4 = true from allI_at hg (by omega))
    have b5 : ltB 5 (IntKind.wrap .i64 (((((wds 10 (t ⟨⟩)).length : Nat)) : Int) - 1)) = true := by rw [hwr, ltB_iff]; omega
    have x5 : (0 : Int) ≤ 5 ∧ (5 : Int) < ((((wds 10 (t ⟨⟩)).length : Nat)) : Int) := ⟨by omega, by unfold nl at hn; omega⟩
    have y5 : 5 < ((wds 10 (t ⟨⟩)).map tx).length := by rw [List.length_map]; unfold nl at hn; omega
    have z5 : (((wds 10 (t ⟨⟩)).map tx).getD 5 ByteArray.empty).size ≤ 1048576 := ln_size (t ⟨⟩) 5 hsz
    have g5 : (!(nrOk 3 (((wds 10 (t ⟨⟩)).map tx).getD 5 ByteArray.empty))) = false := ntf (show gd (t ⟨⟩) 5 = true from allI_at hg (by omega))
    have b6 : ltB 6 (IntKind.wrap .i64 (((((wds 10 (t ⟨⟩)).length : Nat)) : Int) - 1)) = true := by rw [hwr, ltB_iff]; omega
    have x6 : (0 : Int) ≤ 6 ∧ (6 : Int) < ((((wds 10 (t ⟨⟩)).length : Nat)) : Int) := ⟨by omega, by unfold nl at hn; omega⟩
    have y6 : 6 < ((wds 10 (t ⟨⟩)).map tx).length := by rw [List.length_map]; unfold nl at hn; omega
    have z6 : (((wds 10 (t ⟨⟩)).map tx).getD 6 ByteArray.empty).size ≤ 1048576 := ln_size (t ⟨⟩) 6 hsz
    have g6 : (!(nrOk 3 (((wds 10 (t ⟨⟩)).map tx).getD 6 ByteArray.empty))) = false := ntf (show gd (t ⟨⟩) 6 = true from allI_at hg (by omega))
    have b7 : ltB 7 (IntKind.wrap .i64 (((((wds 10 (t ⟨⟩)).length : Nat)) : Int) - 1)) = true := by rw [hwr, ltB_iff]; omega
    have x7 : (0 : Int) ≤ 7 ∧ (7 : Int) < ((((wds 10 (t ⟨⟩)).length : Nat)) : Int) := ⟨by omega, by unfold nl at hn; omega⟩
    have y7 : 7 < ((wds 10 (t ⟨⟩)).map tx).length := by rw [List.length_map]; unfold nl at hn; omega
    have z7 : (((wds 10 (t ⟨⟩)).map tx).getD 7 ByteArray.empty).size ≤ 1048576 := ln_size (t ⟨⟩) 7 hsz
    have g7 : (!(nrOk 3 (((wds 10 (t ⟨⟩)).map tx).getD 7 ByteArray.empty))) = false := ntf (show gd (t ⟨⟩) 7 = true from allI_at hg (by omega))
    have b8 : ltB 8 (IntKind.wrap .i64 (((((wds 10 (t ⟨⟩)).length : Nat)) : Int) - 1)) = true := by rw [hwr, ltB_iff]; omega
    have x8 : (0 : Int) ≤ 8 ∧ (8 : Int) < ((((wds 10 (t ⟨⟩)).length : Nat)) : Int) := ⟨by omega, by unfold nl at hn; omega⟩
    have y8 : 8 < ((wds 10 (t ⟨⟩)).map tx).length := by rw [List.length_map]; unfold nl at hn; omega
    have z8 : (((wds 10 (t ⟨⟩)).map tx).getD 8 ByteArray.empty).size ≤ 1048576 := ln_size (t ⟨⟩) 8 hsz
    have g8 : (!(nrOk 3 (((wds 10 (t ⟨⟩)).map tx).getD 8 ByteArray.empty))) = false := ntf (show gd (t ⟨⟩) 8 = true from allI_at hg (by omega))
    have hw2 := congrArg not (hW.trans hv)
    refine ⟨_, HLe.refl _, ?_⟩
    cbv
    repeat' first | (refine Ob.mk ?_ ?_; (focus (first | exact hsp | exact hx0 | exact hx1 | exact x0 | exact y0 | exact z0 | exact x1 | exact y1 | exact z1 | exact x2 | exact y2 | exact z2 | exact x3 | exact y3 | exact z3 | exact x4 | exact y4 | exact z4 | exact x5 | exact y5 | exact z5 | exact x6 | exact y6 | exact z6 | exact x7 | exact y7 | exact z7 | exact x8 | exact y8 | exact z8 | exact p0a | exact p0b | exact p0c | exact hS | exact hnn | exact ⟨rfl, rfl, by decide⟩ | exact rfl)); cbv) | (refine Br.f t1 ?_; cbv) | (refine Br.f t2 ?_; cbv) | (refine Br.f t3 ?_; cbv) | (refine Br.t b0 ?_; cbv) | (refine Br.f g0 ?_; cbv) | (refine Br.t b1 ?_; cbv) | (refine Br.f g1 ?_; cbv) | (refine Br.t b2 ?_; cbv) | (refine Br.f g2 ?_; cbv) | (refine Br.t b3 ?_; cbv) | (refine Br.f g3 ?_; cbv) | (refine Br.t b4 ?_; cbv) | (refine Br.f g4 ?_; cbv) | (refine Br.t b5 ?_; cbv) | (refine Br.f g5 ?_; cbv) | (refine Br.t b6 ?_; cbv) | (refine Br.f g6 ?_; cbv) | (refine Br.t b7 ?_; cbv) | (refine Br.f g7 ?_; cbv) | (refine Br.t b8 ?_; cbv) | (refine Br.f g8 ?_; cbv) | (refine Br.f be ?_; cbv) | (refine Br.f hw2 ?_; cbv) | (refine Loop.mk 70 ?_; cbv) | (refine Gen.same ?_; cbv)
  · cases hs
set_option maxRecDepth 100000 in
set_option maxHeartbeats 8000000 in
theorem ok8F9 : Ok Tryd.prog 8 (sRF fun t => okA t = true ∧ nl t = 9 ∧ gdTo t 9 = true ∧ wOk t = false) := ok_of_wpaH (E := E8) mixed tts E8ok fn8 fun args H v H' o hs ho => by
  split at hs
  · rename_i t
    cases hs
    have hsz : (t ⟨⟩).size ≤ 1048576 := ho.two.2
    have hsp : (10 : Int) = (((10 : UInt8).toNat : Nat) : Int) ∧ (t ⟨⟩).size ≤ 1048576 := ⟨rfl, hsz⟩
    have hpos := wds_pos 10 (t ⟨⟩)
    have hle := wds_le 10 (t ⟨⟩)
    have hwr : (IntKind.wrap .i64 (((((wds 10 (t ⟨⟩)).length : Nat)) : Int) - 1)) = ((nl (t ⟨⟩) : Nat) : Int) := by rw [wrap64 (by omega) (by omega)]; unfold nl; omega
    have hp : 0 + (IntKind.wrap .i64 (((((wds 10 (t ⟨⟩)).length : Nat)) : Int) - 1)).toNat * 1 = nl (t ⟨⟩) := by rw [hwr, Int.toNat_natCast]; omega
    have htl : (!((((wds 10 (t ⟨⟩)).map tx).getD (0 + (IntKind.wrap .i64 (((((wds 10 (t ⟨⟩)).length : Nat)) : Int) - 1)).toNat * 1) ByteArray.empty).toList == ({ data := #[] } : ByteArray).toList)) = !(tl (t ⟨⟩)) := by rw [hp]; exact congrArg _ (tl_form _)
    have hx0 : 0 ≤ (IntKind.wrap .i64 (((((wds 10 (t ⟨⟩)).length : Nat)) : Int) - 1)) ∧ (IntKind.wrap .i64 (((((wds 10 (t ⟨⟩)).length : Nat)) : Int) - 1)) < ((((wds 10 (t ⟨⟩)).length : Nat)) : Int) := by rw [hwr]; unfold nl; omega
    have hx1 : 0 + (IntKind.wrap .i64 (((((wds 10 (t ⟨⟩)).length : Nat)) : Int) - 1)).toNat * 1 < ((wds 10 (t ⟨⟩)).map tx).length := by rw [hp, List.length_map]; unfold nl; omega
    have hA : okA (t ⟨⟩) = true := ho.two.1.1
    have hn : nl (t ⟨⟩) = 9 := ho.two.1.2.1
    have hg : gdTo (t ⟨⟩) 9 = true := ho.two.1.2.2.1
    have hv : wOk (t ⟨⟩) = false := ho.two.1.2.2.2
    have hA2 := okA_t hA
    have t1 : (!((((wds 10 (t ⟨⟩)).map tx).getD (0 + (IntKind.wrap .i64 (((((wds 10 (t ⟨⟩)).length : Nat)) : Int) - 1)).toNat * 1) ByteArray.empty).toList == ({ data := #[] } : ByteArray).toList)) = false := by rw [htl, hA2.1]; rfl
    have t2 : ltB (IntKind.wrap .i64 (((((wds 10 (t ⟨⟩)).length : Nat)) : Int) - 1)) 2 = false := by rw [hwr, ltB_no]; omega
    have t3 : ltB 9 (IntKind.wrap .i64 (((((wds 10 (t ⟨⟩)).length : Nat)) : Int) - 1)) = false := by rw [hwr, ltB_no]; omega
    have be : ltB 9 (IntKind.wrap .i64 (((((wds 10 (t ⟨⟩)).length : Nat)) : Int) - 1)) = false := by rw [hwr, ltB_no]; omega
    have gg0 : nrOk 3 (((wds 10 (t ⟨⟩)).map tx).getD 0 ByteArray.empty) = true := show gd (t ⟨⟩) 0 = true from allI_at hg (by omega)
    have p0a : v3a (((wds 10 (t ⟨⟩)).map tx).getD 0 ByteArray.empty) = n3 (ln (t ⟨⟩) 0) 0 := (v3_ok gg0).1
    have p0b : v3b (((wds 10 (t ⟨⟩)).map tx).getD 0 ByteArray.empty) = n3 (ln (t ⟨⟩) 0) 1 := (v3_ok gg0).2.1
    have p0c : v3c (((wds 10 (t ⟨⟩)).map tx).getD 0 ByteArray.empty) = n3 (ln (t ⟨⟩) 0) 2 := (v3_ok gg0).2.2
    have gg1 : nrOk 3 (((wds 10 (t ⟨⟩)).map tx).getD 1 ByteArray.empty) = true := show gd (t ⟨⟩) 1 = true from allI_at hg (by omega)
    have p1a : v3a (((wds 10 (t ⟨⟩)).map tx).getD 1 ByteArray.empty) = n3 (ln (t ⟨⟩) 1) 0 := (v3_ok gg1).1
    have p1b : v3b (((wds 10 (t ⟨⟩)).map tx).getD 1 ByteArray.empty) = n3 (ln (t ⟨⟩) 1) 1 := (v3_ok gg1).2.1
    have p1c : v3c (((wds 10 (t ⟨⟩)).map tx).getD 1 ByteArray.empty) = n3 (ln (t ⟨⟩) 1) 2 := (v3_ok gg1).2.2
    have gg2 : nrOk 3 (((wds 10 (t ⟨⟩)).map tx).getD 2 ByteArray.empty) = true := show gd (t ⟨⟩) 2 = true from allI_at hg (by omega)
    have p2a : v3a (((wds 10 (t ⟨⟩)).map tx).getD 2 ByteArray.empty) = n3 (ln (t ⟨⟩) 2) 0 := (v3_ok gg2).1
    have p2b : v3b (((wds 10 (t ⟨⟩)).map tx).getD 2 ByteArray.empty) = n3 (ln (t ⟨⟩) 2) 1 := (v3_ok gg2).2.1
    have p2c : v3c (((wds 10 (t ⟨⟩)).map tx).getD 2 ByteArray.empty) = n3 (ln (t ⟨⟩) 2) 2 := (v3_ok gg2).2.2
    have gg3 : nrOk 3 (((wds 10 (t ⟨⟩)).map tx).getD 3 ByteArray.empty) = true := show gd (t ⟨⟩) 3 = true from allI_at hg (by omega)
    have p3a : v3a (((wds 10 (t ⟨⟩)).map tx).getD 3 ByteArray.empty) = n3 (ln (t ⟨⟩) 3) 0 := (v3_ok gg3).1
    have p3b : v3b (((wds 10 (t ⟨⟩)).map tx).getD 3 ByteArray.empty) = n3 (ln (t ⟨⟩) 3) 1 := (v3_ok gg3).2.1
    have p3c : v3c (((wds 10 (t ⟨⟩)).map tx).getD 3 ByteArray.empty) = n3 (ln (t ⟨⟩) 3) 2 := (v3_ok gg3).2.2
    have gg4 : nrOk 3 (((wds 10 (t ⟨⟩)).map tx).getD 4 ByteArray.empty) = true := show gd (t ⟨⟩) 4 = true from allI_at hg (by omega)
    have p4a : v3a (((wds 10 (t ⟨⟩)).map tx).getD 4 ByteArray.empty) = n3 (ln (t ⟨⟩) 4) 0 := (v3_ok gg4).1
    have p4b : v3b (((wds 10 (t ⟨⟩)).map tx).getD 4 ByteArray.empty) = n3 (ln (t ⟨⟩) 4) 1 := (v3_ok gg4).2.1
    have p4c : v3c (((wds 10 (t ⟨⟩)).map tx).getD 4 ByteArray.empty) = n3 (ln (t ⟨⟩) 4) 2 := (v3_ok gg4).2.2
    have gg5 : nrOk 3 (((wds 10 (t ⟨⟩)).map tx).getD 5 ByteArray.empty) = true := show gd (t ⟨⟩) 5 = true from allI_at hg (by omega)
    have p5a : v3a (((wds 10 (t ⟨⟩)).map tx).getD 5 ByteArray.empty) = n3 (ln (t ⟨⟩) 5) 0 := (v3_ok gg5).1
    have p5b : v3b (((wds 10 (t ⟨⟩)).map tx).getD 5 ByteArray.empty) = n3 (ln (t ⟨⟩) 5) 1 := (v3_ok gg5).2.1
    have p5c : v3c (((wds 10 (t ⟨⟩)).map tx).getD 5 ByteArray.empty) = n3 (ln (t ⟨⟩) 5) 2 := (v3_ok gg5).2.2
    have gg6 : nrOk 3 (((wds 10 (t ⟨⟩)).map tx).getD 6 ByteArray.empty) = true := show gd (t ⟨⟩) 6 = true from allI_at hg (by omega)
    have p6a : v3a (((wds 10 (t ⟨⟩)).map tx).getD 6 ByteArray.empty) = n3 (ln (t ⟨⟩) 6) 0 := (v3_ok gg6).1
    have p6b : v3b (((wds 10 (t ⟨⟩)).map tx).getD 6 ByteArray.empty) = n3 (ln (t ⟨⟩) 6) 1 := (v3_ok gg6).2.1
    have p6c : v3c (((wds 10 (t ⟨⟩)).map tx).getD 6 ByteArray.empty) = n3 (ln (t ⟨⟩) 6) 2 := (v3_ok gg6).2.2
    have gg7 : nrOk 3 (((wds 10 (t ⟨⟩)).map tx).getD 7 ByteArray.empty) = true := show gd (t ⟨⟩) 7 = true from allI_at hg (by omega)
    have p7a : v3a (((wds 10 (t ⟨⟩)).map tx).getD 7 ByteArray.empty) = n3 (ln (t ⟨⟩) 7) 0 := (v3_ok gg7).1
    have p7b : v3b (((wds 10 (t ⟨⟩)).map tx).getD 7 ByteArray.empty) = n3 (ln (t ⟨⟩) 7) 1 := (v3_ok gg7).2.1
    have p7c : v3c (((wds 10 (t ⟨⟩)).map tx).getD 7 ByteArray.empty) = n3 (ln (t ⟨⟩) 7) 2 := (v3_ok gg7).2.2
    have gg8 : nrOk 3 (((wds 10 (t ⟨⟩)).map tx).getD 8 ByteArray.empty) = true := show gd (t ⟨⟩) 8 = true from allI_at hg (by omega)
    have p8a : v3a (((wds 10 (t ⟨⟩)).map tx).getD 8 ByteArray.empty) = n3 (ln (t ⟨⟩) 8) 0 := (v3_ok gg8).1
    have p8b : v3b (((wds 10 (t ⟨⟩)).map tx).getD 8 ByteArray.empty) = n3 (ln (t ⟨⟩) 8) 1 := (v3_ok gg8).2.1
    have p8c : v3c (((wds 10 (t ⟨⟩)).map tx).getD 8 ByteArray.empty) = n3 (ln (t ⟨⟩) 8) 2 := (v3_ok gg8).2.2
    have hL : spL (t ⟨⟩) = [n3 (ln (t ⟨⟩) 1) 0, n3 (ln (t ⟨⟩) 1) 1, n3 (ln (t ⟨⟩) 1) 2, n3 (ln (t ⟨⟩) 2) 0, n3 (ln (t ⟨⟩) 2) 1, n3 (ln (t ⟨⟩) 2) 2, n3 (ln (t ⟨⟩) 3) 0, n3 (ln (t ⟨⟩) 3) 1, n3 (ln (t ⟨⟩) 3) 2, n3 (ln (t ⟨⟩) 4) 0, n3 (ln (t ⟨⟩) 4) 1, n3 (ln (t ⟨⟩) 4) 2, n3 (ln (t ⟨⟩) 5) 0, n3 (ln (t ⟨⟩) 5) 1, n3 (ln (t ⟨⟩) 5) 2, n3 (ln (t ⟨⟩) 6) 0, n3 (ln (t ⟨⟩) 6) 1, n3 (ln (t ⟨⟩) 6) 2, n3 (ln (t ⟨⟩) 7) 0, n3 (ln (t ⟨⟩) 7) 1, n3 (ln (t ⟨⟩) 7) 2, n3 (ln (t ⟨⟩) 8) 0, n3 (ln (t ⟨⟩) 8) 1, n3 (ln (t ⟨⟩) 8) 2] := by unfold spL; rw [hn]; rfl
    have hS : [v3a (((wds 10 (t ⟨⟩)).map tx).getD 1 ByteArray.empty), v3b (((wds 10 (t ⟨⟩)).map tx).getD 1 ByteArray.empty), v3c (((wds 10 (t ⟨⟩)).map tx).getD 1 ByteArray.empty), v3a (((wds 10 (t ⟨⟩)).map tx).getD 2 ByteArray.empty), v3b (((wds 10 (t ⟨⟩)).map tx).getD 2 ByteArray.empty), v3c (((wds 10 (t ⟨⟩)).map tx).getD 2 ByteArray.empty), v3a (((wds 10 (t ⟨⟩)).map tx).getD 3 ByteArray.empty), v3b (((wds 10 (t ⟨⟩)).map tx).getD 3 ByteArray.empty), v3c (((wds 10 (t ⟨⟩)).map tx).getD 3 ByteArray.empty), v3a (((wds 10 (t ⟨⟩)).map tx).getD 4 ByteArray.empty), v3b (((wds 10 (t ⟨⟩)).map tx).getD 4 ByteArray.empty), v3c (((wds 10 (t ⟨⟩)).map tx).getD 4 ByteArray.empty), v3a (((wds 10 (t ⟨⟩)).map tx).getD 5 ByteArray.empty), v3b (((wds 10 (t ⟨⟩)).map tx).getD 5 ByteArray.empty), v3c (((wds 10 (t ⟨⟩)).map tx).getD 5 ByteArray.empty), v3a (((wds 10 (t ⟨⟩)).map tx).getD 6 ByteArray.empty), v3b (((wds 10 (t ⟨⟩)).map tx).getD 6 ByteArray.empty), v3c (((wds 10 (t ⟨⟩)).map tx).getD 6 ByteArray.empty), v3a (((wds 10 (t ⟨⟩)).map tx).getD 7 ByteArray.empty), v3b (((wds 10 (t ⟨⟩)).map tx).getD 7 ByteArray.empty), v3c (((wds 10 (t ⟨⟩)).map tx).getD 7 ByteArray.empty), v3a (((wds 10 (t ⟨⟩)).map tx).getD 8 ByteArray.empty), v3b (((wds 10 (t ⟨⟩)).map tx).getD 8 ByteArray.empty), v3c (((wds 10 (t ⟨⟩)).map tx).getD 8 ByteArray.empty)] = spL (t ⟨⟩) := by rw [hL, p1a, p1b, p1c, p2a, p2b, p2c, p3a, p3b, p3c, p4a, p4b, p4c, p5a, p5b, p5c, p6a, p6b, p6c, p7a, p7b, p7c, p8a, p8b, p8c]
    have hnn : 8 = nl (t ⟨⟩) - 1 := by omega
    have hW : webOk (v3a (((wds 10 (t ⟨⟩)).map tx).getD 0 ByteArray.empty)) (v3b (((wds 10 (t ⟨⟩)).map tx).getD 0 ByteArray.empty)) (v3c (((wds 10 (t ⟨⟩)).map tx).getD 0 ByteArray.empty)) [v3a (((wds 10 (t ⟨⟩)).map tx).getD 1 ByteArray.empty), v3b (((wds 10 (t ⟨⟩)).map tx).getD 1 ByteArray.empty), v3c (((wds 10 (t ⟨⟩)).map tx).getD 1 ByteArray.empty), v3a (((wds 10 (t ⟨⟩)).map tx).getD 2 ByteArray.empty), v3b (((wds 10 (t ⟨⟩)).map tx).getD 2 ByteArray.empty), v3c (((wds 10 (t ⟨⟩)).map tx).getD 2 ByteArray.empty), v3a (((wds 10 (t ⟨⟩)).map tx).getD 3 ByteArray.empty), v3b (((wds 10 (t ⟨⟩)).map tx).getD 3 ByteArray.empty), v3c (((wds 10 (t ⟨⟩)).map tx).getD 3 ByteArray.empty), v3a (((wds 10 (t ⟨⟩)).map tx).getD 4 ByteArray.empty), v3b (((wds 10 (t ⟨⟩)).map tx).getD 4 ByteArray.empty), v3c (((wds 10 (t ⟨⟩)).map tx).getD 4 ByteArray.empty), v3a (((wds 10 (t ⟨⟩)).map tx).getD 5 ByteArray.empty), v3b (((wds 10 (t ⟨⟩)).map tx).getD 5 ByteArray.empty), v3c (((wds 10 (t ⟨⟩)).map tx).getD 5 ByteArray.empty), v3a (((wds 10 (t ⟨⟩)).map tx).getD 6 ByteArray.empty), v3b (((wds 10 (t ⟨⟩)).map tx).getD 6 ByteArray.empty), v3c (((wds 10 (t ⟨⟩)).map tx).getD 6 ByteArray.empty), v3a (((wds 10 (t ⟨⟩)).map tx).getD 7 ByteArray.empty), v3b (((wds 10 (t ⟨⟩)).map tx).getD 7 ByteArray.empty), v3c (((wds 10 (t ⟨⟩)).map tx).getD 7 ByteArray.empty), v3a (((wds 10 (t ⟨⟩)).map tx).getD 8 ByteArray.empty), v3b (((wds 10 (t ⟨⟩)).map tx).getD 8 ByteArray.empty), v3c (((wds 10 (t ⟨⟩)).map tx).getD 8 ByteArray.empty)] 8 = wOk (t ⟨⟩) := by unfold wOk; rw [hS, p0a, p0b, p0c]; exact congrArg (webOk _ _ _ _) hnn
    have b0 : ltB 0 (IntKind.wrap .i64 (((((wds 10 (t ⟨⟩)).length : Nat)) : Int) - 1)) = true := by rw [hwr, ltB_iff]; omega
    have x0 : (0 : Int) ≤ 0 ∧ (0 : Int) < ((((wds 10 (t ⟨⟩)).length : Nat)) : Int) := ⟨by omega, by unfold nl at hn; omega⟩
    have y0 : 0 < ((wds 10 (t ⟨⟩)).map tx).length := by rw [List.length_map]; unfold nl at hn; omega
    have z0 : (((wds 10 (t ⟨⟩)).map tx).getD 0 ByteArray.empty).size ≤ 1048576 := ln_size (t ⟨⟩) 0 hsz
    have g0 : (!(nrOk 3 (((wds 10 (t ⟨⟩)).map tx).getD 0 ByteArray.empty))) = false := ntf (show gd (t ⟨⟩) 0 = true from allI_at hg (by omega))
    have b1 : ltB 1 (IntKind.wrap .i64 (((((wds 10 (t ⟨⟩)).length : Nat)) : Int) - 1)) = true := by rw [hwr, ltB_iff]; omega
    have x1 : (0 : Int) ≤ 1 ∧ (1 : Int) < ((((wds 10 (t ⟨⟩)).length : Nat)) : Int) := ⟨by omega, by unfold nl at hn; omega⟩
    have y1 : 1 < ((wds 10 (t ⟨⟩)).map tx).length := by rw [List.length_map]; unfold nl at hn; omega
    have z1 : (((wds 10 (t ⟨⟩)).map tx).getD 1 ByteArray.empty).size ≤ 1048576 := ln_size (t ⟨⟩) 1 hsz
    have g1 : (!(nrOk 3 (((wds 10 (t ⟨⟩)).map tx).getD 1 ByteArray.empty))) = false := ntf (show gd (t ⟨⟩) 1 = true from allI_at hg (by omega))
    have b2 : ltB 2 (IntKind.wrap .i64 (((((wds 10 (t ⟨⟩)).length : Nat)) : Int) - 1)) = true := by rw [hwr, ltB_iff]; omega
    have x2 : (0 : Int) ≤ 2 ∧ (2 : Int) < ((((wds 10 (t ⟨⟩)).length : Nat)) : Int) := ⟨by omega, by unfold nl at hn; omega⟩
    have y2 : 2 < ((wds 10 (t ⟨⟩)).map tx).length := by rw [List.length_map]; unfold nl at hn; omega
    have z2 : (((wds 10 (t ⟨⟩)).map tx).getD 2 ByteArray.empty).size ≤ 1048576 := ln_size (t ⟨⟩) 2 hsz
    have g2 : (!(nrOk 3 (((wds 10 (t ⟨⟩)).map tx).getD 2 ByteArray.empty))) = false := ntf (show gd (t ⟨⟩) 2 = true from allI_at hg (by omega))
    have b3 : ltB 3 (IntKind.wrap .i64 (((((wds 10 (t ⟨⟩)).length : Nat)) : Int) - 1)) = true := by rw [hwr, ltB_iff]; omega
    have x3 : (0 : Int) ≤ 3 ∧ (3 : Int) < ((((wds 10 (t ⟨⟩)).length : Nat)) : Int) := ⟨by omega, by unfold nl at hn; omega⟩
    have y3 : 3 < ((wds 10 (t ⟨⟩)).map tx).length := by rw [List.length_map]; unfold nl at hn; omega
    have z3 : (((wds 10 (t ⟨⟩)).map tx).getD 3 ByteArray.empty).size ≤ 1048576 := ln_size (t ⟨⟩) 3 hsz
    have g3 : (!(nrOk 3 (((wds 10 (t ⟨⟩)).map tx).getD 3 ByteArray.empty))) = false := ntf (show gd (t ⟨⟩) 3 = true from allI_at hg (by omega))
    have b4 : ltB 4 (IntKind.wrap .i64 (((((wds 10 (t ⟨⟩)).length : Nat)) : Int) - 1)) = true := by rw [hwr, ltB_iff]; omega
    have x4 : (0 : Int) ≤ 4 ∧ (4 : Int) < ((((wds 10 (t ⟨⟩)).length : Nat)) : Int) := ⟨by omega, by unfold nl at hn; omega⟩
    have y4 : 4 < ((wds 10 (t ⟨⟩)).map tx).length := by rw [List.length_map]; unfold nl at hn; omega
    have z4 : (((wds 10 (t ⟨⟩)).map tx).getD 4 ByteArray.empty).size ≤ 1048576 := ln_size (t ⟨⟩) 4 hsz
    have g4 : (!(nrOk 3 (((wds 10 (t ⟨⟩)).map tx).getD 4 ByteArray.empty))) = false := ntf (show gd (t ⟨⟩) 4 = true from allI_at hg (by omega))
    have b5 : ltB 5 (IntKind.wrap .i64 (((((wds 10 (t ⟨⟩)).length : Nat)) : Int) - 1)) = true := by rw [hwr, ltB_iff]; omega
    have x5 : (0 : Int) ≤ 5 ∧ (5 : Int) < ((((wds 10 (t ⟨⟩)).length : Nat)) : Int) := ⟨by omega, by unfold nl at hn; omega⟩
    have y5 : 5 < ((wds 10 (t ⟨⟩)).map tx).length := by rw [List.length_map]; unfold nl at hn; omega
    have z5 : (((wds 10 (t ⟨⟩)).map tx).getD 5 ByteArray.empty).size ≤ 1048576 := ln_size (t ⟨⟩) 5 hsz
    have g5 : (!(nrOk 3 (((wds 10 (t ⟨⟩)).map tx).getD 5 ByteArray.empty))) = false := ntf (show gd (t ⟨⟩) 5 = true from allI_at hg (by omega))
    have b6 : ltB 6 (IntKind.wrap .i64 (((((wds 10 (t ⟨⟩)).length : Nat)) : Int) - 1)) = true := by rw [hwr, ltB_iff]; omega
    have x6 : (0 : Int) ≤ 6 ∧ (6 : Int) < ((((wds 10 (t ⟨⟩)).length : Nat)) : Int) := ⟨by omega, by unfold nl at hn; omega⟩
    have y6 : 6 < ((wds 10 (t ⟨⟩)).map tx).length := by rw [List.length_map]; unfold nl at hn; omega
    have z6 : (((wds 10 (t ⟨⟩)).map tx).getD 6 ByteArray.empty).size ≤ 1048576 := ln_size (t ⟨⟩) 6 hsz
    have g6 : (!(nrOk 3 (((wds 10 (t ⟨⟩)).map tx).getD 6 ByteArray.empty))) = false := ntf (show gd (t ⟨⟩) 6 = true from allI_at hg (by omega))
    have b7 : ltB 7 (IntKind.wrap .i64 (((((wds 10 (t ⟨⟩)).length : Nat)) : Int) - 1)) = true := by rw [hwr, ltB_iff]; omega
    have x7 : (0 : Int) ≤ 7 ∧ (7 : Int) < ((((wds 10 (t ⟨⟩)).length : Nat)) : Int) := ⟨by omega, by unfold nl at hn; omega⟩
    have y7 : 7 < ((wds 10 (t ⟨⟩)).map tx).length := by rw [List.length_map]; unfold nl at hn; omega
    have z7 : (((wds 10 (t ⟨⟩)).map tx).getD 7 ByteArray.empty).size ≤ 1048576 := ln_size (t ⟨⟩) 7 hsz
    have g7 : (!(nrOk 3 (((wds 10 (t ⟨⟩)).map tx).getD 7 ByteArray.empty))) = false := ntf (show gd (t ⟨⟩) 7 = true from allI_at hg (by omega))
    have b8 : ltB 8 (IntKind.wrap .i64 (((((wds 10 (t ⟨⟩)).length : Nat)) : Int) - 1)) = true := by rw [hwr, ltB_iff]; omega
    have x8 : (0 : Int) ≤ 8 ∧ (8 : Int) < ((((wds 10 (t ⟨⟩)).length : Nat)) : Int) := ⟨by omega, by unfold nl at hn; omega⟩
    have y8 : 8 < ((wds 10 (t ⟨⟩)).map tx).length := by rw [List.length_map]; unfold nl at hn; omega
    have z8 : (((wds 10 (t ⟨⟩)).map tx).getD 8 ByteArray.empty).size ≤ 1048576 := ln_size (t ⟨⟩) 8 hsz
    have g8 : (!(nrOk 3 (((wds 10 (t ⟨⟩)).map tx).getD 8 ByteArray.empty))) = false := ntf (show gd (t ⟨⟩) 8 = true from allI_at hg (by omega))
    have hw2 := congrArg not (hW.trans hv)
    refine ⟨_, HLe.refl _, ?_⟩
    cbv
    repeat' first | (refine Ob.mk ?_ ?_; (focus (first | exact hsp | exact hx0 | exact hx1 | exact x0 | exact y0 | exact z0 | exact x1 | exact y1 | exact z1 | exact x2 | exact y2 | exact z2 | exact x3 | exact y3 | exact z3 | exact x4 | exact y4 | exact z4 | exact x5 | exact y5 | exact z5 | exact x6 | exact y6 | exact z6 | exact x7 | exact y7 | exact z7 | exact x8 | exact y8 | exact z8 | exact p0a | exact p0b | exact p0c | exact hS | exact hnn | exact ⟨rfl, rfl, by decide⟩ | exact rfl)); cbv) | (refine Br.f t1 ?_; cbv) | (refine Br.f t2 ?_; cbv) | (refine Br.f t3 ?_; cbv) | (refine Br.t b0 ?_; cbv) | (refine Br.f g0 ?_; cbv) | (refine Br.t b1 ?_; cbv) | (refine Br.f g1 ?_; cbv) | (refine Br.t b2 ?_; cbv) | (refine Br.f g2 ?_; cbv) | (refine Br.t b3 ?_; cbv) | (refine Br.f g3 ?_; cbv) | (refine Br.t b4 ?_; cbv) | (refine Br.f g4 ?_; cbv) | (refine Br.t b5 ?_; cbv) | (refine Br.f g5 ?_; cbv) | (refine Br.t b6 ?_; cbv) | (refine Br.f g6 ?_; cbv) | (refine Br.t b7 ?_; cbv) | (refine Br.f g7 ?_; cbv) | (refine Br.t b8 ?_; cbv) | (refine Br.f g8 ?_; cbv) | (refine Br.f be ?_; cbv) | (refine Br.t hw2 ?_; cbv) | (refine Loop.mk 70 ?_; cbv) | (refine Gen.same ?_; cbv)
  · cases hs
end Go.Proofs.YteifneielgnniaaDoor.Sh
end
