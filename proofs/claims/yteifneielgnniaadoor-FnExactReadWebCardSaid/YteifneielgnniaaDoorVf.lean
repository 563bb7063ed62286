/- The reference reads a web: a line that is bad. No condition. -/
import Derived.Test.YteifneielgnniaaDoorVe
set_option linter.unusedVariables false
set_option linter.unusedSimpArgs false
set_option linter.unusedSectionVars false
section
namespace Go.Proofs.YteifneielgnniaaDoor.Sh
open Go Go.Proofs
attribute [local irreducible] wds tx rn rnC rnOk nrOk v3a v3b v3c wAt n3 webOk spL tl nl wOk
set_option maxRecDepth 100000 in
set_option maxHeartbeats 8000000 in
theorem ok8B0 : Ok Tryd.prog 8 (sRF fun t => okA t = true ∧ 0 < nl t ∧ gdTo t 0 = true ∧ gd t 0 = false) := ok_of_wpaH (E := E8) mixed tts E8ok fn8 fun args H v H' o hs ho => by
  split at hs
  · rename_i t
    cases hs
    have hsz : (t ⟨⟩).size ≤ 1048576 := ho.two.2
    have hsp : (10 : Int) = (((10 : UInt8).toNat : Nat) : Int) ∧ (t ⟨⟩).size ≤ 1048576 := ⟨rfl, hsz⟩
    have hpos := wds_pos 10 (t ⟨⟩)
    have hle := wds_le 10 (t ⟨⟩)
    have hwr : (IntKind.wrap .i64 (((((wds 10 (t ⟨⟩)).length : Nat)) : Int) - 1)) = ((nl (t ⟨⟩) : Nat) : Int) := by rw [wrap64 (by omega) (by omega)]; unfold nl; omega
    have hp : 0 + (IntKind.wrap .i64 (((((wds 10 (t ⟨⟩)).length : Nat)) : Int) - 1)).toNat * 1 = nl (t ⟨⟩) := by rw [hwr, Int.toNat_natCast]; omega
    have htl : (!((((wds 10 (t ⟨⟩)).map tx).getD (0 + (IntKind.wrap .i64 (((((wds 10 (t ⟨⟩)).length : Nat)) : Int) - 1)).toNat * 1) ByteArray.empty).toList == ({ data := #[] } : ByteArray).toList)) = !(tl (t ⟨⟩)) := by rw [hp]; exact congrArg _ (tl_form _)
    have hx0 : 0 ≤ (IntKind.wrap .i64 (((((wds 10 (t ⟨⟩)).length : Nat)) : Int) - 1)) ∧ (IntKind.wrap .i64 (((((wds 10 (t ⟨⟩)).length : Nat)) : Int) - 1)) < ((((wds 10 (t ⟨⟩)).length : Nat)) : Int) := by rw [hwr]; unfold nl; omega
    have hx1 : 0 + (IntKind.wrap .i64 (((((wds 10 (t ⟨⟩)).length : Nat)) : Int) - 1)).toNat * 1 < ((wds 10 (t ⟨⟩)).map tx).length := by rw [hp, List.length_map]; unfold nl; omega
    have hA : okA (t ⟨⟩) = true := ho.two.1.1
    have hn : 0 < nl (t ⟨⟩) := ho.two.1.2.1
    have hg : gdTo (t ⟨⟩) 0 = true := ho.two.1.2.2.1
    have hb : gd (t ⟨⟩) 0 = false := ho.two.1.2.2.2
    have hA2 := okA_t hA
    have t1 : (!((((wds 10 (t ⟨⟩)).map tx).getD (0 + (IntKind.wrap .i64 (((((wds 10 (t ⟨⟩)).length : Nat)) : Int) - 1)).toNat * 1) ByteArray.empty).toList == ({ data := #[] } : ByteArray).toList)) = false := by rw [htl, hA2.1]; rfl
    have t2 : ltB (IntKind.wrap .i64 (((((wds 10 (t ⟨⟩)).length : Nat)) : Int) - 1)) 2 = false := by rw [hwr, ltB_no]; omega
    have t3 : ltB 9 (IntKind.wrap .i64 (((((wds 10 (t ⟨⟩)).length : Nat)) : Int) - 1)) = false := by rw [hwr, ltB_no]; omega
    have b0 : ltB 0 (IntKind.wrap .i64 (((((wds 10 (t ⟨⟩)).length : Nat)) : Int) - 1)) = true := by rw [hwr, ltB_iff]; omega
    have x0 : (0 : Int) ≤ 0 ∧ (0 : Int) < ((((wds 10 (t ⟨⟩)).length : Nat)) : Int) := ⟨by omega, by unfold nl at hn; omega⟩
    have y0 : 0 < ((wds 10 (t ⟨⟩)).map tx).length := by rw [List.length_map]; unfold nl at hn; omega
    have z0 : (((wds 10 (t ⟨⟩)).map tx).getD 0 ByteArray.empty).size ≤ 1048576 := ln_size (t ⟨⟩) 0 hsz
    have g0 : (!(nrOk 3 (((wds 10 (t ⟨⟩)).map tx).getD 0 ByteArray.empty))) = true := nft (show gd (t ⟨⟩) 0 = false from hb)
    refine ⟨_, HLe.refl _, ?_⟩
    cbv
    repeat' first | (refine Ob.mk ?_ ?_; (focus (first | exact hsp | exact hx0 | exact hx1 | exact x0 | exact y0 | exact z0 | exact rfl)); cbv) | (refine Br.f t1 ?_; cbv) | (refine Br.f t2 ?_; cbv) | (refine Br.f t3 ?_; cbv) | (refine Br.t b0 ?_; cbv) | (refine Br.t g0 ?_; cbv) | (refine Loop.mk 70 ?_; cbv) | (refine Gen.same ?_; cbv)
  · cases hs
set_option maxRecDepth 100000 in
set_option maxHeartbeats 8000000 in
theorem ok8B1 : Ok Tryd.prog 8 (sRF fun t => okA t = true ∧ 1 < nl t ∧ gdTo t 1 = true ∧ gd t 1 = false) := ok_of_wpaH (E := E8) mixed tts E8ok fn8 fun args H v H' o hs ho => by
  split at hs
  · rename_i t
    cases hs
    have hsz : (t ⟨⟩).size ≤ 1048576 := ho.two.2
    have hsp : (10 : Int) = (((10 : UInt8).toNat : Nat) : Int) ∧ (t ⟨⟩).size ≤ 1048576 := ⟨rfl, hsz⟩
    have hpos := wds_pos 10 (t ⟨⟩)
    have hle := wds_le 10 (t ⟨⟩)
    have hwr : (IntKind.wrap .i64 (((((wds 10 (t ⟨⟩)).length : Nat)) : Int) - 1)) = ((nl (t ⟨⟩) : Nat) : Int) := by rw [wrap64 (by omega) (by omega)]; unfold nl; omega
    have hp : 0 + (IntKind.wrap .i64 (((((wds 10 (t ⟨⟩)).length : Nat)) : Int) - 1)).toNat * 1 = nl (t ⟨⟩) := by rw [hwr, Int.toNat_natCast]; omega
    have htl : (!((((wds 10 (t ⟨⟩)).map tx).getD (0 + (IntKind.wrap .i64 (((((wds 10 (t ⟨⟩)).length : Nat)) : Int) - 1)).toNat * 1) ByteArray.empty).toList == ({ data := #[] } : ByteArray).toList)) = !(tl (t ⟨⟩)) := by rw [hp]; exact congrArg _ (tl_form _)
    have hx0 : 0 ≤ (IntKind.wrap .i64 (((((wds 10 (t ⟨⟩)).length : Nat)) : Int) - 1)) ∧ (IntKind.wrap .i64 (((((wds 10 (t ⟨⟩)).length : Nat)) : Int) - 1)) < ((((wds 10 (t ⟨⟩)).length : Nat)) : Int) := by rw [hwr]; unfold nl; omega
    have hx1 : 0 + (IntKind.wrap .i64 (((((wds 10 (t ⟨⟩)).length : Nat)) : Int) - 1)).toNat * 1 < ((wds 10 (t ⟨⟩)).map tx).length := by rw [hp, List.length_map]; unfold nl; omega
    have hA : okA (t ⟨⟩) = true := ho.two.1.1
    have hn : 1 < nl (t ⟨⟩) := ho.two.1.2.1
    have hg : gdTo (t ⟨⟩) 1 = true := ho.two.1.2.2.1
    have hb : gd (t ⟨⟩) 1 = false := ho.two.1.2.2.2
    have hA2 := okA_t hA
    have t1 : (!((((wds 10 (t ⟨⟩)).map tx).getD (0 + (IntKind.wrap .i64 (((((wds 10 (t ⟨⟩)).length : Nat)) : Int) - 1)).toNat * 1) ByteArray.empty).toList == ({ data := #[] } : ByteArray).toList)) = false := by rw [htl, hA2.1]; rfl
    have t2 : ltB (IntKind.wrap .i64 (((((wds 10 (t ⟨⟩)).length : Nat)) : Int) - 1)) 2 = false := by rw [hwr, ltB_no]; omega
    have t3 : ltB 9 (IntKind.wrap .i64 (((((wds 10 (t ⟨⟩)).length : Nat)) : Int) - 1)) = false := by rw [hwr, ltB_no]; omega
    have b0 : ltB 0 (IntKind.wrap .i64 (((((wds 10 (t ⟨⟩)).length : Nat)) : Int) - 1)) = true := by rw [hwr, ltB_iff]; omega
    have x0 : (0 : Int) ≤ 0 ∧ (0 : Int) < ((((wds 10 (t ⟨⟩)).length : Nat)) : Int) := ⟨by omega, by unfold nl at hn; omega⟩
    have y0 : 0 < ((wds 10 (t ⟨⟩)).map tx).length := by rw [List.length_map]; unfold nl at hn; omega
    have z0 : (((wds 10 (t ⟨⟩)).map tx).getD 0 ByteArray.empty).size ≤ 1048576 := ln_size (t ⟨⟩) 0 hsz
    have g0 : (!(nrOk 3 (((wds 10 (t ⟨⟩)).map tx).getD 0 ByteArray.empty))) = false := ntf (show gd (t ⟨⟩) 0 = true from allI_at hg (by omega))
    have b1 : ltB 1 (IntKind.wrap .i64 (((((wds 10 (t ⟨⟩)).length : Nat)) : Int) - 1)) = true := by rw [hwr, ltB_iff]; omega
    have x1 : (0 : Int) ≤ 1 ∧ (1 : Int) < ((((wds 10 (t ⟨⟩)).length : Nat)) : Int) := ⟨by omega, by unfold nl at hn; omega⟩
    have y1 : 1 < ((wds 10 (t ⟨⟩)).map tx).length := by rw [List.length_map]; unfold nl at hn; omega
    have z1 : (((wds 10 (t ⟨⟩)).map tx).getD 1 ByteArray.empty).size ≤ 1048576 := ln_size (t ⟨⟩) 1 hsz
    have g1 : (!(nrOk 3 (((wds 10 (t ⟨⟩)).map tx).getD 1 ByteArray.empty))) = true := nft (show gd (t ⟨⟩) 1 = false from hb)
    refine ⟨_, HLe.refl _, ?_⟩
    cbv
    repeat' first | (refine Ob.mk ?_ ?_; (focus (first | exact hsp | exact hx0 | exact hx1 | exact x0 | exact y0 | exact z0 | exact x1 | exact y1 | exact z1 | exact rfl)); cbv) | (refine Br.f t1 ?_; cbv) | (refine Br.f t2 ?_; cbv) | (refine Br.f t3 ?_; cbv) | (refine Br.t b0 ?_; cbv) | (refine Br.f g0 ?_; cbv) | (refine Br.t b1 ?_; cbv) | (refine Br.t g1 ?_; cbv) | (refine Loop.mk 70 ?_; cbv) | (refine Gen.same ?_; cbv)
  · cases hs
set_option maxRecDepth 100000 in
set_option maxHeartbeats 8000000 in
theorem ok8B2 : Ok Tryd.prog 8 (sRF fun t => okA t = true ∧ 2 < nl t ∧ gdTo t 2 = true ∧ gd t 2 = false) := ok_of_wpaH (E := E8) mixed tts E8ok fn8 fun args H v H' o hs ho => by
  split at hs
  · rename_i t
    cases hs
    have hsz : (t ⟨⟩).size ≤ 1048576 := ho.two.2
    have hsp : (10 : Int) = (((10 : UInt8).toNat : Nat) : Int) ∧ (t ⟨⟩).size ≤ 1048576 := ⟨rfl, hsz⟩
    have hpos := wds_pos 10 (t ⟨⟩)
    have hle := wds_le 10 (t ⟨⟩)
    have hwr : (IntKind.wrap .i64 (((((wds 10 (t ⟨⟩)).length : Nat)) : Int) - 1)) = ((nl (t ⟨⟩) : Nat) : Int) := by rw [wrap64 (by omega) (by omega)]; unfold nl; omega
    have hp : 0 + (IntKind.wrap .i64 (((((wds 10 (t ⟨⟩)).length : Nat)) : Int) - 1)).toNat * 1 = nl (t ⟨⟩) := by rw [hwr, Int.toNat_natCast]; omega
    have htl : (!((((wds 10 (t ⟨⟩)).map tx).getD (0 + (IntKind.wrap .i64 (((((wds 10 (t ⟨⟩)).length : Nat)) : Int) - 1)).toNat * 1) ByteArray.empty).toList == ({ data := #[] } : ByteArray).toList)) = !(tl (t ⟨⟩)) := by rw [hp]; exact congrArg _ (tl_form _)
    have hx0 : 0 ≤ (IntKind.wrap .i64 (((((wds 10 (t ⟨⟩)).length : Nat)) : Int) - 1)) ∧ (IntKind.wrap .i64 (((((wds 10 (t ⟨⟩)).length : Nat)) : Int) - 1)) < ((((wds 10 (t ⟨⟩)).length : Nat)) : Int) := by rw [hwr]; unfold nl; omega
    have hx1 : 0 + (IntKind.wrap .i64 (((((wds 10 (t ⟨⟩)).length : Nat)) : Int) - 1)).toNat * 1 < ((wds 10 (t ⟨⟩)).map tx).length := by rw [hp, List.length_map]; unfold nl; omega
    have hA : okA (t ⟨⟩) = true := ho.two.1.1
    have hn : 2 < nl (t ⟨⟩) := ho.two.1.2.1
    have hg : gdTo (t ⟨⟩) 2 = true := ho.two.1.2.2.1
    have hb : gd (t ⟨⟩) 2 = false := ho.two.1.2.2.2
    have hA2 := okA_t hA
    have t1 : (!((((wds 10 (t ⟨⟩)).map tx).getD (0 + (IntKind.wrap .i64 (((((wds 10 (t ⟨⟩)).length : Nat)) : Int) - 1)).toNat * 1) ByteArray.empty).toList == ({ data := #[] } : ByteArray).toList)) = false := by rw [htl, hA2.1]; rfl
    have t2 : ltB (IntKind.wrap .i64 (((((wds 10 (t ⟨⟩)).length : Nat)) : Int) - 1)) 2 = false := by rw [hwr, ltB_no]; omega
    have t3 : ltB 9 (IntKind.wrap .i64 (((((wds 10 (t ⟨⟩)).length : Nat)) : Int) - 1)) = false := by rw [hwr, ltB_no]; omega
    have b0 : ltB 0 (IntKind.wrap .i64 (((((wds 10 (t ⟨⟩)).length : Nat)) : Int) - 1)) = true := by rw [hwr, ltB_iff]; omega
    have x0 : (0 : Int) ≤ 0 ∧ (0 : Int) < ((((wds 10 (t ⟨⟩)).length : Nat)) : Int) := ⟨by omega, by unfold nl at hn; omega⟩
    have y0 : 0 < ((wds 10 (t ⟨⟩)).map tx).length := by rw [List.length_map]; unfold nl at hn; omega
    have z0 : (((wds 10 (t ⟨⟩)).map tx).getD 0 ByteArray.empty).size ≤ 1048576 := ln_size (t ⟨⟩) 0 hsz
    have g0 : (!(nrOk 3 (((wds 10 (t ⟨⟩)).map tx).getD 0 ByteArray.empty))) = false := ntf (show gd (t ⟨⟩) 0 = true from allI_at hg (by omega))
    have b1 : ltB 1 (IntKind.wrap .i64 (((((wds 10 (t ⟨⟩)).length : Nat)) : Int) - 1)) = true := by rw [hwr, ltB_iff]; omega
    have x1 : (0 : Int) ≤ 1 ∧ (1 : Int) < ((((wds 10 (t ⟨⟩)).length : Nat)) : Int) := ⟨by omega, by unfold nl at hn; omega⟩
    have y1 : 1 < ((wds 10 (t ⟨⟩)).map tx).length := by rw [List.length_map]; unfold nl at hn; omega
    have z1 : (((wds 10 (t ⟨⟩)).map tx).getD 1 ByteArray.empty).size ≤ 1048576 := ln_size (t ⟨⟩) 1 hsz
    have g1 : (!(nrOk 3 (((wds 10 (t ⟨⟩)).map tx).getD 1 ByteArray.empty))) = false := ntf (show gd (t ⟨⟩) 1 = true from allI_at hg (by omega))
    have b2 : ltB 2 (IntKind.wrap .i64 (((((wds 10 (t ⟨⟩)).length : Nat)) : Int) - 1)) = true := by rw [hwr, ltB_iff]; omega
    have x2 : (0 : Int) ≤ 2 ∧ (2 : Int) < ((((wds 10 (t ⟨⟩)).length : Nat)) : Int) := ⟨by omega, by unfold nl at hn; omega⟩
    have y2 : 2 < ((wds 10 (t ⟨⟩)).map tx).length := by rw [List.length_map]; unfold nl at hn; omega
    have z2 : (((wds 10 (t ⟨⟩)).map tx).getD 2 ByteArray.empty).size ≤ 1048576 := ln_size (t ⟨⟩) 2 hsz
    have g2 : (!(nrOk 3 (((wds 10 (t ⟨⟩)).map tx).getD 2 ByteArray.empty))) = true := nft (show gd (t ⟨⟩) 2 = false from hb)
    refine ⟨_, HLe.refl _, ?_⟩
    cbv
    repeat' first | (refine Ob.mk ?_ ?_; (focus (first | exact hsp | exact hx0 | exact hx1 | exact x0 | exact y0 | exact z0 | exact x1 | exact y1 | exact z1 | exact x2 | exact y2 | exact z2 | exact rfl)); cbv) | (refine Br.f t1 ?_; cbv) | (refine Br.f t2 ?_; cbv) | (refine Br.f t3 ?_; cbv) | (refine Br.t b0 ?_; cbv) | (refine Br.f g0 ?_; cbv) | (refine Br.t b1 ?_; cbv) | (refine Br.f g1 ?_; cbv) | (refine Br.t b2 ?_; cbv) | (refine Br.t g2 ?_; cbv) | (refine Loop.mk 70 ?_; cbv) | (refine Gen.same ?_; cbv)
  · cases hs
set_option maxRecDepth 100000 in
set_option maxHeartbeats 8000000 in
theorem ok8B3 : Ok Tryd.prog 8 (sRF fun t => okA t = true ∧ 3 < nl t ∧ gdTo t 3 = true ∧ gd t 3 = false) := ok_of_wpaH (E := E8) mixed tts E8ok fn8 fun args H v H' o hs ho => by
  split at hs
  · rename_i t
    cases hs
    have hsz : (t ⟨⟩).size ≤ 1048576 := ho.two.2
    have hsp : (10 : Int) = (((10 : UInt8).toNat : Nat) : Int) ∧ (t ⟨⟩).size ≤ 1048576 := ⟨rfl, hsz⟩
    have hpos := wds_pos 10 (t ⟨⟩)
    have hle := wds_le 10 (t ⟨⟩)
    have hwr : (IntKind.wrap .i64 (((((wds 10 (t ⟨⟩)).length : Nat)) : Int) - 1)) = ((nl (t ⟨⟩) : Nat) : Int) := by rw [wrap64 (by omega) (by omega)]; unfold nl; omega
    have hp : 0 + (IntKind.wrap .i64 (((((wds 10 (t ⟨⟩)).length : Nat)) : Int) - 1)).toNat * 1 = nl (t ⟨⟩) := by rw [hwr, Int.toNat_natCast]; omega
    have htl : (!((((wds 10 (t ⟨⟩)).map tx).getD (0 + (IntKind.wrap .i64 (((((wds 10 (t ⟨⟩)).length : Nat)) : Int) - 1)).toNat * 1) ByteArray.empty).toList == ({ data := #[] } : ByteArray).toList)) = !(tl (t ⟨⟩)) := by rw [hp]; exact congrArg _ (tl_form _)
    have hx0 : 0 ≤ (IntKind.wrap .i64 (((((wds 10 (t ⟨⟩)).length : Nat)) : Int) - 1)) ∧ (IntKind.wrap .i64 (((((wds 10 (t ⟨⟩)).length : Nat)) : Int) - 1)) < ((((wds 10 (t ⟨⟩)).length : Nat)) : Int) := by rw [hwr]; unfold nl; omega
    have hx1 : 0 + (IntKind.wrap .i64 (((((wds 10 (t ⟨⟩)).length : Nat)) : Int) - 1)).toNat * 1 < ((wds 10 (t ⟨⟩)).map tx).length := by rw [hp, List.length_map]; unfold nl; omega
    have hA : okA (t ⟨⟩) = true := ho.two.1.1
    have hn : 3 < nl (t ⟨⟩) := ho.two.1.2.1
    have hg : gdTo (t ⟨⟩) 3 = true := ho.two.1.2.2.1
    have hb : gd (t ⟨⟩) 3 = false := ho.two.1.2.2.2
    have hA2 := okA_t hA
    have t1 : (!((((wds 10 (t ⟨⟩)).map tx).getD (0 + (IntKind.wrap .i64 (((((wds 10 (t ⟨⟩)).length : Nat)) : Int) - 1)).toNat * 1) ByteArray.empty).toList == ({ data := #[] } : ByteArray).toList)) = false := by rw [htl, hA2.1]; rfl
    have t2 : ltB (IntKind.wrap .i64 (((((wds 10 (t ⟨⟩)).length : Nat)) : Int) - 1)) 2 = false := by rw [hwr, ltB_no]; omega
    have t3 : ltB 9 (IntKind.wrap .i64 (((((wds 10 (t ⟨⟩)).length : Nat)) : Int) - 1)) = false := by rw [hwr, ltB_no]; omega
    have b0 : ltB 0 (IntKind.wrap .i64 (((((wds 10 (t ⟨⟩)).length : Nat)) : Int) - 1)) = true := by rw [hwr, ltB_iff]; omega
    have x0 : (0 : Int) ≤ 0 ∧ (0 : Int) < ((((wds 10 (t ⟨⟩)).length : Nat)) : Int) := ⟨by omega, by unfold nl at hn; omega⟩
    have y0 : 0 < ((wds 10 (t ⟨⟩)).map tx).length := by rw [List.length_map]; unfold nl at hn; omega
    have z0 : (((wds 10 (t ⟨⟩)).map tx).getD 0 ByteArray.empty).size ≤ 1048576 := ln_size (t ⟨⟩) 0 hsz
    have g0 : (!(nrOk 3 (((wds 10 (t ⟨⟩)).map tx).getD 0 ByteArray.empty))) = false := ntf (show gd (t ⟨⟩) 0 = true from allI_at hg (by omega))
    have b1 : ltB 1 (IntKind.wrap .i64 (((((wds 10 (t ⟨⟩)).length : Nat)) : Int) - 1)) = true := by rw [hwr, ltB_iff]; omega
    have x1 : (0 : Int) ≤ 1 ∧ (1 : Int) < ((((wds 10 (t ⟨⟩)).length : Nat)) : Int) := ⟨by omega, by unfold nl at hn; omega⟩
    have y1 : 1 < ((wds 10 (t ⟨⟩)).map tx).length := by rw [List.length_map]; unfold nl at hn; omega
    have z1 : (((wds 10 (t ⟨⟩)).map tx).getD 1 ByteArray.empty).size ≤ 1048576 := ln_size (t ⟨⟩) 1 hsz
    have g1 : (!(nrOk 3 (((wds 10 (t ⟨⟩)).map tx).getD 1 ByteArray.empty))) = false := ntf (show gd (t ⟨⟩) 1 = true from allI_at hg (by omega))
    have b2 : ltB 2 (IntKind.wrap .i64 (((((wds 10 (t ⟨⟩)).length : Nat)) : Int) - 1)) = true := by rw [hwr, ltB_iff]; omega
    have x2 : (0 : Int) ≤ 2 ∧ (2 : Int) < ((((wds 10 (t ⟨⟩)).length : Nat)) : Int) := ⟨by omega, by unfold nl at hn; omega⟩
    have y2 : 2 < ((wds 10 (t ⟨⟩)).map tx).length := by rw [List.length_map]; unfold nl at hn; omega
    have z2 : (((wds 10 (t ⟨⟩)).map tx).getD 2 ByteArray.empty).size ≤ 1048576 := ln_size (t ⟨⟩) 2 hsz
    have g2 : (!(nrOk 3 (((wds 10 (t ⟨⟩)).map tx).getD 2 ByteArray.empty))) = false := ntf (show gd (t ⟨⟩) 2 = true from allI_at hg (by omega))
    have b3 : ltB 3 (IntKind.wrap .i64 (((((wds 10 (t ⟨⟩)).length : Nat)) : Int) - 1)) = true := by rw [hwr, ltB_iff]; omega
    have x3 : (0 : Int) ≤ 3 ∧ (3 : Int) < ((((wds 10 (t ⟨⟩)).length : Nat)) : Int) := ⟨by omega, by unfold nl at hn; omega⟩
    have y3 : 3 < ((wds 10 (t ⟨⟩)).map tx).length := by rw [List.length_map]; unfold nl at hn; omega
    have z3 : (((wds 10 (t ⟨⟩)).map tx).getD 3 ByteArray.empty).size ≤ 1048576 := ln_size (t ⟨⟩) 3 hsz
    have g3 : (!(nrOk 3 (((wds 10 (t ⟨⟩)).map tx).getD 3 ByteArray.empty))) = true := nft (show gd (t ⟨⟩) 3 = false from hb)
    refine ⟨_, HLe.refl _, ?_⟩
    cbv
    repeat' first | (refine Ob.mk ?_ ?_; (focus (first | exact hsp | exact hx0 | exact hx1 | exact x0 | exact y0 | exact z0 | exact x1 | exact y1 | exact z1 | exact x2 | exact y2 | exact z2 | exact x3 | exact y3 | exact z3 | exact rfl)); cbv) | (refine Br.f t1 ?_; cbv) | (refine Br.f t2 ?_; cbv) | (refine Br.f t3 ?_; cbv) | (refine Br.t b0 ?_; cbv) | (refine Br.f g0 ?_; cbv) | (refine Br.t b1 ?_; cbv) | (refine Br.f g1 ?_; cbv) | (refine Br.t b2 ?_; cbv) | (refine Br.f g2 ?_; cbv) | (refine Br.t b3 ?_; cbv) | (refine Br.t g3 ?_; cbv) | (refine Loop.mk 70 ?_; cbv) | (refine Gen.same ?_; cbv)
  · cases hs
set_option maxRecDepth 100000 in
set_option maxHeartbeats 8000000 in
theorem ok8B4 : Ok Tryd.prog 8 (sRF fun t => okA t = true ∧ 4 < nl t ∧ gdTo t 4 = true ∧ gd t 4 = false) := ok_of_wpaH (E := E8) mixed tts E8ok fn8 fun args H v H' o hs ho => by
  split at hs
  · rename_i t
    cases hs
    have hsz : (t ⟨⟩).size ≤ 1048576 := ho.two.2
    have hsp : (10 : Int) = (((10 : UInt8).toNat : Nat) : Int) ∧ (t ⟨⟩).size ≤ 1048576 := ⟨rfl, hsz⟩
    have hpos := wds_pos 10 (t ⟨⟩)
    have hle := wds_le 10 (t ⟨⟩)
    have hwr : (IntKind.wrap .i64 (((((wds 10 (t ⟨⟩)).length : Nat)) : Int) - 1)) = ((nl (t ⟨⟩) : Nat) : Int) := by rw [wrap64 (by omega) (by omega)]; unfold nl; omega
    have hp : 0 + (IntKind.wrap .i64 (((((wds 10 (t ⟨⟩)).length : Nat)) : Int) - 1)).toNat * 1 = nl (t ⟨⟩) := by rw [hwr, Int.toNat_natCast]; omega
    have htl : (!((((wds 10 (t ⟨⟩)).map tx).getD (0 + (IntKind.wrap .i64 (((((wds 10 (t ⟨⟩)).length : Nat)) : Int) - 1)).toNat * 1) ByteArray.empty).toList == ({ data := #[] } : ByteArray).toList)) = !(tl (t ⟨⟩)) := by rw [hp]; exact congrArg _ (tl_form _)
    have hx0 : 0 ≤ (IntKind.wrap .i64 (((((wds 10 (t ⟨⟩)).length : Nat)) : Int) - 1)) ∧ (IntKind.wrap .i64 (((((wds 10 (t ⟨⟩)).length : Nat)) : Int) - 1)) < ((((wds 10 (t ⟨⟩)).length : Nat)) : Int) := by rw [hwr]; unfold nl; omega
    have hx1 : 0 + (IntKind.wrap .i64 (((((wds 10 (t ⟨⟩)).length : Nat)) : Int) - 1)).toNat * 1 < ((wds 10 (t ⟨⟩)).map tx).length := by rw [hp, List.length_map]; unfold nl; omega
    have hA : okA (t ⟨⟩) = true := ho.two.1.1
    have hn : 4 < nl (t ⟨⟩) := ho.two.1.2.1
    have hg : gdTo (t ⟨⟩) 4 = true := ho.two.1.2.2.1
    have hb : gd (t ⟨⟩) 4 = false := ho.two.1.2.2.2
    have hA2 := okA_t hA
    have t1 : (!((((wds 10 (t ⟨⟩)).map tx).getD (0 + (IntKind.wrap .i64 (((((wds 10 (t ⟨⟩)).length : Nat)) : Int) - 1)).toNat * 1) ByteArray.empty).toList == ({ data := #[] } : ByteArray).toList)) = false := by rw [htl, hA2.1]; rfl
    have t2 : ltB (IntKind.wrap .i64 (((((wds 10 (t ⟨⟩)).length : Nat)) : Int) - 1)) 2 = false := by rw [hwr, ltB_no]; omega
    have t3 : ltB 9 (IntKind.wrap .i64 (((((wds 10 (t ⟨⟩)).length : Nat)) : Int) - 1)) = false := by rw [hwr, ltB_no]; omega
    have b0 : ltB 0 (IntKind.wrap .i64 (((((wds 10 (t ⟨⟩)).length : Nat)) : Int) - 1)) = true := by rw [hwr, ltB_iff]; omega
    have x0 : (0 : Int) ≤ 0 ∧ (0 : Int) < ((((wds 10 (t ⟨⟩)).length : Nat)) : Int) := ⟨by omega, by unfold nl at hn; omega⟩
    have y0 : 0 < ((wds 10 (t ⟨⟩)).map tx).length := by rw [List.length_map]; unfold nl at hn; omega
    have z0 : (((wds 10 (t ⟨⟩)).map tx).getD 0 ByteArray.empty).size ≤ 1048576 := ln_size (t ⟨⟩) 0 hsz
    have g0 : (!(nrOk 3 (((wds 10 (t ⟨⟩)).map tx).getD 0 ByteArray.empty))) = false := ntf (show gd (t ⟨⟩) 0 = true from allI_at hg (by omega))
    have b1 : ltB 1 (IntKind.wrap .i64 (((((wds 10 (t ⟨⟩)).length : Nat)) : Int) - 1)) = true := by rw [hwr, ltB_iff]; omega
    have x1 : (0 : Int) ≤ 1 ∧ (1 : Int) < ((((wds 10 (t ⟨⟩)).length : Nat)) : Int) := ⟨by omega, by unfold nl at hn; omega⟩
    have y1 : 1 < ((wds 10 (t ⟨⟩)).map tx).length := by rw [List.length_map]; unfold nl at hn; omega
    have z1 : (((wds 10 (t ⟨⟩)).map tx).getD 1 ByteArray.empty).size ≤ 1048576 := ln_size (t ⟨⟩) 1 hsz
    have g1 : (!(nrOk 3 (((wds 10 (t ⟨⟩)).map tx).getD 1 ByteArray.empty))) = false := ntf (show gd (t ⟨⟩) 1 = true from allI_at hg (by omega))
    have b2 : ltB 2 (IntKind.wrap .i64 (((((wds 10 (t ⟨⟩)).length : Nat)) : Int) - 1)) = true := by rw [hwr, ltB_iff]; omega
    have x2 : (0 : Int) ≤ 2 ∧ (2 : Int) < ((((wds 10 (t ⟨⟩)).length : Nat)) : Int) := ⟨by omega, by unfold nl at hn; omega⟩
    have y2 : 2 < ((wds 10 (t ⟨⟩)).map tx).length := by rw [List.length_map]; unfold nl at hn; omega
    have z2 : (((wds 10 (t ⟨⟩)).map tx).getD 2 ByteArray.empty).size ≤ 1048576 := ln_size (t ⟨⟩) 2 hsz
    have g2 : (!(nrOk 3 (((wds 10 (t ⟨⟩)).map tx).getD 2 ByteArray.empty))) = false := ntf (show gd (t ⟨⟩) 2 = true from allI_at hg (by omega))
    have b3 : ltB 3 (IntKind.wrap .i64 (((((wds 10 (t ⟨⟩)).length : Nat)) : Int) - 1)) = true := by rw [hwr, ltB_iff]; omega
    have x3 : (0 : Int) ≤ 3 ∧ (3 : Int) < ((((wds 10 (t ⟨⟩)).length : Nat)) : Int) := ⟨by omega, by unfold nl at hn; omega⟩
    have y3 : 3 < ((wds 10 (t ⟨⟩)).map tx).length := by rw [List.length_map]; unfold nl at hn; omega
    have z3 : (((wds 10 (t ⟨⟩)).map tx).getD 3 ByteArray.empty).size ≤ 1048576 := ln_size (t ⟨⟩) 3 hsz
    have g3 : (!(nrOk 3 (((wds 10 (t ⟨⟩)).map tx).getD 3 ByteArray.empty))) = false := ntf (show gd (t ⟨⟩) 3 = true from allI_at hg (by omega))
    have b4 : ltB 4 (IntKind.wrap .i64 (((((wds 10 (t ⟨⟩)).length : Nat)) : Int) - 1)) = true := by rw [hwr, ltB_iff]; omega
    have x4 : (0 : Int) ≤ 4 ∧ (4 : Int) < ((((wds 10 (t ⟨⟩)).length : Nat)) : Int) := ⟨by omega, by unfold nl at hn; omega⟩
    have y4 : 4 < ((wds 10 (t ⟨⟩)).map tx).length := by rw [List.length_map]; unfold nl at hn; omega
    have z4 : (((wds 10 (t ⟨⟩)).map tx).getD 4 ByteArray.empty).size ≤ 1048576 := ln_size (t ⟨⟩) 4 hsz
    have g4 : (!(nrOk 3 (((wds 10 (t ⟨⟩)).map tx).getD 4 ByteArray.empty))) = true := nft (show gd (t ⟨⟩) 4 = false from hb)
    refine ⟨_, HLe.refl _, ?_⟩
    cbv
    repeat' first | (refine Ob.mk ?_ ?_; (focus (first | exact hsp | exact hx0 | exact hx1 | exact x0 | exact y0 | exact z0 | exact x1 | exact y1 | exact z1 | exact x2 | exact y2 | exact z2 | exact x3 | exact y3 | exact z3 | exact x4 | exact y4 | exact z4 | exact rfl)); cbv) | (refine Br.f t1 ?_; cbv) | (refine Br.f t2 ?_; cbv) | (refine Br.f t3 ?_; cbv) | (refine Br.t b0 ?_; cbv) | (refine Br.f g0 ?_; cbv) | (refine Br.t b1 ?_; cbv) | (refine Br.f g1 ?_; cbv) | (refine Br.t b2 ?_; cbv) | (refine Br.f g2 ?_; cbv) | (refine Br.t b3 ?_; cbv) | (refine Br.f g3 ?_; cbv) | (refine Br.t b4 ?_; cbv) | (refine Br.t g4 ?_; cbv) | (refine Loop.mk 70 ?_; cbv) | (refine Gen.same ?_; cbv)
  · cases hs
set_option maxRecDepth 100000 in
set_option maxHeartbeats 8000000 in
theorem ok8B5 : Ok Tryd.prog 8 (sRF fun t => okA t = true ∧ 5 < nl t ∧ gdTo t 5 = true ∧ gd t 5 = false) := ok_of_wpaH (E := E8) mixed tts E8ok fn8 fun args H v H' o hs ho => by
  split at hs
  · rename_i t
    cases hs
    have hsz : (t ⟨⟩).size ≤ 1048576 := ho.two.2
    have hsp : (10 : Int) = (((10 : UInt8).toNat : Nat) : Int) ∧ (t ⟨⟩).size ≤ 1048576 := ⟨rfl, hsz⟩
    have hpos := wds_pos 10 (t ⟨⟩)
    have hle := wds_le 10 (t ⟨⟩)
    have hwr : (IntKind.wrap .i64 (((((wds 10 (t ⟨⟩)).length : Nat)) : Int) - 1)) = ((nl (t ⟨⟩) : Nat) : Int) := by rw [wrap64 (by omega) (by omega)]; unfold nl; omega
    have hp : 0 + (IntKind.wrap .i64 (((((wds 10 (t ⟨⟩)).length : Nat)) : Int) - 1)).toNat * 1 = nl (t ⟨⟩) := by rw [hwr, Int.toNat_natCast]; omega
    have htl : (!((((wds 10 (t ⟨⟩)).map tx).getD (0 + (IntKind.wrap .i64 (((((wds 10 (t ⟨⟩)).length : Nat)) : Int) - 1)).toNat * 1) ByteArray.empty).toList == ({ data := #[] } : ByteArray).toList)) = !(tl (t ⟨⟩)) := by rw [hp]; exact congrArg _ (tl_form _)
    have hx0 : 0 ≤ (IntKind.wrap .i64 (((((wds 10 (t ⟨⟩)).length : Nat)) : Int) - 1)) ∧ (IntKind.wrap .i64 (((((wds 10 (t ⟨⟩)).length : Nat)) : Int) - 1)) < ((((wds 10 (t ⟨⟩)).length : Nat)) : Int) := by rw [hwr]; unfold nl; omega
    have hx1 : 0 + (IntKind.wrap .i64 (((((wds 10 (t ⟨⟩)).length : Nat)) : Int) - 1)).toNat * 1 < ((wds 10 (t ⟨⟩)).map tx).length := by rw [hp, List.length_map]; unfold nl; omega
    have hA : okA (t ⟨⟩) = true := ho.two.1.1
    have hn : 5 < nl (t ⟨⟩) := ho.two.1.2.1
    have hg : gdTo (t ⟨⟩) 5 = true := ho.two.1.2.2.1
    have hb : gd (t ⟨⟩) 5 = false := ho.two.1.2.2.2
    have hA2 := okA_t hA
    have t1 : (!((((wds 10 (t ⟨⟩)).map tx).getD (0 + (IntKind.wrap .i64 (((((wds 10 (t ⟨⟩)).length : Nat)) : Int) - 1)).toNat * 1) ByteArray.empty).toList == ({ data := #[] } : ByteArray).toList)) = false := by rw [htl, hA2.1]; rfl
    have t2 : ltB (IntKind.wrap .i64 (((((wds 10 (t ⟨⟩)).length : Nat)) : Int) - 1)) 2 = false := by rw [hwr, ltB_no]; omega
    have t3 : ltB 9 (IntKind.wrap .i64 (((((wds 10 (t ⟨⟩)).length : Nat)) : Int) - 1)) = false := by rw [hwr, ltB_no]; omega
    have b0 : ltB 0 (IntKind.wrap .i64 (((((wds 10 (t ⟨⟩)).length : Nat)) : Int) - 1)) = true := by rw [hwr, ltB_iff]; omega
    have x0 : (0 : Int) ≤ 0 ∧ (0 : Int) < ((((wds 10 (t ⟨⟩)).length : Nat)) : Int) := ⟨by omega, by unfold nl at hn; omega⟩
    have y0 : 0 < ((wds 10 (t ⟨⟩)).map tx).length := by rw [List.length_map]; unfold nl at hn; omega
    have z0 : (((wds 10 (t ⟨⟩)).map tx).getD 0 ByteArray.empty).size ≤ 1048576 := ln_size (t ⟨⟩) 0 hsz
    have g0 : (!(nrOk 3 (((wds 10 (t ⟨⟩)).map tx).getD 0 ByteArray.empty))) = false := ntf (show gd (t ⟨⟩) 0 = true from allI_at hg (by omega))
    have b1 : ltB 1 (IntKind.wrap .i64 (((((wds 10 (t ⟨⟩)).length : Nat)) : Int) - 1)) = true := by rw [hwr, ltB_iff]; omega
    have x1 : (0 : Int) ≤ 1 ∧ (1 : Int) < ((((wds 10 (t ⟨⟩)).length : Nat)) : Int) := ⟨by omega, by unfold nl at hn; omega⟩
    have y1 : 1 < ((wds 10 (t ⟨⟩)).map tx).length := by rw [List.length_map]; unfold nl at hn; omega
    have z1 : (((wds 10 (t ⟨⟩)).map tx).getD 1 ByteArray.empty).size ≤ 1048576 := ln_size (t ⟨⟩) 1 hsz
    have g1 : (!(nrOk 3 (((wds 10 (t ⟨⟩)).map tx).getD 1 ByteArray.empty))) = false := ntf (show gd (t ⟨⟩) 1 = true from allI_at hg (by omega))
    have b2 : ltB 2 (IntKind.wrap .i64 (((((wds 10 (t ⟨⟩)).length : Nat)) : Int) - 1)) = true := by rw [hwr, ltB_iff]; omega
    have x2 : (0 : Int) ≤ 2 ∧ (2 : Int) < ((((wds 10 (t ⟨⟩)).length : Nat)) : Int) := ⟨by omega, by unfold nl at hn; omega⟩
    have y2 : 2 < ((wds 10 (t ⟨⟩)).map tx).length := by rw [List.length_map]; unfold nl at hn; omega
    have z2 : (((wds 10 (t ⟨⟩)).map tx).getD 2 ByteArray.empty).size ≤ 1048576 := ln_size (t ⟨⟩) 2 hsz
    have g2 : (!(nrOk 3 (((wds 10 (t ⟨⟩)).map tx).getD 2 ByteArray.empty))) = false := ntf (show gd (t ⟨⟩) 2 = true from allI_at hg (by omega))
    have b3 : ltB 3 (IntKind.wrap .i64 (((((wds 10 (t ⟨⟩)).length : Nat)) : Int) - 1)) = true := by rw [hwr, ltB_iff]; omega
    have x3 : (0 : Int) ≤ 3 ∧ (3 : Int) < ((((wds 10 (t ⟨⟩)).length : Nat)) : Int) := ⟨by omega, by unfold nl at hn; omega⟩
    have y3 : 3 < ((wds 10 (t ⟨⟩)).map tx).length := by rw [List.length_map]; unfold nl at hn; omega
    have z3 : (((wds 10 (t ⟨⟩)).map tx).getD 3 ByteArray.empty).size ≤ 1048576 := ln_size (t ⟨⟩) 3 hsz
    have g3 : (!(nrOk 3 (((wds 10 (t ⟨⟩)).map tx).getD 3 ByteArray.empty))) = false := ntf (show gd (t ⟨⟩) 3 = true from allI_at hg (by omega))
    have b4 : ltB 4 (IntKind.wrap .i64 (((((wds 10 (t ⟨⟩)).length : Nat)) : Int) - 1)) = true := by rw [hwr, ltB_iff]; omega
    have x4 : (0 : Int) ≤ 4 ∧ (4 : Int) < ((((wds 10 (t ⟨⟩)).length : Nat)) : Int) := ⟨by omega, by unfold nl at hn; omega⟩
    have y4 : 4 < ((wds 10 (t ⟨⟩)).map tx).length := by rw [List.length_map]; unfold nl at hn; omega
    have z4 : (((wds 10 (t ⟨⟩)).map tx).getD 4 ByteArray.empty).size ≤ 1048576 := ln_size (t ⟨⟩) 4 hsz
    have g4 : (!(nrOk 3 (((wds 10 (t ⟨⟩)).map tx).getD 4 ByteArray.empty))) = false := ntf (show gd (t ⟨⟩) 4 = true from allI_at hg (by omega))
    have b5 : ltB 5 (IntKind.wrap .i64 (((((wds 10 (t ⟨⟩)).length : Nat)) : Int) - 1)) = true := by rw [hwr, ltB_iff]; omega
    have x5 : (0 : Int) ≤ 5 ∧ (5 : Int) < ((((wds 10 (t ⟨⟩)).length : Nat)) : Int) := ⟨by omega, by unfold nl at hn; omega⟩
    have y5 : 5 < ((wds 10 (t ⟨⟩)).map tx).length := by rw [List.length_map]; unfold nl at hn; omega
    have z5 : (((wds 10 (t ⟨⟩)).map tx).getD 5 ByteArray.empty).size ≤ 1048576 := ln_size (t ⟨⟩) 5 hsz
    have g5 : (!(nrOk 3 (((wds 10 (t ⟨⟩)).map tx).getD 5 ByteArray.empty))) = true := nft (show gd (t ⟨⟩) 5 = false from hb)
    refine ⟨_, HLe.refl _, ?_⟩
    cbv
    repeat' first | (refine Ob.mk ?_ ?_; (focus (first | exact hsp | exact hx0 | exact hx1 | exact x0 | exact y0 | exact z0 | exact x1 | exact y1 | exact z1 | exact x2 | exact y2 | exact z2 | exact x3 | exact y3 | exact z3 | exact x4 | exact y4 | exact z4 | exact x5 | exact y5 | exact z5 | exact rfl)); cbv) | (refine Br.f t1 ?_; cbv) | (refine Br.f t2 ?_; cbv) | (refine Br.f t3 ?_; cbv) | (refine Br.t b0 ?_; cbv) | (refine Br.f g0 ?_; cbv) | (refine Br.t b1 ?_; cbv) | (refine Br.f g1 ?_; cbv) | (refine Br.t b2 ?_; cbv) | (refine Br.f g2 ?_; cbv) | (refine Br.t b3 ?_; cbv) | (refine Br.f g3 ?_; cbv) | (refine Br.t b4 ?_; cbv) | (refine Br.f g4 ?_; cbv) | (refine Br.t b5 ?_; cbv) | (refine Br.t g5 ?_; cbv) | (refine Loop.mk 70 ?_; cbv) | (refine Gen.same ?_; cbv)
  · cases hs
set_option maxRecDepth 100000 in
set_option maxHeartbeats 8000000 in
theorem ok8B6 : Ok Tryd.prog 8 (sRF fun t => okA t = true ∧ 6 < nl t ∧ gdTo t 6 = true ∧ gd t 6 = false) := ok_of_wpaH (E := E8) mixed tts E8ok fn8 fun args H v H' o hs ho => by
  split at hs
  · rename_i t
    cases hs
    have hsz : (t ⟨⟩).size ≤ 1048576 := ho.two.2
    have hsp : (10 : Int) = (((10 : UInt8).toNat : Nat) : Int) ∧ (t ⟨⟩).size ≤ 1048576 := ⟨rfl, hsz⟩
    have hpos := wds_pos 10 (t ⟨⟩)
    have hle := wds_le 10 (t ⟨⟩)
    have hwr : (IntKind.wrap .i64 (((((wds 10 (t ⟨⟩)).length : Nat)) : Int) - 1)) = ((nl (t ⟨⟩) : Nat) : Int) := by rw [wrap64 (by omega) (by omega)]; unfold nl; omega
    have hp : 0 + (IntKind.wrap .i64 (((((wds 10 (t ⟨⟩)).length : Nat)) : Int) - 1)).toNat * 1 = nl (t ⟨⟩) := by rw [hwr, Int.toNat_natCast]; omega
    have htl : (!((((wds 10 (t ⟨⟩)).map tx).getD (0 + (IntKind.wrap .i64 (((((wds 10 (t ⟨⟩)).length : Nat)) : Int) - 1)).toNat * 1) ByteArray.empty).toList == ({ data := #[] } : ByteArray).toList)) = !(tl (t ⟨⟩)) := by rw [hp]; exact congrArg _ (tl_form _)
    have hx0 : 0 ≤ (IntKind.wrap .i64 (((((wds 10 (t ⟨⟩)).length : Nat)) : Int) - 1)) ∧ (IntKind.wrap .i64 (((((wds 10 (t ⟨⟩)).length : Nat)) : Int) - 1)) < ((((wds 10 (t ⟨⟩)).length : Nat)) : Int) := by rw [hwr]; unfold nl; omega
    have hx1 : 0 + (IntKind.wrap .i64 (((((wds 10 (t ⟨⟩)).length : Nat)) : Int) - 1)).toNat * 1 < ((wds 10 (t ⟨⟩)).map tx).length := by rw [hp, List.length_map]; unfold nl; omega
    have hA : okA (t ⟨⟩) = true := ho.two.1.1
    have hn : 6 < nl (t ⟨⟩) := ho.two.1.2.1
    have hg : gdTo (t ⟨⟩) 6 = true := ho.two.1.2.2.1
    have hb : gd (t ⟨⟩) 6 = false := ho.two.1.2.2.2
    have hA2 := okA_t hA
    have t1 : (!((((wds 10 (t ⟨⟩)).map tx).getD (0 + (IntKind.wrap .i64 (((((wds 10 (t ⟨⟩)).length : Nat)) : Int) - 1)).toNat * 1) ByteArray.empty).toList == ({ data := #[] } : ByteArray).toList)) = false := by rw [htl, hA2.1]; rfl
    have t2 : ltB (IntKind.wrap .i64 (((((wds 10 (t ⟨⟩)).length : Nat)) : Int) - 1)) 2 = false := by rw [hwr, ltB_no]; omega
    have t3 : ltB 9 (IntKind.wrap .i64 (((((wds 10 (t ⟨⟩)).length : Nat)) : Int) - 1)) = false := by rw [hwr, ltB_no]; omega
    have b0 : ltB 0 (IntKind.wrap .i64 (((((wds 10 (t ⟨⟩)).length : Nat)) : Int) - 1)) = true := by rw [hwr, ltB_iff]; omega
    have x0 : (0 : Int) ≤ 0 ∧ (0 : Int) < ((((wds 10 (t ⟨⟩)).length : Nat)) : Int) := ⟨by omega, by unfold nl at hn; omega⟩
    have y0 : 0 < ((wds 10 (t ⟨⟩)).map tx).length := by rw [List.length_map]; unfold nl at hn; omega
    have z0 : (((wds 10 (t ⟨⟩)).map tx).getD 0 ByteArray.empty).size ≤ 1048576 := ln_size (t ⟨⟩) 0 hsz
    have g0 : (!(nrOk 3 (((wds 10 (t ⟨⟩)).map tx).getD 0 ByteArray.empty))) = false := ntf (show gd (t ⟨⟩) 0 = true from allI_at hg (by omega))
    have b1 : ltB 1 (IntKind.wrap .i64 (((((wds 10 (t ⟨⟩)).length : Nat)) : Int) - 1)) = true := by rw [hwr, ltB_iff]; omega
    have x1 : (0 : Int) ≤ 1 ∧ (1 : Int) < ((((wds 10 (t ⟨⟩)).length : Nat)) : Int) := ⟨by omega, by unfold nl at hn; omega⟩
    have y1 : 1 < ((wds 10 (t ⟨⟩)).map tx).length := by rw [List.length_map]; unfold nl at hn; omega
    have z1 : (((wds 10 (t ⟨⟩)).map tx).getD 1 ByteArray.empty).size ≤ 1048576 := ln_size (t ⟨⟩) 1 hsz
    have g1 : (!(nrOk 3 (((wds 10 (t ⟨⟩)).map tx).getD 1 ByteArray.empty))) = false := ntf (show gd (t ⟨⟩) 1 = true from allI_at hg (by omega))
    have b2 : ltB 2 (IntKind.wrap .i64 (((((wds 10 (t ⟨⟩)).length : Nat)) : Int) - 1)) = true := by rw [hwr, ltB_iff]; omega
    have x2 : (0 : Int) ≤ 2 ∧ (2 : Int) < ((((wds 10 (t ⟨⟩)).length : Nat)) : Int) := ⟨by omega, by unfold nl at hn; omega⟩
    have y2 : 2 < ((wds 10 (t ⟨⟩)).map tx).length := by rw [List.length_map]; unfold nl at hn; omega
    have z2 : (((wds 10 (t ⟨⟩)).map tx).getD 2 ByteArray.empty).size ≤ 1048576 := ln_size (t ⟨⟩) 2 hsz
    have g2 : (!(nrOk 3 (((wds 10 (t ⟨⟩)).map tx).getD 2 ByteArray.empty))) = false := ntf (show gd (t ⟨⟩) 2 = true from allI_at hg (by omega))
    have b3 : ltB 3 (IntKind.wrap .i64 (((((wds 10 (t ⟨⟩)).length : Nat)) : Int) - 1)) = true := by rw [hwr, ltB_iff]; omega
    have x3 : (0 : Int) ≤ 3 ∧ (3 : Int) < ((((wds 10 (t ⟨⟩)).length : Nat)) : Int) := ⟨by omega, by unfold nl at hn; omega⟩
    have y3 : 3 < ((wds 10 (t ⟨⟩)).map tx).length := by rw [List.length_map]; unfold nl at hn; omega
    have z3 : (((wds 10 (t ⟨⟩)).map tx).getD 3 ByteArray.empty).size ≤ 1048576 := ln_size (t ⟨⟩) 3 hsz
    have g3 : (!(nrOk 3 (((wds 10 (t ⟨⟩)).map tx).getD 3 ByteArray.empty))) = false := ntf (show gd (t ⟨⟩) 3 = true from allI_at hg (by omega))
    have b4 : ltB 4 (IntKind.wrap .i64 (((((wds 10 (t ⟨⟩)).length : Nat)) : Int) - 1)) = true := by rw [hwr, ltB_iff]; omega
    have x4 : (0 : Int) ≤ 4 ∧ (4 : Int) < ((((wds 10 (t ⟨⟩)).length : Nat)) : Int) := ⟨by omega, by unfold nl at hn; omega⟩
    have y4 : 4 < ((wds 10 (t ⟨⟩)).map tx).length := by rw [List.length_map]; unfold nl at hn; omega
    have z4 : (((wds 10 (t ⟨⟩)).map tx).getD 4 ByteArray.empty).size ≤ 1048576 := ln_size (t ⟨⟩) 4 hsz
    have g4 : (!(nrOk 3 (((wds 10 (t ⟨⟩)).map tx).getD 4 ByteArray.empty))) = false := ntf (show gd (t ⟨⟩) 4 = true from allI_at hg (by omega))
    have b5 : ltB 5 (IntKind.wrap .i64 (((((wds 10 (t ⟨⟩)).length : Nat)) : Int) - 1)) = true := by rw [hwr, ltB_iff]; omega
    have x5 : (0 : Int) ≤ 5 ∧ (5 : Int) < ((((wds 10 (t ⟨⟩)).length : Nat)) : Int) := ⟨by omega, by unfold nl at hn; omega⟩
    have y5 : 5 < ((wds 10 (t ⟨⟩)).map tx).length := by rw [List.length_map]; unfold nl at hn; omega
    have z5 : (((wds 10 (t ⟨⟩)).map tx).getD 5 ByteArray.empty).size ≤ 1048576 := ln_size (t ⟨⟩) 5 hsz
    have g5 : (!(nrOk 3 (((wds 10 (t ⟨⟩)).map tx).getD 5 ByteArray.empty))) = false := ntf (show gd (t ⟨⟩) 5 = true from allI_at hg (by omega))
    have b6 : ltB 6 (IntKind.wrap .i64 (((((wds 10 (t ⟨⟩)).length : Nat)) : Int) - 1)) = true := by rw [hwr, ltB_iff]; omega
    have x6 : (0 : Int) ≤ 6 ∧ (6 : Int) < ((((wds 10 (t ⟨⟩)).length : Nat)) : Int) := ⟨by omega, by unfold nl at hn; omega⟩
    have y6 : 6 < ((wds 10 (t ⟨⟩)).map tx).length := by rw [List.length_map]; unfold nl at hn; omega
    have z6 : (((wds 10 (t ⟨⟩)).map tx).getD 6 ByteArray.empty).size ≤ 1048576 := ln_size (t ⟨⟩) 6 hsz
    have g6 : (!(nrOk 3 (((wds 10 (t ⟨⟩)).map tx).getD 6 ByteArray.empty))) = true := nft (show gd (t ⟨⟩) 6 = false from hb)
    refine ⟨_, HLe.refl _, ?_⟩
    cbv
    repeat' first | (refine Ob.mk ?_ ?_; (focus (first | exact hsp | exact hx0 | exact hx1 | exact x0 | exact y0 | exact z0 | exact x1 | exact y1 | exact z1 | exact x2 | exact y2 | exact z2 | exact x3 | exact y3 | exact z3 | exact x4 | exact y4 | exact z4 | exact x5 | exact y5 | exact z5 | exact x6 | exact y6 | exact z6 | exact rfl)); cbv) | (refine Br.f t1 ?_; cbv) | (refine Br.f t2 ?_; cbv) | (refine Br.f t3 ?_; cbv) | (refine Br.t b0 ?_; cbv) | (refine Br.f g0 ?_; cbv) | (refine Br.t b1 ?_; cbv) | (refine Br.f g1 ?_; cbv) | (refine Br.t b2 ?_; cbv) | (refine Br.f g2 ?_; cbv) | (refine Br.t b3 ?_; cbv) | (refine Br.f g3 ?_; cbv) | (refine Br.t b4 ?_; cbv) | (refine Br.f g4 ?_; cbv) | (refine Br.t b5 ?_; cbv) | (refine Br.f g5 ?_; cbv) | (refine Br.t b6 ?_; cbv) | (refine Br.t g6 ?_; cbv) | (refine Loop.mk 70 ?_; cbv) | (refine Gen.same ?_; cbv)
  · cases hs
set_option maxRecDepth 100000 in
set_option maxHeartbeats 8000000 in
theorem ok8B7 : Ok Tryd.prog 8 (sRF fun t => okA t = true ∧ 7 < nl t ∧ gdTo t 7 = true ∧ gd t 7 = false) := ok_of_wpaH (E := E8) mixed tts E8ok fn8 fun args H v H' o hs ho => by
  split at hs
  · rename_i t
    cases hs
    have hsz : (t ⟨⟩).size ≤ 1048576 := ho.two.2
    have hsp : (10 : Int) = (((10 : UInt8).toNat : Nat) : Int) ∧ (t ⟨⟩).size ≤ 1048576 := ⟨rfl, hsz⟩
    have hpos := wds_pos 10 (t ⟨⟩)
    have hle := wds_le 10 (t ⟨⟩)
    have hwr : (IntKind.wrap .i64 (((((wds 10 (t ⟨⟩)).length : Nat)) : Int) - 1)) = ((nl (t ⟨⟩) : Nat) : Int) := by rw [wrap64 (by omega) (by omega)]; unfold nl; omega
    have hp : 0 + (IntKind.wrap .i64 (((((wds 10 (t ⟨⟩)).length : Nat)) : Int) - 1)).toNat * 1 = nl (t ⟨⟩) := by rw [hwr, Int.toNat_natCast]; omega
    have htl : (!((((wds 10 (t ⟨⟩)).map tx).getD (0 + (IntKind.wrap .i64 (((((wds 10 (t ⟨⟩)).length : Nat)) : Int) - 1)).toNat * 1) ByteArray.empty).toList == ({ data := #[] } : ByteArray).toList)) = !(tl (t ⟨⟩)) := by rw [hp]; exact congrArg _ (tl_form _)
    have hx0 : 0 ≤ (IntKind.wrap .i64 (((((wds 10 (t ⟨⟩)).length : Nat)) : Int) - 1)) ∧ (IntKind.wrap .i64 (((((wds 10 (t ⟨⟩)).length : Nat)) : Int) - 1)) < ((((wds 10 (t ⟨⟩)).length : Nat)) : Int) := by rw [hwr]; unfold nl; omega
    have hx1 : 0 + (IntKind.wrap .i64 (((((wds 10 (t ⟨⟩)).length : Nat)) : Int) - 1)).toNat * 1 < ((wds 10 (t ⟨⟩)).map tx).length := by rw [hp, List.length_map]; unfold nl; omega
    have hA : okA (t ⟨⟩) = true := ho.two.1.1
    have hn : 7 < nl (t ⟨⟩) := ho.two.1.2.1
    have hg : gdTo (t ⟨⟩) 7 = true := ho.two.1.2.2.1
    have hb : gd (t ⟨⟩) 7 = false := ho.two.1.2.2.2
    have hA2 := okA_t hA
    have t1 : (!((((wds 10 (t ⟨⟩)).map tx).getD (0 + (IntKind.wrap .i64 (((((wds 10 (t ⟨⟩)).length : Nat)) : Int) - 1)).toNat * 1) ByteArray.empty).toList == ({ data := #[] } : ByteArray).toList)) = false := by rw [htl, hA2.1]; rfl
    have t2 : ltB (IntKind.wrap .i64 (((((wds 10 (t ⟨⟩)).length : Nat)) : Int) - 1)) 2 = false := by rw [hwr, ltB_no]; omega
    have t3 : ltB 9 (IntKind.wrap .i64 (((((wds 10 (t ⟨⟩)).length : Nat)) : Int) - 1)) = false := by rw [hwr, ltB_no]; omega
    have b0 : ltB 0 (IntKind.wrap .i64 (((((wds 10 (t ⟨⟩)).length : Nat)) : Int) - 1)) = true := by rw [hwr, ltB_iff]; omega
    have x0 : (0 : Int) ≤ 0 ∧ (0 : Int) < ((((wds 10 (t ⟨⟩)).length : Nat)) : Int) := ⟨by omega, by unfold nl at hn; omega⟩
    have y0 : 0 < ((wds 10 (t ⟨⟩)).map tx).length := by rw [List.length_map]; unfold nl at hn; omega
    have z0 : (((wds 10 (t ⟨⟩)).map tx).getD 0 ByteArray.empty).size ≤ 1048576 := ln_size (t ⟨⟩) 0 hsz
    have g0 : (!(nrOk 3 (((wds 10 (t ⟨⟩)).map tx).getD 0 ByteArray.empty))) = false := ntf (show gd (t ⟨⟩) 0 = true from allI_at hg (by omega))
    have b1 : ltB 1 (IntKind.wrap .i64 (((((wds 10 (t ⟨⟩)).length : Nat)) : Int) - 1)) = true := by rw [hwr, ltB_iff]; omega
    have x1 : (0 : Int) ≤ 1 ∧ (1 : Int) < ((((wds 10 (t ⟨⟩)).length : Nat)) : Int) := ⟨by omega, by unfold nl at hn; omega⟩
    have y1 : 1 < ((wds 10 (t ⟨⟩)).map tx).length := by rw [List.length_map]; unfold nl at hn; omega
    have z1 : (((wds 10 (t ⟨⟩)).map tx).getD 1 ByteArray.empty).size ≤ 1048576 := ln_size (t ⟨⟩) 1 hsz
    have g1 : (!(nrOk 3 (((wds 10 (t ⟨⟩)).map tx).getD 1 ByteArray.empty))) = false := ntf (show gd (t ⟨⟩) 1 = true from allI_at hg (by omega))
    have b2 : ltB 2 (IntKind.wrap .i64 (((((wds 10 (t ⟨⟩)).length : Nat)) : Int) - 1)) = true := by rw [hwr, ltB_iff]; omega
    have x2 : (0 : Int) ≤ 2 ∧ (2 : Int) < ((((wds 10 (t ⟨⟩)).length : Nat)) : Int) := ⟨by omega, by unfold nl at hn; omega⟩
    have y2 : 2 < ((wds 10 (t ⟨⟩)).map tx).length := by rw [List.length_map]; unfold nl at hn; omega
    have z2 : (((wds 10 (t ⟨⟩)).map tx).getD 2 ByteArray.empty).size ≤ 1048576 := ln_size (t ⟨⟩) 2 hsz
    have g2 : (!(nrOk 3 (((wds 10 (t ⟨⟩)).map tx).getD 2 ByteArray.empty))) = false := ntf (show gd (t ⟨⟩) 2 = true from allI_at hg (by omega))
    have b3 : ltB 3 (IntKind.wrap .i64 (((((wds 10 (t ⟨⟩)).length : Nat)) : Int) - 1)) = true := by rw [hwr, ltB_iff]; omega
    have x3 : (0 : Int) ≤ 3 ∧ (3 : Int) < ((((wds 10 (t ⟨⟩)).length : Nat)) : Int) := ⟨by omega, by unfold nl at hn; omega⟩
    have y3 : 3 < ((wds 10 (t ⟨⟩)).map tx).length := by rw [List.length_map]; unfold nl at hn; omega
    have z3 : (((wds 10 (t ⟨⟩)).map tx).getD 3 ByteArray.empty).size ≤ 1048576 := ln_size (t ⟨⟩) 3 hsz
    have g3 : (!(nrOk 3 (((wds 10 (t ⟨⟩)).map tx).getD 3 ByteArray.empty))) = false := ntf (show gd (t ⟨⟩) 3 = true from allI_at hg (by omega))
    have b4 : ltB 4 (IntKind.wrap .i64 (((((wds 10 (t ⟨⟩)).length : Nat)) : Int) - 1)) = true := by rw [hwr, ltB_iff]; omega
    have x4 : (0 : Int) ≤ 4 ∧ (4 : Int) < ((((wds 10 (t ⟨⟩)).length : Nat)) : Int) := ⟨by omega, by unfold nl at hn; omega⟩
    have y4 : 4 < ((wds 10 (t ⟨⟩)).map tx).length := by rw [List.length_map]; unfold nl at hn; omega
    have z4 : (((wds 10 (t ⟨⟩)).map tx).getD 4 ByteArray.empty).size ≤ 1048576 := ln_size (t ⟨⟩) 4 hsz
    have g4 : (!(nrOk 3 (((wds 10 (t ⟨⟩)).map tx).getD 4 ByteArray.empty))) = false := ntf (show gd (t ⟨⟩) 4 = true from allI_at hg (by omega))
    have b5 : ltB 5 (IntKind.wrap .i64 (((((wds 10 (t ⟨⟩)).length : Nat)) : Int) - 1)) = true := by rw [hwr, ltB_iff]; omega
    have x5 : (0 : Int) ≤ 5 ∧ (5 : Int) < ((((wds 10 (t ⟨⟩)).length : Nat)) : Int) := ⟨by omega, by unfold nl at hn; omega⟩
    have y5 : 5 < ((wds 10 (t ⟨⟩)).map tx).length := by rw [List.length_map]; unfold nl at hn; omega
    have z5 : (((wds 10 (t ⟨⟩)).map tx).getD 5 ByteArray.empty).size ≤ 1048576 := ln_size (t ⟨⟩) 5 hsz
    have g5 : (!(nrOk 3 (((wds 10 (t ⟨⟩)).map tx).getD 5 ByteArray.empty))) = false := ntf (show gd (t ⟨⟩) 5 = true from allI_at hg (by omega))
    have b6 : ltB 6 (IntKind.wrap .i64 (((((wds 10 (t ⟨⟩)).length : Nat)) : Int) - 1)) = true := by rw [hwr, ltB_iff]; omega
    have x6 : (0 : Int) ≤ 6 ∧ (6 : Int) < ((((wds 10 (t ⟨⟩)).length : Nat)) : Int) := ⟨by omega, by unfold nl at hn; omega⟩
    have y6 : 6 < ((wds 10 (t ⟨⟩)).map tx).length := by rw [List.length_map]; unfold nl at hn; omega
    have z6 : (((wds 10 (t ⟨⟩)).map tx).getD 6 ByteArray.empty).size ≤ 1048576 := ln_size (t ⟨⟩) 6 hsz
    have g6 : (!(nrOk 3 (((wds 10 (t ⟨⟩)).map tx).getD 6 ByteArray.empty))) = false := ntf (show gd (t ⟨⟩) 6 = true from allI_at hg (by omega))
    have b7 : ltB 7 (IntKind.wrap .i64 (((((wds 10 (t ⟨⟩)).length : Nat)) : Int) - 1)) = true := by rw [hwr, ltB_iff]; omega
    have x7 : (0 : Int) ≤ 7 ∧ (7 : Int) < ((((wds 10 (t ⟨⟩)).length : Nat)) : Int) := ⟨by omega, by unfold nl at hn; omega⟩
    have y7 : 7 < ((wds 10 (t ⟨⟩)).map tx).length := by rw [List.length_map]; unfold nl at hn; omega
    have z7 : (((wds 10 (t ⟨⟩)).map tx).getD 7 ByteArray.empty).size ≤ 1048576 := ln_size (t ⟨⟩) 7 hsz
    have g7 : (!(nrOk 3 (((wds 10 (t ⟨⟩)).map tx).getD 7 ByteArray.empty))) = true := nft (show gd (t ⟨⟩) 7 = false from hb)
    refine ⟨_, HLe.refl _, ?_⟩
    cbv
    repeat' first | (refine Ob.mk ?_ ?_; (focus (first | exact hsp | exact hx0 | exact hx1 | exact x0 | exact y0 | exact z0 | exact x1 | exact y1 | exact z1 | exact x2 | exact y2 | exact z2 | exact x3 | exact y3 | exact z3 | exact x4 | exact y4 | exact z4 | exact x5 | exact y5 | exact z5 | exact x6 | exact y6 | exact z6 | exact x7 | exact y7 | exact z7 | exact rfl)); cbv) | (refine Br.f t1 ?_; cbv) | (refine Br.f t2 ?_; cbv) | (refine Br.f t3 ?_; cbv) | (refine Br.t b0 ?_; cbv) | (refine Br.f g0 ?_; cbv) | (refine Br.t b1 ?_; cbv) | (refine Br.f g1 ?_; cbv) | (refine Br.t b2 ?_; cbv) | (refine Br.f g2 ?_; cbv) | (refine Br.t b3 ?_; cbv) | (refine Br.f g3 ?_; cbv) | (refine Br.t b4 ?_; cbv) | (refine Br.f g4 ?_; cbv) | (refine Br.t b5 ?_; cbv) | (refine Br.f g5 ?_; cbv) | (refine Br.t b6 ?_; cbv) | (refine Br.f g6 ?_; cbv) | (refine Br.t b7 ?_; cbv) | (refine Br.t g7 ?_; cbv) | (refine Loop.mk 70 ?_; cbv) | (refine Gen.same ?_; cbv)
  · cases hs
set_option maxRecDepth 100000 in
set_option maxHeartbeats 8000000 in
theorem ok8B8 : Ok Tryd.prog 8 (sRF fun t => okA t = true ∧ 8 < nl t ∧ gdTo t 8 = true ∧ gd t 8 = false) := ok_of_wpaH (E := E8) mixed tts E8ok fn8 fun args H v H' o hs ho => by
  split at hs
  · rename_i t
    cases hs
    have hsz : (t ⟨⟩).size ≤ 1048576 := ho.two.2
    have hsp : (10 : Int) = (((10 : UInt8).toNat : Nat) : Int) ∧ (t ⟨⟩).size ≤ 1048576 := ⟨rfl, hsz⟩
    have hpos := wds_pos 10 (t ⟨⟩)
    have hle := wds_le 10 (t ⟨⟩)
    have hwr : (IntKind.wrap .i64 (((((wds 10 (t ⟨⟩)).length : Nat)) : Int) - 1)) = ((nl (t ⟨⟩) : Nat) : Int) := by rw [wrap64 (by omega) (by omega)]; unfold nl; omega
    have hp : 0 + (IntKind.wrap .i64 (((((wds 10 (t ⟨⟩)).length : Nat)) : Int) - 1)).toNat * 1 = nl (t ⟨⟩) := by rw [hwr, Int.toNat_natCast]; omega
    have htl : (!((((wds 10 (t ⟨⟩)).map tx).getD (0 + (IntKind.wrap .i64 (((((wds 10 (t ⟨⟩)).length : Nat)) : Int) - 1)).toNat * 1) ByteArray.empty).toList == ({ data := #[] } : ByteArray).toList)) = !(tl (t ⟨⟩)) := by rw [hp]; exact congrArg _ (tl_form _)
    have hx0 : 0 ≤ (IntKind.wrap .i64 (((((wds 10 (t ⟨⟩)).length : Nat)) : Int) - 1)) ∧ (IntKind.wrap .i64 (((((wds 10 (t ⟨⟩)).length : Nat)) : Int) - 1)) < ((((wds 10 (t ⟨⟩)).length : Nat)) : Int) := by rw [hwr]; unfold nl; omega
    have hx1 : 0 + (IntKind.wrap .i64 (((((wds 10 (t ⟨⟩)).length : Nat)) : Int) - 1)).toNat * 1 < ((wds 10 (t ⟨⟩)).map tx).length := by rw [hp, List.length_map]; unfold nl; omega
    have hA : okA (t ⟨⟩) = true := ho.two.1.1
    have hn : 8 < nl (t ⟨⟩) := ho.two.1.2.1
    have hg : gdTo (t ⟨⟩) 8 = true := ho.two.1.2.2.1
    have hb : gd (t ⟨⟩) 8 = false := ho.two.1.2.2.2
    have hA2 := okA_t hA
    have t1 : (!((((wds 10 (t ⟨⟩)).map tx).getD (0 + (IntKind.wrap .i64 (((((wds 10 (t ⟨⟩)).length : Nat)) : Int) - 1)).toNat * 1) ByteArray.empty).toList == ({ data := #[] } : ByteArray).toList)) = false := by rw [htl, hA2.1]; rfl
    have t2 : ltB (IntKind.wrap .i64 (((((wds 10 (t ⟨⟩)).length : Nat)) : Int) - 1)) 2 = false := by rw [hwr, ltB_no]; omega
    have t3 : ltB 9 (IntKind.wrap .i64 (((((wds 10 (t ⟨⟩)).length : Nat)) : Int) - 1)) = false := by rw [hwr, ltB_no]; omega
    have b0 : ltB 0 (IntKind.wrap .i64 (((((wds 10 (t ⟨⟩)).length : Nat)) : Int) - 1)) = true := by rw [hwr, ltB_iff]; omega
    have x0 : (0 : Int) ≤ 0 ∧ (0 : Int) < ((((wds 10 (t ⟨⟩)).length : Nat)) : Int) := ⟨by omega, by unfold nl at hn; omega⟩
    have y0 : 0 < ((wds 10 (t ⟨⟩)).map tx).length := by rw [List.length_map]; unfold nl at hn; omega
    have z0 : (((wds 10 (t ⟨⟩)).map tx).getD 0 ByteArray.empty).size ≤ 1048576 := ln_size (t ⟨⟩) 0 hsz
    have g0 : (!(nrOk 3 (((wds 10 (t ⟨⟩)).map tx).getD 0 ByteArray.empty))) = false := ntf (show gd (t ⟨⟩) 0 = true from allI_at hg (by omega))
    have b1 : ltB 1 (IntKind.wrap .i64 (((((wds 10 (t ⟨⟩)).length : Nat)) : Int) - 1)) = true := by rw [hwr, ltB_iff]; omega
    have x1 : (0 : Int) ≤ 1 ∧ (1 : Int) < ((((wds 10 (t ⟨⟩)).length : Nat)) : Int) := ⟨by omega, by unfold nl at hn; omega⟩
    have y1 : 1 < ((wds 10 (t ⟨⟩)).map tx).length := by rw [List.length_map]; unfold nl at hn; omega
    have z1 : (((wds 10 (t ⟨⟩)).map tx).getD 1 ByteArray.empty).size ≤ 1048576 := ln_size (t ⟨⟩) 1 hsz
    have g1 : (!(nrOk 3 (((wds 10 (t ⟨⟩)).map tx).getD 1 ByteArray.empty))) = false := ntf (show gd (t ⟨⟩) 1 = true from allI_at hg (by omega))
    have b2 : ltB 2 (IntKind.wrap .i64 (((((wds 10 (t ⟨⟩)).length : Nat)) : Int) - 1)) = true := by rw [hwr, ltB_iff]; omega
    have x2 : (0 : Int) ≤ 2 ∧ (2 : Int) < ((((wds 10 (t ⟨⟩)).length : Nat)) : Int) := ⟨by omega, by unfold nl at hn; omega⟩
    have y2 : 2 < ((wds 10 (t ⟨⟩)).map tx).length := by rw [List.length_map]; unfold nl at hn; omega
    have z2 : (((wds 10 (t ⟨⟩)).map tx).getD 2 ByteArray.empty).size ≤ 1048576 := ln_size (t ⟨⟩) 2 hsz
    have g2 : (!(nrOk 3 (((wds 10 (t ⟨⟩)).map tx).getD 2 ByteArray.empty))) = false := ntf (show gd (t ⟨⟩) 2 = true from allI_at hg (by omega))
    have b3 : ltB 3 (IntKind.wrap .i64 (((((wds 10 (t ⟨⟩)).length : Nat)) : Int) - 1)) = true := by rw [hwr, ltB_iff]; omega
    have x3 : (0 : Int) ≤ 3 ∧ (3 : Int) < ((((wds 10 (t ⟨⟩)).length : Nat)) : Int) := ⟨by omega, by unfold nl at hn; omega⟩
    have y3 : 3 < ((wds 10 (t ⟨⟩)).map tx).length := by rw [List.length_map]; unfold nl at hn; omega
    have z3 : (((wds 10 (t ⟨⟩)).map tx).getD 3 ByteArray.empty).size ≤ 1048576 := ln_size (t ⟨⟩) 3 hsz
    have g3 : (!(nrOk 3 (((wds 10 (t ⟨⟩)).map tx).getD 3 ByteArray.empty))) = false := ntf (show gd (t ⟨⟩) 3 = true from allI_at hg (by omega))
    have b4 : ltB 4 (IntKind.wrap .i64 (((((wds 10 (t ⟨⟩)).length : Nat)) : Int) - 1)) = true := by rw [hwr, ltB_iff]; omega
    have x4 : (0 : Int) ≤ 4 ∧ (4 : Int) < ((((wds 10 (t ⟨⟩)).length : Nat)) : Int) := ⟨by omega, by unfold nl at hn; omega⟩
    have y4 : 4 < ((wds 10 (t ⟨⟩)).map tx).length := by rw [List.length_map]; unfold nl at hn; omega
    have z4 : (((wds 10 (t ⟨⟩)).map tx).getD 4 ByteArray.empty).size ≤ 1048576 := ln_size (t ⟨⟩) 4 hsz
    have g4 : (!(nrOk 3 (((wds 10 (t ⟨⟩)).map tx).getD 4 ByteArray.empty))) = false := ntf (show gd (t ⟨⟩) 4 = true from allI_at hg (by omega))
    have b5 : ltB 5 (IntKind.wrap .i64 (((((wds 10 (t ⟨⟩)).length : Nat)) : Int) - 1)) = true := by rw [hwr, ltB_iff]; omega
    have x5 : (0 : Int) ≤ 5 ∧ (5 : Int) < ((((wds 10 (t ⟨⟩)).length : Nat)) : Int) := ⟨by omega, by unfold nl at hn; omega⟩
    have y5 : 5 < ((wds 10 (t ⟨⟩)).map tx).length := by rw [List.length_map]; unfold nl at hn; omega
    have z5 : (((wds 10 (t ⟨⟩)).map tx).getD 5 ByteArray.empty).size ≤ 1048576 := ln_size (t ⟨⟩) 5 hsz
    have g5 : (!(nrOk 3 (((wds 10 (t ⟨⟩)).map tx).getD 5 ByteArray.empty))) = false := ntf (show gd (t ⟨⟩) 5 = true from allI_at hg (by omega))
    have b6 : ltB 6 (IntKind.wrap .i64 (((((wds 10 (t ⟨⟩)).length : Nat)) : Int) - 1)) = true := by rw [hwr, ltB_iff]; omega
    have x6 : (0 : Int) ≤ 6 ∧ (6 : Int) < ((((wds 10 (t ⟨⟩)).length : Nat)) : Int) := ⟨by omega, by unfold nl at hn; omega⟩
    have y6 : 6 < ((wds 10 (t ⟨⟩)).map tx).length := by rw [List.length_map]; unfold nl at hn; omega
    have z6 : (((wds 10 (t ⟨⟩)).map tx).getD 6 ByteArray.empty).size ≤ 1048576 := ln_size (t ⟨⟩) 6 hsz
    have g6 : (!(nrOk 3 (((wds 10 (t ⟨⟩)).map tx).getD 6 ByteArray.empty))) = false := ntf (show gd (t ⟨⟩) 6 = true from allI_at hg (by omega))
    have b7 : ltB 7 (IntKind.wrap .i64 (((((wds 10 (t ⟨⟩)).length : Nat)) : Int) - 1)) = true := by rw [hwr, ltB_iff]; omega
    have x7 : (0 : Int) ≤ 7 ∧ (7 : Int) < ((((wds 10 (t ⟨⟩)).length : Nat)) : Int) := ⟨by omega, by unfold nl at hn; omega⟩
    have y7 : 7 < ((wds 10 (t ⟨⟩)).map tx).length := by rw [List.length_map]; unfold nl at hn; omega
    have z7 : (((wds 10 (t ⟨⟩)).map tx).getD 7 ByteArray.empty).size ≤ 1048576 := ln_size (t ⟨⟩) 7 hsz
    have g7 : (!(nrOk 3 (((wds 10 (t ⟨⟩)).map tx).getD 7 ByteArray.empty))) = false := ntf (show gd (t ⟨⟩) 7 = true from allI_at hg (by omega))
    have b8 : ltB 8 (IntKind.wrap .i64 (((((wds 10 (t ⟨⟩)).length : Nat)) : Int) - 1)) = true := by rw [hwr, ltB_iff]; omega
    have x8 : (0 : Int) ≤ 8 ∧ (8 : Int) < ((((wds 10 (t ⟨⟩)).length : Nat)) : Int) := ⟨by omega, by unfold nl at hn; omega⟩
    have y8 : 8 < ((wds 10 (t ⟨⟩)).map tx).length := by rw [List.length_map]; unfold nl at hn; omega
    have z8 : (((wds 10 (t ⟨⟩)).map tx).getD 8 ByteArray.empty).size ≤ 1048576 := ln_size (t ⟨⟩) 8 hsz
    have g8 : (!(nrOk 3 (((wds 10 (t ⟨⟩)).map tx).getD 8 ByteArray.empty))) = true := nft (show gd (t ⟨⟩) 8 = false from hb)
    refine ⟨_, HLe.refl _, ?_⟩
    cbv
    repeat' first | (refine Ob.mk ?_ ?_; (focus (first | exact hsp | exact hx0 | exact hx1 | exact x0 | exact y0 | exact z0 | exact x1 | exact y1 | exact z1 | exact x2 | exact y2 | exact z2 | exact x3 | exact y3 | exact z3 | exact x4 | exact y4 | exact z4 | exact x5 | exact y5 | exact z5 | exact x6 | exact y6 | exact z6 | exact x7 | exact y7 | exact z7 | exact x8 | exact y8 | exact z8 | exact rfl)); cbv) | (refine Br.f t1 ?_; cbv) | (refine Br.f t2 ?_; cbv) | (refine Br.f t3 ?_; cbv) | (refine Br.t b0 ?_; cbv) | (refine Br.f g0 ?_; cbv) | (refine Br.t b1 ?_; cbv) | (refine Br.f g1 ?_; cbv) | (refine Br.t b2 ?_; cbv) | (refine Br.f g2 ?_; cbv) | (refine Br.t b3 ?_; cbv) | (refine Br.f g3 ?_; cbv) | (refine Br.t b4 ?_; cbv) | (refine Br.f g4 ?_; cbv) | (refine Br.t b5 ?_; cbv) | (refine Br.f g5 ?_; cbv) | (refine Br.t b6 ?_; cbv) | (refine Br.f g6 ?_; cbv) | (refine Br.t b7 ?_; cbv) | (refine Br.f g7 ?_; cbv) | (refine Br.t b8 ?_; cbv) | (refine Br.t g8 ?_; cbv) | (refine Loop.mk 70 ?_; cbv) | (refine Gen.same ?_; cbv)
  · cases hs
end Go.Proofs.YteifneielgnniaaDoor.Sh
end
