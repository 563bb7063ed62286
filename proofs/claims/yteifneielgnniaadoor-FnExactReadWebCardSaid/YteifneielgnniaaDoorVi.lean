/- The readings by the reference and of lines, joined. No condition. -/
import Derived.Test.YteifneielgnniaaDoorVf
import Derived.Test.YteifneielgnniaaDoorVg
import Derived.Test.YteifneielgnniaaDoorVh
set_option linter.unusedVariables false
set_option linter.unusedSimpArgs false
set_option linter.unusedSectionVars false
section
namespace Go.Proofs.YteifneielgnniaaDoor.Sh
open Go Go.Proofs
theorem ok8F : Ok Tryd.prog 8 (sRF fun t => rwOk t = false) := okRF_of fun t h hz => by
  cases hA : okA t with
  | false => exact ⟨_, hA, ok8A⟩
  | true =>
    have h9 := (okA_t hA).2
    cases hg : gdTo t (nl t) with
    | false =>
      obtain ⟨j, hj, hgj, hb⟩ := first_bad t _ hg
      have : j = 0 ∨ j = 1 ∨ j = 2 ∨ j = 3 ∨ j = 4 ∨ j = 5 ∨ j = 6 ∨ j = 7 ∨ j = 8 := by omega
      rcases this with rfl | rfl | rfl | rfl | rfl | rfl | rfl | rfl | rfl
      · exact ⟨_, ⟨hA, hj, hgj, hb⟩, ok8B0⟩
      · exact ⟨_, ⟨hA, hj, hgj, hb⟩, ok8B1⟩
      · exact ⟨_, ⟨hA, hj, hgj, hb⟩, ok8B2⟩
      · exact ⟨_, ⟨hA, hj, hgj, hb⟩, ok8B3⟩
      · exact ⟨_, ⟨hA, hj, hgj, hb⟩, ok8B4⟩
      · exact ⟨_, ⟨hA, hj, hgj, hb⟩, ok8B5⟩
      · exact ⟨_, ⟨hA, hj, hgj, hb⟩, ok8B6⟩
      · exact ⟨_, ⟨hA, hj, hgj, hb⟩, ok8B7⟩
      · exact ⟨_, ⟨hA, hj, hgj, hb⟩, ok8B8⟩
    | true =>
      have hv : wOk t = false := by unfold rwOk at h; rw [hA, hg] at h; simpa using h
      have : nl t = 2 ∨ nl t = 3 ∨ nl t = 4 ∨ nl t = 5 ∨ nl t = 6 ∨ nl t = 7 ∨ nl t = 8 ∨ nl t = 9 := by omega
      rcases this with e | e | e | e | e | e | e | e
      · exact ⟨_, ⟨hA, e, by rw [← e]; exact hg, hv⟩, ok8F2⟩
      · exact ⟨_, ⟨hA, e, by rw [← e]; exact hg, hv⟩, ok8F3⟩
      · exact ⟨_, ⟨hA, e, by rw [← e]; exact hg, hv⟩, ok8F4⟩
      · exact ⟨_, ⟨hA, e, by rw [← e]; exact hg, hv⟩, ok8F5⟩
      · exact ⟨_, ⟨hA, e, by rw [← e]; exact hg, hv⟩, ok8F6⟩
      · exact ⟨_, ⟨hA, e, by rw [← e]; exact hg, hv⟩, ok8F7⟩
      · exact ⟨_, ⟨hA, e, by rw [← e]; exact hg, hv⟩, ok8F8⟩
      · exact ⟨_, ⟨hA, e, by rw [← e]; exact hg, hv⟩, ok8F9⟩
theorem rw_t {t : ByteArray} (h : rwOk t = true) : okA t = true ∧ gdTo t (nl t) = true ∧ wOk t = true := by
  unfold rwOk at h
  simp only [Bool.and_eq_true] at h
  exact ⟨h.1.1, h.1.2, h.2⟩
theorem ok8T : Ok Tryd.prog 8 (sRT fun t => rwOk t = true) := okRT_of fun t h hz => by
  obtain ⟨hA, hg, hv⟩ := rw_t h
  have h9 := (okA_t hA).2
  have : nl t = 2 ∨ nl t = 3 ∨ nl t = 4 ∨ nl t = 5 ∨ nl t = 6 ∨ nl t = 7 ∨ nl t = 8 ∨ nl t = 9 := by omega
  rcases this with e | e | e | e | e | e | e | e
  · exact ⟨_, ⟨hA, e, by rw [← e]; exact hg, hv⟩, ok8T2⟩
  · exact ⟨_, ⟨hA, e, by rw [← e]; exact hg, hv⟩, ok8T3⟩
  · exact ⟨_, ⟨hA, e, by rw [← e]; exact hg, hv⟩, ok8T4⟩
  · exact ⟨_, ⟨hA, e, by rw [← e]; exact hg, hv⟩, ok8T5⟩
  · exact ⟨_, ⟨hA, e, by rw [← e]; exact hg, hv⟩, ok8T6⟩
  · exact ⟨_, ⟨hA, e, by rw [← e]; exact hg, hv⟩, ok8T7⟩
  · exact ⟨_, ⟨hA, e, by rw [← e]; exact hg, hv⟩, ok8T8⟩
  · exact ⟨_, ⟨hA, e, by rw [← e]; exact hg, hv⟩, ok8T9⟩
def rlBad (t : ByteArray) : Prop := 243 < t.size ∨ (t.size ≤ 243 ∧ gdTo t (nl t) = false)
theorem ok21F : Ok Tryd.prog 21 (sLF rlBad) := okLF_of fun t h hz => by
  rcases h with h | ⟨h, hg⟩
  · exact ⟨_, h, ok21X⟩
  · obtain ⟨j, hj, hgj, hb⟩ := first_bad t _ hg
    have hlt : j < (wds 10 t).length := by unfold nl at hj; omega
    have h1 := gd_fill t j hlt hgj
    have h8 : j ≤ 8 := by
      rcases Nat.lt_or_ge j 9 with h' | h'
      · omega
      · have h9 : j = 9 := by omega
        subst h9
        have := gd_end hlt hgj h
        omega
    have : j = 0 ∨ j = 1 ∨ j = 2 ∨ j = 3 ∨ j = 4 ∨ j = 5 ∨ j = 6 ∨ j = 7 ∨ j = 8 := by omega
    rcases this with rfl | rfl | rfl | rfl | rfl | rfl | rfl | rfl | rfl
    · exact ⟨_, ⟨h, hj, hgj, hb⟩, ok21B0⟩
    · exact ⟨_, ⟨h, hj, hgj, hb⟩, ok21B1⟩
    · exact ⟨_, ⟨h, hj, hgj, hb⟩, ok21B2⟩
    · exact ⟨_, ⟨h, hj, hgj, hb⟩, ok21B3⟩
    · exact ⟨_, ⟨h, hj, hgj, hb⟩, ok21B4⟩
    · exact ⟨_, ⟨h, hj, hgj, hb⟩, ok21B5⟩
    · exact ⟨_, ⟨h, hj, hgj, hb⟩, ok21B6⟩
    · exact ⟨_, ⟨h, hj, hgj, hb⟩, ok21B7⟩
    · exact ⟨_, ⟨h, hj, hgj, hb⟩, ok21B8⟩
theorem nums_at' {t : ByteArray} {i : Nat} (h : i < (wds 32 t).length) : (numsOf t).getD i 0 = n3 t i := by
  unfold numsOf n3 wAt
  simp [List.getD, List.getElem?_map, List.getElem?_eq_getElem h]
theorem nums_l (t : ByteArray) : (numsOf t).length = (wds 32 t).length := by unfold numsOf; rw [List.length_map]
theorem nums_n3 {t : ByteArray} {i : Nat} (h : i < (wds 32 t).length) : (numsOf t).getD i 0 = n3 t i := nums_at' h
theorem fn9 : FnOk Tryd.prog 9 Tryd.f9 (bodyOf Tryd.f9) := ⟨Tryd.func9, rfl, by rfl⟩
def s22n : Spec := hspec fun args H => match args, H with
  | [.a [.f .f32 st, .f .f32 sp, .f .f32 fd, .sn]], [] => some (vB false, [], [])
  | _, _ => none
set_option maxRecDepth 100000 in
set_option maxHeartbeats 1000000 in
theorem ok22n : Ok Tryd.prog 22 s22n := ok_of_wpaH (E := E22) mixed tts E22ok fn22 fun args H v H' o hs ho => by
  split at hs
  · cases hs
    refine ⟨_, HLe.refl _, ?_⟩
    cbv
    repeat' first
      | (refine Br.mk (fun h => ?_) (fun h => ?_) <;> cbv)
      | (refine Ob.mk rfl ?_; cbv)
  · cases hs
theorem nf : (!false) = true := rfl
end Go.Proofs.YteifneielgnniaaDoor.Sh
end
