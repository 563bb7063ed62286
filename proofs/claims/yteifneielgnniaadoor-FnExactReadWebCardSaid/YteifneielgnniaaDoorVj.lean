/- The program reads a web: texts that are none. No condition. -/
import Derived.Test.YteifneielgnniaaDoorVi
set_option linter.unusedVariables false
set_option linter.unusedSimpArgs false
set_option linter.unusedSectionVars false
section
namespace Go.Proofs.YteifneielgnniaaDoor.Sh
open Go Go.Proofs
attribute [local irreducible] wds tx rn rnC rnOk nrOk v3a v3b v3c wAt n3 webOk spL tl nl wOk numsOf rwOk
def E9X : Env := fun g => envGetL [(21, ⟨true, sLF rlBad, none⟩)] g
set_option maxRecDepth 100000 in
set_option maxHeartbeats 8000000 in
theorem ok9X : Ok Tryd.prog 9 (sRF rlBad) := ok_of_wpaH (E := E9X) mixed tts (envOk_cons ok21F (envOk_nil _)) fn9 fun args H v H' o hs ho => by
  split at hs
  · rename_i t
    cases hs
    have hsz : (t ⟨⟩).size ≤ 1048576 := ho.two.2
    have h21 : rlBad (t ⟨⟩) ∧ (t ⟨⟩).size ≤ 1048576 ∧ (3 : Int) = 3 ∧ (9 : Int) = 9 := ⟨ho.two.1, hsz, rfl, rfl⟩
    refine ⟨_, HLe.refl _, ?_⟩
    cbv
    repeat' first | (refine Ob.mk ?_ ?_; (focus (first | exact h21 | exact ⟨by decide, by decide⟩ | exact ⟨by decide, by decide, by decide⟩ | exact rfl)); cbv)
  · cases hs
def E9N0 : Env := fun g => envGetL [(21, ⟨true, sLT0 (fun t => t.size ≤ 243 ∧ nl t = 0 ∧ gdTo t 0 = true), none⟩)] g
set_option maxRecDepth 100000 in
set_option maxHeartbeats 8000000 in
theorem ok9N0 : Ok Tryd.prog 9 (sRF fun t => t.size ≤ 243 ∧ nl t = 0 ∧ gdTo t 0 = true ∧ tl t = false) := ok_of_wpaH (E := E9N0) mixed tts (envOk_cons ok21K0 (envOk_nil _)) fn9 fun args H v H' o hs ho => by
  split at hs
  · rename_i t
    cases hs
    have hsz : (t ⟨⟩).size ≤ 1048576 := ho.two.2
    have h1 := ho.two.1
    have ht : tl (t ⟨⟩) = false := h1.2.2.2
    have h21 : ((t ⟨⟩).size ≤ 243 ∧ nl (t ⟨⟩) = 0 ∧ gdTo (t ⟨⟩) 0 = true) ∧ (t ⟨⟩).size ≤ 1048576 ∧ (3 : Int) = 3 ∧ (9 : Int) = 9 := ⟨⟨h1.1, h1.2.1, h1.2.2.1⟩, hsz, rfl, rfl⟩
    have hb : (!(tl (t ⟨⟩))) = true := nft ht
    refine ⟨_, HLe.refl _, ?_⟩
    cbv
    repeat' first | (refine Ob.mk ?_ ?_; (focus (first | exact h21 | exact ⟨by decide, by decide⟩ | exact ⟨by decide, by decide, by decide⟩ | exact rfl)); cbv) | (refine Br.t hb ?_; cbv)
  · cases hs
def E9N1 : Env := fun g => envGetL [(21, ⟨true, sLT1 (fun t => t.size ≤ 243 ∧ nl t = 1 ∧ gdTo t 1 = true), none⟩)] g
set_option maxRecDepth 100000 in
set_option maxHeartbeats 8000000 in
theorem ok9N1 : Ok Tryd.prog 9 (sRF fun t => t.size ≤ 243 ∧ nl t = 1 ∧ gdTo t 1 = true ∧ tl t = false) := ok_of_wpaH (E := E9N1) mixed tts (envOk_cons ok21K1 (envOk_nil _)) fn9 fun args H v H' o hs ho => by
  split at hs
  · rename_i t
    cases hs
    have hsz : (t ⟨⟩).size ≤ 1048576 := ho.two.2
    have h1 := ho.two.1
    have ht : tl (t ⟨⟩) = false := h1.2.2.2
    have h21 : ((t ⟨⟩).size ≤ 243 ∧ nl (t ⟨⟩) = 1 ∧ gdTo (t ⟨⟩) 1 = true) ∧ (t ⟨⟩).size ≤ 1048576 ∧ (3 : Int) = 3 ∧ (9 : Int) = 9 := ⟨⟨h1.1, h1.2.1, h1.2.2.1⟩, hsz, rfl, rfl⟩
    have hb : (!(tl (t ⟨⟩))) = true := nft ht
    refine ⟨_, HLe.refl _, ?_⟩
    cbv
    repeat' first | (refine Ob.mk ?_ ?_; (focus (first | exact h21 | exact ⟨by decide, by decide⟩ | exact ⟨by decide, by decide, by decide⟩ | exact rfl)); cbv) | (refine Br.t hb ?_; cbv)
  · cases hs
def E9N2 : Env := fun g => envGetL [(21, ⟨true, sLT2 (fun t => t.size ≤ 243 ∧ nl t = 2 ∧ gdTo t 2 = true), none⟩)] g
set_option maxRecDepth 100000 in
set_option maxHeartbeats 8000000 in
theorem ok9N2 : Ok Tryd.prog 9 (sRF fun t => t.size ≤ 243 ∧ nl t = 2 ∧ gdTo t 2 = true ∧ tl t = false) := ok_of_wpaH (E := E9N2) mixed tts (envOk_cons ok21K2 (envOk_nil _)) fn9 fun args H v H' o hs ho => by
  split at hs
  · rename_i t
    cases hs
    have hsz : (t ⟨⟩).size ≤ 1048576 := ho.two.2
    have h1 := ho.two.1
    have ht : tl (t ⟨⟩) = false := h1.2.2.2
    have h21 : ((t ⟨⟩).size ≤ 243 ∧ nl (t ⟨⟩) = 2 ∧ gdTo (t ⟨⟩) 2 = true) ∧ (t ⟨⟩).size ≤ 1048576 ∧ (3 : Int) = 3 ∧ (9 : Int) = 9 := ⟨⟨h1.1, h1.2.1, h1.2.2.1⟩, hsz, rfl, rfl⟩
    have hb : (!(tl (t ⟨⟩))) = true := nft ht
    refine ⟨_, HLe.refl _, ?_⟩
    cbv
    repeat' first | (refine Ob.mk ?_ ?_; (focus (first | exact h21 | exact ⟨by decide, by decide⟩ | exact ⟨by decide, by decide, by decide⟩ | exact rfl)); cbv) | (refine Br.t hb ?_; cbv)
  · cases hs
def E9N3 : Env := fun g => envGetL [(21, ⟨true, sLT3 (fun t => t.size ≤ 243 ∧ nl t = 3 ∧ gdTo t 3 = true), none⟩)] g
set_option maxRecDepth 100000 in
set_option maxHeartbeats 8000000 in
theorem ok9N3 : Ok Tryd.prog 9 (sRF fun t => t.size ≤ 243 ∧ nl t = 3 ∧ gdTo t 3 = true ∧ tl t = false) := ok_of_wpaH (E := E9N3) mixed tts (envOk_cons ok21K3 (envOk_nil _)) fn9 fun args H v H' o hs ho => by
  split at hs
  · rename_i t
    cases hs
    have hsz : (t ⟨⟩).size ≤ 1048576 := ho.two.2
    have h1 := ho.two.1
    have ht : tl (t ⟨⟩) = false := h1.2.2.2
    have h21 : ((t ⟨⟩).size ≤ 243 ∧ nl (t ⟨⟩) = 3 ∧ gdTo (t ⟨⟩) 3 = true) ∧ (t ⟨⟩).size ≤ 1048576 ∧ (3 : Int) = 3 ∧ (9 : Int) = 9 := ⟨⟨h1.1, h1.2.1, h1.2.2.1⟩, hsz, rfl, rfl⟩
    have hb : (!(tl (t ⟨⟩))) = true := nft ht
    refine ⟨_, HLe.refl _, ?_⟩
    cbv
    repeat' first | (refine Ob.mk ?_ ?_; (focus (first | exact h21 | exact ⟨by decide, by decide⟩ | exact ⟨by decide, by decide, by decide⟩ | exact rfl)); cbv) | (refine Br.t hb ?_; cbv)
  · cases hs
def E9N4 : Env := fun g => envGetL [(21, ⟨true, sLT4 (fun t => t.size ≤ 243 ∧ nl t = 4 ∧ gdTo t 4 = true), none⟩)] g
set_option maxRecDepth 100000 in
set_option maxHeartbeats 8000000 in
theorem ok9N4 : Ok Tryd.prog 9 (sRF fun t => t.size ≤ 243 ∧ nl t = 4 ∧ gdTo t 4 = true ∧ tl t = false) := ok_of_wpaH (E := E9N4) mixed tts (envOk_cons ok21K4 (envOk_nil _)) fn9 fun args H v H' o hs ho => by
  split at hs
  · rename_i t
    cases hs
    have hsz : (t ⟨⟩).size ≤ 1048576 := ho.two.2
    have h1 := ho.two.1
    have ht : tl (t ⟨⟩) = false := h1.2.2.2
    have h21 : ((t ⟨⟩).size ≤ 243 ∧ nl (t ⟨⟩) = 4 ∧ gdTo (t ⟨⟩) 4 = true) ∧ (t ⟨⟩).size ≤ 1048576 ∧ (3 : Int) = 3 ∧ (9 : Int) = 9 := ⟨⟨h1.1, h1.2.1, h1.2.2.1⟩, hsz, rfl, rfl⟩
    have hb : (!(tl (t ⟨⟩))) = true := nft ht
    refine ⟨_, HLe.refl _, ?_⟩
    cbv
    repeat' first | (refine Ob.mk ?_ ?_; (focus (first | exact h21 | exact ⟨by decide, by decide⟩ | exact ⟨by decide, by decide, by decide⟩ | exact rfl)); cbv) | (refine Br.t hb ?_; cbv)
  · cases hs
def E9N5 : Env := fun g => envGetL [(21, ⟨true, sLT5 (fun t => t.size ≤ 243 ∧ nl t = 5 ∧ gdTo t 5 = true), none⟩)] g
set_option maxRecDepth 100000 in
set_option maxHeartbeats 8000000 in
theorem ok9N5 : Ok Tryd.prog 9 (sRF fun t => t.size ≤ 243 ∧ nl t = 5 ∧ gdTo t 5 = true ∧ tl t = false) := ok_of_wpaH (E := E9N5) mixed tts (envOk_cons ok21K5 (envOk_nil _)) fn9 fun args H v H' o hs ho => by
  split at hs
  · rename_i t
    cases hs
    have hsz : (t ⟨⟩).size ≤ 1048576 := ho.two.2
    have h1 := ho.two.1
    have ht : tl (t ⟨⟩) = false := h1.2.2.2
    have h21 : ((t ⟨⟩).size ≤ 243 ∧ nl (t ⟨⟩) = 5 ∧ gdTo (t ⟨⟩) 5 = true) ∧ (t ⟨⟩).size ≤ 1048576 ∧ (3 : Int) = 3 ∧ (9 : Int) = 9 := ⟨⟨h1.1, h1.2.1, h1.2.2.1⟩, hsz, rfl, rfl⟩
    have hb : (!(tl (t ⟨⟩))) = true := nft ht
    refine ⟨_, HLe.refl _, ?_⟩
    cbv
    repeat' first | (refine Ob.mk ?_ ?_; (focus (first | exact h21 | exact ⟨by decide, by decide⟩ | exact ⟨by decide, by decide, by decide⟩ | exact rfl)); cbv) | (refine Br.t hb ?_; cbv)
  · cases hs
def E9N6 : Env := fun g => envGetL [(21, ⟨true, sLT6 (fun t => t.size ≤ 243 ∧ nl t = 6 ∧ gdTo t 6 = true), none⟩)] g
set_option maxRecDepth 100000 in
set_option maxHeartbeats 8000000 in
theorem ok9N6 : Ok Tryd.prog 9 (sRF fun t => t.size ≤ 243 ∧ nl t = 6 ∧ gdTo t 6 = true ∧ tl t = false) := ok_of_wpaH (E := E9N6) mixed tts (envOk_cons ok21K6 (envOk_nil _)) fn9 fun args H v H' o hs ho => by
  split at hs
  · rename_i t
    cases hs
    have hsz : (t ⟨⟩).size ≤ 1048576 := ho.two.2
    have h1 := ho.two.1
    have ht : tl (t ⟨⟩) = false := h1.2.2.2
    have h21 : ((t ⟨⟩).size ≤ 243 ∧ nl (t ⟨⟩) = 6 ∧ gdTo (t ⟨⟩) 6 = true) ∧ (t ⟨⟩).size ≤ 1048576 ∧ (3 : Int) = 3 ∧ (9 : Int) = 9 := ⟨⟨h1.1, h1.2.1, h1.2.2.1⟩, hsz, rfl, rfl⟩
    have hb : (!(tl (t ⟨⟩))) = true := nft ht
    refine ⟨_, HLe.refl _, ?_⟩
    cbv
    repeat' first | (refine Ob.mk ?_ ?_; (focus (first | exact h21 | exact ⟨by decide, by decide⟩ | exact ⟨by decide, by decide, by decide⟩ | exact rfl)); cbv) | (refine Br.t hb ?_; cbv)
  · cases hs
def E9N7 : Env := fun g => envGetL [(21, ⟨true, sLT7 (fun t => t.size ≤ 243 ∧ nl t = 7 ∧ gdTo t 7 = true), none⟩)] g
set_option maxRecDepth 100000 in
set_option maxHeartbeats 8000000 in
theorem ok9N7 : Ok Tryd.prog 9 (sRF fun t => t.size ≤ 243 ∧ nl t = 7 ∧ gdTo t 7 = true ∧ tl t = false) := ok_of_wpaH (E := E9N7) mixed tts (envOk_cons ok21K7 (envOk_nil _)) fn9 fun args H v H' o hs ho => by
  split at hs
  · rename_i t
    cases hs
    have hsz : (t ⟨⟩).size ≤ 1048576 := ho.two.2
    have h1 := ho.two.1
    have ht : tl (t ⟨⟩) = false := h1.2.2.2
    have h21 : ((t ⟨⟩).size ≤ 243 ∧ nl (t ⟨⟩) = 7 ∧ gdTo (t ⟨⟩) 7 = true) ∧ (t ⟨⟩).size ≤ 1048576 ∧ (3 : Int) = 3 ∧ (9 : Int) = 9 := ⟨⟨h1.1, h1.2.1, h1.2.2.1⟩, hsz, rfl, rfl⟩
    have hb : (!(tl (t ⟨⟩))) = true := nft ht
    refine ⟨_, HLe.refl _, ?_⟩
    cbv
    repeat' first | (refine Ob.mk ?_ ?_; (focus (first | exact h21 | exact ⟨by decide, by decide⟩ | exact ⟨by decide, by decide, by decide⟩ | exact rfl)); cbv) | (refine Br.t hb ?_; cbv)
  · cases hs
def E9N8 : Env := fun g => envGetL [(21, ⟨true, sLT8 (fun t => t.size ≤ 243 ∧ nl t = 8 ∧ gdTo t 8 = true), none⟩)] g
set_option maxRecDepth 100000 in
set_option maxHeartbeats 8000000 in
theorem ok9N8 : Ok Tryd.prog 9 (sRF fun t => t.size ≤ 243 ∧ nl t = 8 ∧ gdTo t 8 = true ∧ tl t = false) := ok_of_wpaH (E := E9N8) mixed tts (envOk_cons ok21K8 (envOk_nil _)) fn9 fun args H v H' o hs ho => by
  split at hs
  · rename_i t
    cases hs
    have hsz : (t ⟨⟩).size ≤ 1048576 := ho.two.2
    have h1 := ho.two.1
    have ht : tl (t ⟨⟩) = false := h1.2.2.2
    have h21 : ((t ⟨⟩).size ≤ 243 ∧ nl (t ⟨⟩) = 8 ∧ gdTo (t ⟨⟩) 8 = true) ∧ (t ⟨⟩).size ≤ 1048576 ∧ (3 : Int) = 3 ∧ (9 : Int) = 9 := ⟨⟨h1.1, h1.2.1, h1.2.2.1⟩, hsz, rfl, rfl⟩
    have hb : (!(tl (t ⟨⟩))) = true := nft ht
    refine ⟨_, HLe.refl _, ?_⟩
    cbv
    repeat' first | (refine Ob.mk ?_ ?_; (focus (first | exact h21 | exact ⟨by decide, by decide⟩ | exact ⟨by decide, by decide, by decide⟩ | exact rfl)); cbv) | (refine Br.t hb ?_; cbv)
  · cases hs
def E9N9 : Env := fun g => envGetL [(21, ⟨true, sLT9 (fun t => t.size ≤ 243 ∧ nl t = 9 ∧ gdTo t 9 = true), none⟩)] g
set_option maxRecDepth 100000 in
set_option maxHeartbeats 8000000 in
theorem ok9N9 : Ok Tryd.prog 9 (sRF fun t => t.size ≤ 243 ∧ nl t = 9 ∧ gdTo t 9 = true ∧ tl t = false) := ok_of_wpaH (E := E9N9) mixed tts (envOk_cons ok21K9 (envOk_nil _)) fn9 fun args H v H' o hs ho => by
  split at hs
  · rename_i t
    cases hs
    have hsz : (t ⟨⟩).size ≤ 1048576 := ho.two.2
    have h1 := ho.two.1
    have ht : tl (t ⟨⟩) = false := h1.2.2.2
    have h21 : ((t ⟨⟩).size ≤ 243 ∧ nl (t ⟨⟩) = 9 ∧ gdTo (t ⟨⟩) 9 = true) ∧ (t ⟨⟩).size ≤ 1048576 ∧ (3 : Int) = 3 ∧ (9 : Int) = 9 := ⟨⟨h1.1, h1.2.1, h1.2.2.1⟩, hsz, rfl, rfl⟩
    have hb : (!(tl (t ⟨⟩))) = true := nft ht
    refine ⟨_, HLe.refl _, ?_⟩
    cbv
    repeat' first | (refine Ob.mk ?_ ?_; (focus (first | exact h21 | exact ⟨by decide, by decide⟩ | exact ⟨by decide, by decide, by decide⟩ | exact rfl)); cbv) | (refine Br.t hb ?_; cbv)
  · cases hs
def E9Z : Env := fun g => envGetL [(21, ⟨true, sLT0 (fun t => t.size ≤ 243 ∧ nl t = 0 ∧ gdTo t 0 = true), none⟩)] g
set_option maxRecDepth 100000 in
set_option maxHeartbeats 8000000 in
theorem ok9Z : Ok Tryd.prog 9 (sRF fun t => t.size ≤ 243 ∧ nl t = 0 ∧ gdTo t 0 = true ∧ tl t = true) := ok_of_wpaH (E := E9Z) mixed tts (envOk_cons ok21K0 (envOk_nil _)) fn9 fun args H v H' o hs ho => by
  split at hs
  · rename_i t
    cases hs
    have hsz : (t ⟨⟩).size ≤ 1048576 := ho.two.2
    have h1 := ho.two.1
    have ht : tl (t ⟨⟩) = true := h1.2.2.2
    have h21 : ((t ⟨⟩).size ≤ 243 ∧ nl (t ⟨⟩) = 0 ∧ gdTo (t ⟨⟩) 0 = true) ∧ (t ⟨⟩).size ≤ 1048576 ∧ (3 : Int) = 3 ∧ (9 : Int) = 9 := ⟨⟨h1.1, h1.2.1, h1.2.2.1⟩, hsz, rfl, rfl⟩
    have hb : (!(tl (t ⟨⟩))) = false := ntf ht
    refine ⟨_, HLe.refl _, ?_⟩
    cbv
    repeat' first | (refine Ob.mk ?_ ?_; (focus (first | exact h21 | exact ⟨by decide, by decide⟩ | exact ⟨by decide, by decide, by decide⟩ | exact rfl)); cbv) | (refine Br.f hb ?_; cbv)
  · cases hs
def E9F1 : Env := fun g => envGetL [(21, ⟨true, sLT1 (fun t => t.size ≤ 243 ∧ nl t = 1 ∧ gdTo t 1 = true), none⟩), (22, ⟨true, s22n, none⟩)] g
set_option maxRecDepth 100000 in
set_option maxHeartbeats 8000000 in
theorem ok9F1 : Ok Tryd.prog 9 (sRF fun t => t.size ≤ 243 ∧ nl t = 1 ∧ gdTo t 1 = true ∧ tl t = true) := ok_of_wpaH (E := E9F1) mixed tts (envOk_cons ok21K1 (envOk_cons ok22n (envOk_nil _))) fn9 fun args H v H' o hs ho => by
  split at hs
  · rename_i t
    cases hs
    have hsz : (t ⟨⟩).size ≤ 1048576 := ho.two.2
    have h1 := ho.two.1
    have hn : nl (t ⟨⟩) = 1 := h1.2.1
    have hg : gdTo (t ⟨⟩) 1 = true := h1.2.2.1
    have ht : tl (t ⟨⟩) = true := h1.2.2.2
    have h21 : ((t ⟨⟩).size ≤ 243 ∧ nl (t ⟨⟩) = 1 ∧ gdTo (t ⟨⟩) 1 = true) ∧ (t ⟨⟩).size ≤ 1048576 ∧ (3 : Int) = 3 ∧ (9 : Int) = 9 := ⟨⟨h1.1, h1.2.1, h1.2.2.1⟩, hsz, rfl, rfl⟩
    have hb : (!(tl (t ⟨⟩))) = false := ntf ht
    have gg0 : nrOk 3 (ln (t ⟨⟩) 0) = true := show gd (t ⟨⟩) 0 = true from allI_at hg (by omega)
    have l0 : (numsOf (ln (t ⟨⟩) 0)).length = 3 := by rw [nums_l, nr_num gg0]
    have y0a : 0 < (numsOf (ln (t ⟨⟩) 0)).length := by rw [l0]; decide
    have p0a : (numsOf (ln (t ⟨⟩) 0)).getD 0 0 = n3 (ln (t ⟨⟩) 0) 0 := nums_n3 (by rw [nr_num gg0]; decide)
    have y0b : 1 < (numsOf (ln (t ⟨⟩) 0)).length := by rw [l0]; decide
    have p0b : (numsOf (ln (t ⟨⟩) 0)).getD 1 0 = n3 (ln (t ⟨⟩) 0) 1 := nums_n3 (by rw [nr_num gg0]; decide)
    have y0c : 2 < (numsOf (ln (t ⟨⟩) 0)).length := by rw [l0]; decide
    have p0c : (numsOf (ln (t ⟨⟩) 0)).getD 2 0 = n3 (ln (t ⟨⟩) 0) 2 := nums_n3 (by rw [nr_num gg0]; decide)
    have hL : spL (t ⟨⟩) = [] := by unfold spL; rw [hn]; rfl
    have hS : [] = spL (t ⟨⟩) := by rw [hL]
    have hnn : 0 = nl (t ⟨⟩) - 1 := by omega
    have hW : webOk ((numsOf (ln (t ⟨⟩) 0)).getD 0 0) ((numsOf (ln (t ⟨⟩) 0)).getD 1 0) ((numsOf (ln (t ⟨⟩) 0)).getD 2 0) [] 0 = wOk (t ⟨⟩) := by unfold wOk; rw [hS, p0a, p0b, p0c]; exact congrArg (webOk _ _ _ _) hnn
    refine ⟨_, HLe.refl _, ?_⟩
    cbv
    repeat' first | (refine Ob.mk ?_ ?_; (focus (first | exact h21 | exact y0a | exact y0b | exact y0c | exact p0a | exact p0b | exact p0c | exact hS | exact hnn | exact ⟨rfl, rfl, by decide⟩ | exact ⟨by decide, by decide⟩ | exact ⟨by decide, by decide, by decide⟩ | exact rfl)); cbv) | (refine Br.f hb ?_; cbv) | (refine Br.t nf ?_; cbv)
    (first | (refine Lex.tail 16 (by decide +kernel) ?_; cbv) | (refine Lex.pull [0, 1, 2, 3, 4, 5, 6, 7, 8, 9, 10, 11, 12, 13, 14, 15] (by decide +kernel) ?_; cbv))
    repeat' first | (refine Ob.mk ?_ ?_; (focus (first | exact h21 | exact y0a | exact y0b | exact y0c | exact p0a | exact p0b | exact p0c | exact hS | exact hnn | exact ⟨rfl, rfl, by decide⟩ | exact ⟨by decide, by decide⟩ | exact ⟨by decide, by decide, by decide⟩ | exact rfl)); cbv) | (refine Br.f hb ?_; cbv) | (refine Br.t nf ?_; cbv)
    refine Loop.mk 70 ?_
    cbv
    refine Gen.mk (fr 66 [(2, .c (.p 0 (.l 0))), (6, .c (.p 3 (.l 0))), (39, .c (.sl 1 (.l 1) (.l 0))), (40, .c (.i .i64 (.l 0))), (41, .c (.i .i64 (.l 0)))]) [some ⟨true, 0, .lit [.f .f32 fun _ => 0, .f .f32 fun _ => 0, .f .f32 fun _ => 0, .sn]⟩, some ⟨true, 1, .lit [.sl 2 (.l 0) (.x fun _ => 3)]⟩, some ⟨true, 1, .fl fun _ => numsOf (ln (t ()) 0)⟩, some ⟨true, 0, .lit [.f .f32 fun _ => (numsOf (ln (t ()) 0)).getD 0 0, .f .f32 fun _ => (numsOf (ln (t ()) 0)).getD 1 0, .f .f32 fun _ => (numsOf (ln (t ()) 0)).getD 2 0, .sn]⟩] ?_
    cbv
    repeat' (refine Ob.mk ?_ ?_; (focus (exact rfl)); cbv)
    repeat' first | (refine Ob.mk ?_ ?_; (focus (first | exact h21 | exact y0a | exact y0b | exact y0c | exact p0a | exact p0b | exact p0c | exact hS | exact hnn | exact ⟨rfl, rfl, by decide⟩ | exact ⟨by decide, by decide⟩ | exact ⟨by decide, by decide, by decide⟩ | exact rfl)); cbv) | (refine Br.f hb ?_; cbv) | (refine Br.t nf ?_; cbv)
  · cases hs
end Go.Proofs.YteifneielgnniaaDoor.Sh
end
