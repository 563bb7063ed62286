/- The program reads webs as the reference does; the law. No condition. -/
import Derived.Test.YteifneielgnniaaDoorVj
import Derived.Test.YteifneielgnniaaDoorVka
import Derived.Test.YteifneielgnniaaDoorVkb
import Derived.Test.YteifneielgnniaaDoorVkc
import Derived.Test.YteifneielgnniaaDoorVkd
import Derived.Test.YteifneielgnniaaDoorVke
import Derived.Test.YteifneielgnniaaDoorVkf
import Derived.Test.YteifneielgnniaaDoorVkg
import Derived.Test.YteifneielgnniaaDoorVkh
set_option linter.unusedVariables false
set_option linter.unusedSimpArgs false
set_option linter.unusedSectionVars false
section
namespace Go.Proofs.YteifneielgnniaaDoor.Sh
open Go Go.Proofs
theorem gd_tot {t : ByteArray} (hg : gdTo t (nl t) = true) (h : tl t = true) : t.size = 27 * nl t := by
  have h3 : sumL (wds 10 t) = t.size + 1 := by
    show sumL (splA 10 [] (bl t)) = _
    rw [splA_tot, bl_len]; simp
  have hlen : ∀ i, (ln t i).size = ((wds 10 t).getD i []).length := fun i => by
    unfold ln
    rw [← bl_len, getD_map tx _ i [] _ tx_e]; rfl
  have key : ∀ (ws : List (List UInt8)) (k : Nat), ws.length = k + 1 → (∀ i, i < k → (ws.getD i []).length = 26) → (ws.getD k []).length = 0 → sumL ws = 27 * k + 1 := by
    intro ws
    induction ws with
    | nil => intro k hk; simp at hk
    | cons w ws ih =>
      intro k hk h h0
      cases k with
      | zero =>
        have : ws = [] := List.length_eq_zero_iff.1 (by simpa using hk)
        subst this
        simp only [List.getD_cons_zero] at h0
        simp [sumL, h0]
      | succ k =>
        have h1 := h 0 (by omega)
        have := ih k (by simpa using hk) (fun i hi => by simpa using h (i + 1) (by omega)) (by simpa using h0)
        simp only [List.getD_cons_zero] at h1
        simp only [sumL]; omega
  have hpos := wds_pos 10 t
  have := key (wds 10 t) (nl t) (by unfold nl; omega) (fun i hi => by rw [← hlen]; exact gd_size (allI_at hg hi)) (by
    rw [← hlen]
    unfold tl at h
    have : (ln t (nl t)).data.toList = [] := by simpa using h
    rw [← bl_len]; unfold bl; rw [this]; rfl)
  omega
theorem ok9F : Ok Tryd.prog 9 (sRF fun t => rwOk t = false) := okRF_of fun t h hz => by
  rcases Nat.lt_or_ge 243 t.size with hs | hs
  · exact ⟨_, .inl hs, ok9X⟩
  · cases hg : gdTo t (nl t) with
    | false => exact ⟨_, .inr ⟨hs, hg⟩, ok9X⟩
    | true =>
      have hpos := wds_pos 10 t
      have h1 := gd_fill t (nl t) (by unfold nl; omega) hg
      have : nl t = 0 ∨ nl t = 1 ∨ nl t = 2 ∨ nl t = 3 ∨ nl t = 4 ∨ nl t = 5 ∨ nl t = 6 ∨ nl t = 7 ∨ nl t = 8 ∨ nl t = 9 := by omega
      cases ht : tl t with
      | false =>
        rcases this with e | e | e | e | e | e | e | e | e | e
        · exact ⟨_, ⟨hs, e, by rw [← e]; exact hg, ht⟩, ok9N0⟩
        · exact ⟨_, ⟨hs, e, by rw [← e]; exact hg, ht⟩, ok9N1⟩
        · exact ⟨_, ⟨hs, e, by rw [← e]; exact hg, ht⟩, ok9N2⟩
        · exact ⟨_, ⟨hs, e, by rw [← e]; exact hg, ht⟩, ok9N3⟩
        · exact ⟨_, ⟨hs, e, by rw [← e]; exact hg, ht⟩, ok9N4⟩
        · exact ⟨_, ⟨hs, e, by rw [← e]; exact hg, ht⟩, ok9N5⟩
        · exact ⟨_, ⟨hs, e, by rw [← e]; exact hg, ht⟩, ok9N6⟩
        · exact ⟨_, ⟨hs, e, by rw [← e]; exact hg, ht⟩, ok9N7⟩
        · exact ⟨_, ⟨hs, e, by rw [← e]; exact hg, ht⟩, ok9N8⟩
        · exact ⟨_, ⟨hs, e, by rw [← e]; exact hg, ht⟩, ok9N9⟩
      | true =>
        have hv : ∀ (_ : 2 ≤ nl t ∧ nl t ≤ 9), wOk t = false := fun h2 => by
          have hA : okA t = true := by unfold okA; rw [ht, decide_eq_true h2]; rfl
          unfold rwOk at h; rw [hA, hg] at h; simpa using h
        rcases this with e | e | e | e | e | e | e | e | e | e
        · exact ⟨_, ⟨hs, e, by rw [← e]; exact hg, ht⟩, ok9Z⟩
        · exact ⟨_, ⟨hs, e, by rw [← e]; exact hg, ht⟩, ok9F1⟩
        · exact ⟨_, ⟨hs, e, by rw [← e]; exact hg, ht, hv (by omega)⟩, ok9F2⟩
        · exact ⟨_, ⟨hs, e, by rw [← e]; exact hg, ht, hv (by omega)⟩, ok9F3⟩
        · exact ⟨_, ⟨hs, e, by rw [← e]; exact hg, ht, hv (by omega)⟩, ok9F4⟩
        · exact ⟨_, ⟨hs, e, by rw [← e]; exact hg, ht, hv (by omega)⟩, ok9F5⟩
        · exact ⟨_, ⟨hs, e, by rw [← e]; exact hg, ht, hv (by omega)⟩, ok9F6⟩
        · exact ⟨_, ⟨hs, e, by rw [← e]; exact hg, ht, hv (by omega)⟩, ok9F7⟩
        · exact ⟨_, ⟨hs, e, by rw [← e]; exact hg, ht, hv (by omega)⟩, ok9F8⟩
        · exact ⟨_, ⟨hs, e, by rw [← e]; exact hg, ht, hv (by omega)⟩, ok9F9⟩
theorem ok9T : Ok Tryd.prog 9 (sRT fun t => rwOk t = true) := okRT_of fun t h hz => by
  obtain ⟨hA, hg, hv⟩ := rw_t h
  obtain ⟨ht, h2, h9⟩ := okA_t hA
  have hs := gd_tot hg ht
  have hs : t.size ≤ 243 := by omega
  have : nl t = 2 ∨ nl t = 3 ∨ nl t = 4 ∨ nl t = 5 ∨ nl t = 6 ∨ nl t = 7 ∨ nl t = 8 ∨ nl t = 9 := by omega
  rcases this with e | e | e | e | e | e | e | e
  · exact ⟨_, ⟨hs, e, by rw [← e]; exact hg, ht, hv⟩, ok9T2⟩
  · exact ⟨_, ⟨hs, e, by rw [← e]; exact hg, ht, hv⟩, ok9T3⟩
  · exact ⟨_, ⟨hs, e, by rw [← e]; exact hg, ht, hv⟩, ok9T4⟩
  · exact ⟨_, ⟨hs, e, by rw [← e]; exact hg, ht, hv⟩, ok9T5⟩
  · exact ⟨_, ⟨hs, e, by rw [← e]; exact hg, ht, hv⟩, ok9T6⟩
  · exact ⟨_, ⟨hs, e, by rw [← e]; exact hg, ht, hv⟩, ok9T7⟩
  · exact ⟨_, ⟨hs, e, by rw [← e]; exact hg, ht, hv⟩, ok9T8⟩
  · exact ⟨_, ⟨hs, e, by rw [← e]; exact hg, ht, hv⟩, ok9T9⟩
end Go.Proofs.YteifneielgnniaaDoor.Sh
end
section
namespace Go.Proofs.YteifneielgnniaaDoor.Sh
open Go Go.Proofs
theorem fn4 : FnOk Tryd.prog 4 Tryd.f4 (bodyOf Tryd.f4) := ⟨Tryd.func4, rfl, by rfl⟩
attribute [local irreducible] wds tx n3 webOk spL tl nl wOk rwOk sameW sameSps marks heldW sameF
def s4 : Spec := hspec fun args H => match args, H with
  | [.c (.s t)], [] => some (.c (.b (.l true)), [], [])
  | _, _ => none
def E4 : Env := fun g => envGetL [(8, ⟨true, sNo, some (sRT (fun t => rwOk t = true), sRF (fun t => rwOk t = false))⟩), (9, ⟨true, sNo, some (sRT (fun t => rwOk t = true), sRF (fun t => rwOk t = false))⟩), (10, ⟨true, s10, none⟩), (11, ⟨false, s11, none⟩), (12, ⟨true, s12, none⟩)] g
theorem E4ok : EnvOk Tryd.prog E4 := envOk_alt ok8T ok8F (envOk_alt ok9T ok9F (envOk_cons ok10 (envOk_cons ok11 (envOk_cons ok12 (envOk_nil _)))))
set_option maxRecDepth 100000 in
set_option maxHeartbeats 8000000 in
theorem ok4 : Ok Tryd.prog 4 s4 := ok_of_wpaH (E := E4) mixed tts E4ok fn4 fun args H v H' o hs ho => by
  split at hs
  · rename_i t
    cases hs
    rcases Nat.lt_or_ge 1048576 (t ⟨⟩).size with hbig | hsz
    · have hb : ltB 1048576 (((t ⟨⟩).size : Nat) : Int) = true := by rw [ltB_iff]; omega
      refine ⟨_, HLe.refl _, ?_⟩
      cbv
      refine Br.t hb ?_
      cbv
      repeat' (refine Ob.mk ?_ ?_; (focus (exact rfl)); cbv)
    have hb : ltB 1048576 (((t ⟨⟩).size : Nat) : Int) = false := by rw [ltB_no]; omega
    have k1 : (0 : Int) ≤ 1 ∧ (1 : Int) < 4294967296 := by decide
    rcases bool_ft (rwOk (t ⟨⟩)) with hr | hr
    · have q1 : (!(sameW 0 0 0 0 0 0)) = false := by rw [sameW_self]; rfl
      have k0 : (0 : Int) ≤ 1 := by decide
      refine ⟨_, HLe.refl _, ?_⟩
      cbv
      refine Br.f hb ?_
      cbv
      repeat' first | (refine Ob.mk ?_ ?_; (focus (first | exact hr | exact hsz | exact k0 | exact rfl)); cbv) | (refine alt_f hr ?_; cbv) | (refine Br.f q1 ?_; cbv) | (refine Lex.mk (by decide +kernel) ?_; cbv) | (refine Br.f rfl ?_; cbv)
    · have hlen : (spL (t ⟨⟩)).length = 3 * (nl (t ⟨⟩) - 1) := by unfold spL; exact spF_len _ _
      have hn : (nl (t ⟨⟩) - 1) ≤ 8 := by have := (okA_t (rw_t hr).1).2.2; omega
      have hO : 0 = 0 ∧ (spL (t ⟨⟩)).length = 3 * (nl (t ⟨⟩) - 1) ∧ (nl (t ⟨⟩) - 1) ≤ 1048576 := ⟨rfl, hlen, by omega⟩
      have hM : 0 = 0 ∧ (marks 1 (spL (t ⟨⟩)) (nl (t ⟨⟩) - 1)).length = 3 * (nl (t ⟨⟩) - 1) ∧ (nl (t ⟨⟩) - 1) ≤ 1048576 := ⟨rfl, by rw [marks_len _ _ (by omega)]; exact hlen, by omega⟩
      have q1 : (!(sameW (n3 (ln (t ⟨⟩) 0) 0) (n3 (ln (t ⟨⟩) 0) 1) (n3 (ln (t ⟨⟩) 0) 2) (n3 (ln (t ⟨⟩) 0) 0) (n3 (ln (t ⟨⟩) 0) 1) (n3 (ln (t ⟨⟩) 0) 2) && ((nl (t ⟨⟩) - 1) == (nl (t ⟨⟩) - 1) && sameSps (spL (t ⟨⟩)) (spL (t ⟨⟩)) (nl (t ⟨⟩) - 1)))) = false := by rw [sameW_self, sameSps_self, beq_self_eq_true]; rfl
      have hh : (if heldW 1 (marks 1 (spL (t ⟨⟩)) (nl (t ⟨⟩) - 1)) (nl (t ⟨⟩) - 1) = true then (1 : Int) + (((nl (t ⟨⟩) - 1) * 3 : Nat) : Int) else -1) = (1 : Int) + (((nl (t ⟨⟩) - 1) * 3 : Nat) : Int) := by rw [held_marks]; rfl
      have e1 : ltB (if heldW 1 (marks 1 (spL (t ⟨⟩)) (nl (t ⟨⟩) - 1)) (nl (t ⟨⟩) - 1) = true then (1 : Int) + (((nl (t ⟨⟩) - 1) * 3 : Nat) : Int) else -1) 0 = false := by rw [hh, ltB_no]; omega
      have e2 : ((if heldW 1 (marks 1 (spL (t ⟨⟩)) (nl (t ⟨⟩) - 1)) (nl (t ⟨⟩) - 1) = true then (1 : Int) + (((nl (t ⟨⟩) - 1) * 3 : Nat) : Int) else -1) != (1 : Int) + (((nl (t ⟨⟩) - 1) * 3 : Nat) : Int)) = false := by rw [hh]; exact bne_self_eq_false _
      refine ⟨_, HLe.refl _, ?_⟩
      cbv
      refine Br.f hb ?_
      cbv
      repeat' first | (refine Ob.mk ?_ ?_; (focus (first | exact hr | exact hsz | exact hO | exact hM | exact k1 | exact rfl)); cbv) | (refine alt_t hr ?_; cbv) | (refine Br.f q1 ?_; cbv) | (refine Br.f e1 ?_; cbv) | (refine Br.f e2 ?_; cbv) | (refine Lex.mk (by decide +kernel) ?_; cbv) | (refine Br.f rfl ?_; cbv)
  · cases hs
end Go.Proofs.YteifneielgnniaaDoor.Sh
end
