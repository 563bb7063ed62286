/- What the law of corrections at two rows of bytes of this seat compute, each shown once. No condition. -/
import Derived.Test.YtanndlifpojenaaVh
set_option linter.unusedVariables false
set_option linter.unusedSimpArgs false
set_option linter.unusedSectionVars false
namespace Go.Proofs.Ytanndlifpojenaa.Sh
open Go Go.Proofs
section
set_option maxRecDepth 100000 in
set_option maxHeartbeats 4000000 in
theorem p3a (oc nc : Unit → Nat) (L : Unit → List Int) (om nm : Unit → Nat) (L' : Unit → List Int) (hby : bytesOk (L ⟨⟩)) (hcb : oc ⟨⟩ = 0 ∧ (L ⟨⟩).length = nc ⟨⟩ ∧ nc ⟨⟩ ≤ 4096 ∧ bytesOk (L ⟨⟩)) (hby' : bytesOk (L' ⟨⟩)) (hcb' : om ⟨⟩ = 0 ∧ (L' ⟨⟩).length = nm ⟨⟩ ∧ nm ⟨⟩ ≤ 4096 ∧ bytesOk (L' ⟨⟩)) (hst : ∀ k r, k < 32 → r < 801 → stepOk k r = true) {ra rb : Nat} (hra : ra < 801) (hrb : rb < 801) :
    wpS Try.prog ⟨tt, E3, 2⟩ (cutR 15 (bodyOf Try.f3)) (finE tt Try.f3.results.toList 2 (.c (.b (.l true))) [none, none]) (fr 220 [(0, .c (.sl 0 (.x oc) (.x nc))), (5, .c (.z .f32 (fun _ => q16 ra) (fun _ => q16 rb)))]) [some ⟨false, 0, .it .u8 L⟩, some ⟨false, 0, .it .u8 L'⟩] := by
  obtain ⟨rk, hrk, hb⟩ := pk_nat hby (k := 32) (by decide) (0, 0)
  have hb : pkV (L ⟨⟩) 32 (0, 0) = (rk : Int) := hb
  have hs : fop .quo .f32 (floatOfInt .f32 (IntKind.wrap .i64 (1 + pkV (L ⟨⟩) 32 (0, 0)))) 1098907648 = st16 rk := by
    rw [hb, wrap64 (by omega) (by omega)]; rfl
  obtain ⟨a1, a2, a3, a4⟩ := stepOk_of (hst rk ra hrk hra)
  obtain ⟨b1, b2, b3, b4⟩ := stepOk_of (hst rk rb hrk hrb)
  have hi := allR_at d_stin hrk
  have o1 : okM (q16 ra, q16 rb) = true := drawn_ok ⟨ra, rb, hra, hrb, rfl⟩
  have o2 : okM (stepX (q16 ra) (st16 rk), stepX (q16 rb) (st16 rk)) = true := by
    show (okX _ && okX _) = true
    rw [a2, b2]; rfl
  have c1 := sameM_self (stepX (q16 ra) (st16 rk), stepX (q16 rb) (st16 rk))
  have c2 : (fcmp .eql .f32 (stepX (stepX (q16 ra) (st16 rk)) (st16 rk)) (stepX (q16 ra) (st16 rk)) && fcmp .eql .f32 (stepX (stepX (q16 rb) (st16 rk)) (st16 rk)) (stepX (q16 rb) (st16 rk))) = true := by rw [a3, b3]; rfl
  refine wpS_of (c := ⟨tt, E3, 2⟩) mixed tts E3ok ?_
  cbv
  repeat' (refine Ob.mk ?_ ?_; (focus ((try dsimp only [IE.val, NE.val, BE.val]); first | exact True.intro | exact hcb | exact hcb')); cbv)
  dsimp only [IE.val, NE.val, BE.val]
  simp only [hs]
  repeat' (refine Ob.mk ?_ ?_; (focus ((try dsimp only [IE.val, NE.val, BE.val]); first | exact ⟨o1, hi, a1, b1⟩ | exact ⟨o2, hi, a4, b4⟩)); cbv)
  refine Br.t (eqz_t rfl) ?_
  cbv
  refine Br.t (eqz_t rfl) ?_
  cbv
  refine Br.t (c1) ?_
  cbv
  refine Br.t (eqz_t rfl) ?_
  cbv
  repeat' (refine Ob.mk ?_ ?_; (focus (first | exact c2 | exact rfl | trace_state)); cbv)
end
section
set_option maxRecDepth 100000 in
set_option maxHeartbeats 4000000 in
theorem p2a (oc nc : Unit → Nat) (L : Unit → List Int) (om nm : Unit → Nat) (L' : Unit → List Int) (hby : bytesOk (L ⟨⟩)) (hcb : oc ⟨⟩ = 0 ∧ (L ⟨⟩).length = nc ⟨⟩ ∧ nc ⟨⟩ ≤ 4096 ∧ bytesOk (L ⟨⟩)) (hby' : bytesOk (L' ⟨⟩)) (hcb' : om ⟨⟩ = 0 ∧ (L' ⟨⟩).length = nm ⟨⟩ ∧ nm ⟨⟩ ≤ 4096 ∧ bytesOk (L' ⟨⟩)) (hst : ∀ k r, k < 32 → r < 801 → stepOk k r = true) {ra rb cc w : Nat} (hra : ra < 801) (hrb : rb < 801) (hcc : 1 ≤ cc ∧ cc ≤ 3) (hw : isIn w 0 1166016512 = true) :
    wpS Try.prog ⟨tt, E3, 2⟩ (cutR 9 (bodyOf Try.f3)) (finE tt Try.f3.results.toList 2 (.c (.b (.l true))) [none, none]) (fr 220 [(0, .c (.sl 0 (.x oc) (.x nc))), (1, .c (.sl 1 (.x om) (.x nm))), (5, .c (.z .f32 (fun _ => q16 ra) (fun _ => q16 rb))), (6, .c (.i .i64 (.x fun _ => (cc : Int)))), (8, .c (.f .f32 fun _ => w))]) [some ⟨false, 0, .it .u8 L⟩, some ⟨false, 0, .it .u8 L'⟩] := by
  obtain ⟨rs, hrs, hb⟩ := pk_nat hby' (k := 33) (by decide) (0, 0)
  have hb : pkV (L' ⟨⟩) 33 (0, 0) = (rs : Int) := hb
  have hsh : isIn (fop .quo .f32 (floatOfInt .f32 (pkV (L' ⟨⟩) 33 (0, 0))) 1098907648) 0 1073741824 = true := by rw [hb]; exact allR_at d_share hrs
  have hSok := shL_ok hby' (0, 0)
  have hSl := shL_len (L' ⟨⟩) (0, 0)
  have hE : forced [fun _ => (((shL (L' ⟨⟩) (0, 0)).getD 0 (0, 0)).1, ((shL (L' ⟨⟩) (0, 0)).getD 0 (0, 0)).2), fun _ => (((shL (L' ⟨⟩) (0, 0)).getD 1 (0, 0)).1, ((shL (L' ⟨⟩) (0, 0)).getD 1 (0, 0)).2), fun _ => (((shL (L' ⟨⟩) (0, 0)).getD 2 (0, 0)).1, ((shL (L' ⟨⟩) (0, 0)).getD 2 (0, 0)).2), fun _ => (((shL (L' ⟨⟩) (0, 0)).getD 3 (0, 0)).1, ((shL (L' ⟨⟩) (0, 0)).getD 3 (0, 0)).2), fun _ => (((shL (L' ⟨⟩) (0, 0)).getD 4 (0, 0)).1, ((shL (L' ⟨⟩) (0, 0)).getD 4 (0, 0)).2), fun _ => (((shL (L' ⟨⟩) (0, 0)).getD 5 (0, 0)).1, ((shL (L' ⟨⟩) (0, 0)).getD 5 (0, 0)).2), fun _ => (((shL (L' ⟨⟩) (0, 0)).getD 6 (0, 0)).1, ((shL (L' ⟨⟩) (0, 0)).getD 6 (0, 0)).2), fun _ => (((shL (L' ⟨⟩) (0, 0)).getD 7 (0, 0)).1, ((shL (L' ⟨⟩) (0, 0)).getD 7 (0, 0)).2), fun _ => (((shL (L' ⟨⟩) (0, 0)).getD 8 (0, 0)).1, ((shL (L' ⟨⟩) (0, 0)).getD 8 (0, 0)).2), fun _ => (((shL (L' ⟨⟩) (0, 0)).getD 9 (0, 0)).1, ((shL (L' ⟨⟩) (0, 0)).getD 9 (0, 0)).2), fun _ => (((shL (L' ⟨⟩) (0, 0)).getD 10 (0, 0)).1, ((shL (L' ⟨⟩) (0, 0)).getD 10 (0, 0)).2), fun _ => (((shL (L' ⟨⟩) (0, 0)).getD 11 (0, 0)).1, ((shL (L' ⟨⟩) (0, 0)).getD 11 (0, 0)).2), fun _ => (((shL (L' ⟨⟩) (0, 0)).getD 12 (0, 0)).1, ((shL (L' ⟨⟩) (0, 0)).getD 12 (0, 0)).2), fun _ => (((shL (L' ⟨⟩) (0, 0)).getD 13 (0, 0)).1, ((shL (L' ⟨⟩) (0, 0)).getD 13 (0, 0)).2), fun _ => (((shL (L' ⟨⟩) (0, 0)).getD 14 (0, 0)).1, ((shL (L' ⟨⟩) (0, 0)).getD 14 (0, 0)).2), fun _ => (((shL (L' ⟨⟩) (0, 0)).getD 15 (0, 0)).1, ((shL (L' ⟨⟩) (0, 0)).getD 15 (0, 0)).2)] = shL (L' ⟨⟩) (0, 0) := eta16 hSl
  have hci : 0 ≤ (cc : Int) ∧ (cc : Int) ≤ 3 := by omega
  refine wpS_cut (c := ⟨tt, E3, 2⟩) mixed tts E3ok 5 (fun _ => fr 220 [(0, .c (.sl 0 (.x oc) (.x nc))), (5, .c (.z .f32 (fun _ => q16 ra) (fun _ => q16 rb)))]) (fun _ => [some ⟨false, 0, .it .u8 L⟩, some ⟨false, 0, .it .u8 L'⟩]) (fun _ => True) (by rfl) ?_ (fun _ => by rw [cut_9_5]; exact p3a oc nc L om nm L' hby hcb hby' hcb' hst hra hrb)
  cbv
  repeat' (refine Ob.mk ?_ ?_; (focus ((try dsimp only [IE.val, NE.val, BE.val]); first | exact True.intro | exact hcb | exact hcb')); cbv)
  dsimp only [IE.val, NE.val, BE.val]
  simp only [hE]
  clear hb
  generalize fop .quo .f32 (floatOfInt .f32 (pkV (L' ⟨⟩) 33 (0, 0))) 1098907648 = sh at *
  generalize shL (L' ⟨⟩) (0, 0) = S at *
  repeat' (refine Ob.mk ?_ ?_; (focus ((try dsimp only [IE.val, NE.val, BE.val]); first | exact ⟨rfl, hSok, hci, hsh, hw, by decide, by decide⟩)); cbv)
  dsimp only [IE.val, NE.val, BE.val]
  simp only [hE]
  have hKlen := corr_len (c := Int.toNat (cc : Int)) (sh := sh) (w := w) (m := Int.toNat 40) (n := 0) hSl
  have hKcode := corr_code (c := Int.toNat (cc : Int)) (sh := sh) (w := w) (m := Int.toNat 40) (n := 0) (l := S)
  have hKok := fun r l' => corr_ok (c := Int.toNat (cc : Int)) (sh := sh) (w := w) (m := Int.toNat 40) (n := 0) (l := S) (r := r) (l' := l') hSok
  have hKless := fun j l' => corr_less (c := Int.toNat (cc : Int)) (sh := sh) (w := w) (j := j) (m := Int.toNat 40) (n := 0) (l := S) (l' := l')
  generalize hKd : corrK (Int.toNat (cc : Int)) sh w (Int.toNat 40) 0 S = K at *
  obtain ⟨k1, k2, k3⟩ := K
  dsimp only at *
  refine Br.f (ne_ffI rfl) ?_
  cbv
  repeat' (refine Ob.mk ?_ ?_; (focus ((try dsimp only [IE.val, NE.val, BE.val]); first | exact rfl)); cbv)
  refine Br.f (ntf (sameSh_self _)) ?_
  cbv
  refine Br.f (ne_ffI rfl) ?_
  cbv
  have hE3 : forced [fun _ => (((k3).getD 0 (0, 0)).1, ((k3).getD 0 (0, 0)).2), fun _ => (((k3).getD 1 (0, 0)).1, ((k3).getD 1 (0, 0)).2), fun _ => (((k3).getD 2 (0, 0)).1, ((k3).getD 2 (0, 0)).2), fun _ => (((k3).getD 3 (0, 0)).1, ((k3).getD 3 (0, 0)).2), fun _ => (((k3).getD 4 (0, 0)).1, ((k3).getD 4 (0, 0)).2), fun _ => (((k3).getD 5 (0, 0)).1, ((k3).getD 5 (0, 0)).2), fun _ => (((k3).getD 6 (0, 0)).1, ((k3).getD 6 (0, 0)).2), fun _ => (((k3).getD 7 (0, 0)).1, ((k3).getD 7 (0, 0)).2), fun _ => (((k3).getD 8 (0, 0)).1, ((k3).getD 8 (0, 0)).2), fun _ => (((k3).getD 9 (0, 0)).1, ((k3).getD 9 (0, 0)).2), fun _ => (((k3).getD 10 (0, 0)).1, ((k3).getD 10 (0, 0)).2), fun _ => (((k3).getD 11 (0, 0)).1, ((k3).getD 11 (0, 0)).2), fun _ => (((k3).getD 12 (0, 0)).1, ((k3).getD 12 (0, 0)).2), fun _ => (((k3).getD 13 (0, 0)).1, ((k3).getD 13 (0, 0)).2), fun _ => (((k3).getD 14 (0, 0)).1, ((k3).getD 14 (0, 0)).2), fun _ => (((k3).getD 15 (0, 0)).1, ((k3).getD 15 (0, 0)).2)] = k3 := eta16 hKlen
  by_cases h0 : k1 = 0
  · obtain ⟨g1, g2, g3, g4⟩ := hKok k2 k3 (by rw [h0])
    have g2 : k2 ≤ 40 := by have : k2 ≤ 0 + 40 := g2; omega
    have hok3 : okS (forced [fun _ => (((k3).getD 0 (0, 0)).1, ((k3).getD 0 (0, 0)).2), fun _ => (((k3).getD 1 (0, 0)).1, ((k3).getD 1 (0, 0)).2), fun _ => (((k3).getD 2 (0, 0)).1, ((k3).getD 2 (0, 0)).2), fun _ => (((k3).getD 3 (0, 0)).1, ((k3).getD 3 (0, 0)).2), fun _ => (((k3).getD 4 (0, 0)).1, ((k3).getD 4 (0, 0)).2), fun _ => (((k3).getD 5 (0, 0)).1, ((k3).getD 5 (0, 0)).2), fun _ => (((k3).getD 6 (0, 0)).1, ((k3).getD 6 (0, 0)).2), fun _ => (((k3).getD 7 (0, 0)).1, ((k3).getD 7 (0, 0)).2), fun _ => (((k3).getD 8 (0, 0)).1, ((k3).getD 8 (0, 0)).2), fun _ => (((k3).getD 9 (0, 0)).1, ((k3).getD 9 (0, 0)).2), fun _ => (((k3).getD 10 (0, 0)).1, ((k3).getD 10 (0, 0)).2), fun _ => (((k3).getD 11 (0, 0)).1, ((k3).getD 11 (0, 0)).2), fun _ => (((k3).getD 12 (0, 0)).1, ((k3).getD 12 (0, 0)).2), fun _ => (((k3).getD 13 (0, 0)).1, ((k3).getD 13 (0, 0)).2), fun _ => (((k3).getD 14 (0, 0)).1, ((k3).getD 14 (0, 0)).2), fun _ => (((k3).getD 15 (0, 0)).1, ((k3).getD 15 (0, 0)).2)]) = true := by rw [hE3]; exact g4
    have hgt : fcmp .gtr .f32 (grS (forced [fun _ => (((k3).getD 0 (0, 0)).1, ((k3).getD 0 (0, 0)).2), fun _ => (((k3).getD 1 (0, 0)).1, ((k3).getD 1 (0, 0)).2), fun _ => (((k3).getD 2 (0, 0)).1, ((k3).getD 2 (0, 0)).2), fun _ => (((k3).getD 3 (0, 0)).1, ((k3).getD 3 (0, 0)).2), fun _ => (((k3).getD 4 (0, 0)).1, ((k3).getD 4 (0, 0)).2), fun _ => (((k3).getD 5 (0, 0)).1, ((k3).getD 5 (0, 0)).2), fun _ => (((k3).getD 6 (0, 0)).1, ((k3).getD 6 (0, 0)).2), fun _ => (((k3).getD 7 (0, 0)).1, ((k3).getD 7 (0, 0)).2), fun _ => (((k3).getD 8 (0, 0)).1, ((k3).getD 8 (0, 0)).2), fun _ => (((k3).getD 9 (0, 0)).1, ((k3).getD 9 (0, 0)).2), fun _ => (((k3).getD 10 (0, 0)).1, ((k3).getD 10 (0, 0)).2), fun _ => (((k3).getD 11 (0, 0)).1, ((k3).getD 11 (0, 0)).2), fun _ => (((k3).getD 12 (0, 0)).1, ((k3).getD 12 (0, 0)).2), fun _ => (((k3).getD 13 (0, 0)).1, ((k3).getD 13 (0, 0)).2), fun _ => (((k3).getD 14 (0, 0)).1, ((k3).getD 14 (0, 0)).2), fun _ => (((k3).getD 15 (0, 0)).1, ((k3).getD 15 (0, 0)).2)]) (Int.toNat (cc : Int)) 3).2 w = false := by rw [hE3]; exact leq_gtr g3
    refine Br.t (eqz_t h0) ?_
    cbv
    repeat' (refine Ob.mk ?_ ?_; (focus (first | exact ⟨rfl, hok3, hci⟩ | exact rfl)); cbv)
    refine Br.f (ne_ffI rfl) ?_
    cbv
    refine Br.f (hgt) ?_
    cbv
    refine Br.f (ltB_no.2 (Int.not_lt.2 (Int.natCast_nonneg _))) ?_
    cbv
    refine Br.f (ltB_no.2 (Int.not_lt.2 (Int.ofNat_le.2 g2))) ?_
    cbv
    by_cases hpos : 0 < k2
    · refine Br.t (ltB_iff.2 (Int.natCast_pos.2 hpos)) ?_
      cbv
      have hm : IntKind.wrap .i64 ((k2 : Int) - 1) = ((k2 - 1 : Nat) : Int) := by rw [wrap64 (by omega) (by omega)]; omega
      have hm0 : 0 ≤ IntKind.wrap .i64 ((k2 : Int) - 1) := by rw [hm]; omega
      have hm1 : IntKind.wrap .i64 ((k2 : Int) - 1) ≤ 200 := by rw [hm]; omega
      have hSok2 : okS (forced [fun _ => (((S).getD 0 (0, 0)).1, ((S).getD 0 (0, 0)).2), fun _ => (((S).getD 1 (0, 0)).1, ((S).getD 1 (0, 0)).2), fun _ => (((S).getD 2 (0, 0)).1, ((S).getD 2 (0, 0)).2), fun _ => (((S).getD 3 (0, 0)).1, ((S).getD 3 (0, 0)).2), fun _ => (((S).getD 4 (0, 0)).1, ((S).getD 4 (0, 0)).2), fun _ => (((S).getD 5 (0, 0)).1, ((S).getD 5 (0, 0)).2), fun _ => (((S).getD 6 (0, 0)).1, ((S).getD 6 (0, 0)).2), fun _ => (((S).getD 7 (0, 0)).1, ((S).getD 7 (0, 0)).2), fun _ => (((S).getD 8 (0, 0)).1, ((S).getD 8 (0, 0)).2), fun _ => (((S).getD 9 (0, 0)).1, ((S).getD 9 (0, 0)).2), fun _ => (((S).getD 10 (0, 0)).1, ((S).getD 10 (0, 0)).2), fun _ => (((S).getD 11 (0, 0)).1, ((S).getD 11 (0, 0)).2), fun _ => (((S).getD 12 (0, 0)).1, ((S).getD 12 (0, 0)).2), fun _ => (((S).getD 13 (0, 0)).1, ((S).getD 13 (0, 0)).2), fun _ => (((S).getD 14 (0, 0)).1, ((S).getD 14 (0, 0)).2), fun _ => (((S).getD 15 (0, 0)).1, ((S).getD 15 (0, 0)).2)]) = true := by rw [hE]; exact hSok
      have h7 : (corrK (Int.toNat (cc : Int)) sh w (Int.toNat (IntKind.wrap .i64 ((k2 : Int) - 1))) 0 (forced [fun _ => (((S).getD 0 (0, 0)).1, ((S).getD 0 (0, 0)).2), fun _ => (((S).getD 1 (0, 0)).1, ((S).getD 1 (0, 0)).2), fun _ => (((S).getD 2 (0, 0)).1, ((S).getD 2 (0, 0)).2), fun _ => (((S).getD 3 (0, 0)).1, ((S).getD 3 (0, 0)).2), fun _ => (((S).getD 4 (0, 0)).1, ((S).getD 4 (0, 0)).2), fun _ => (((S).getD 5 (0, 0)).1, ((S).getD 5 (0, 0)).2), fun _ => (((S).getD 6 (0, 0)).1, ((S).getD 6 (0, 0)).2), fun _ => (((S).getD 7 (0, 0)).1, ((S).getD 7 (0, 0)).2), fun _ => (((S).getD 8 (0, 0)).1, ((S).getD 8 (0, 0)).2), fun _ => (((S).getD 9 (0, 0)).1, ((S).getD 9 (0, 0)).2), fun _ => (((S).getD 10 (0, 0)).1, ((S).getD 10 (0, 0)).2), fun _ => (((S).getD 11 (0, 0)).1, ((S).getD 11 (0, 0)).2), fun _ => (((S).getD 12 (0, 0)).1, ((S).getD 12 (0, 0)).2), fun _ => (((S).getD 13 (0, 0)).1, ((S).getD 13 (0, 0)).2), fun _ => (((S).getD 14 (0, 0)).1, ((S).getD 14 (0, 0)).2), fun _ => (((S).getD 15 (0, 0)).1, ((S).getD 15 (0, 0)).2)])).1 = 7 := by
        rw [hE, hm]
        exact hKless (k2 - 1) k3 (by rw [h0]; congr 2; omega)
      repeat' (refine Ob.mk ?_ ?_; (focus (first | exact ⟨rfl, hSok2, hci, hsh, hw, hm0, hm1⟩ | exact rfl)); cbv)
      refine Br.f (ne_ffI h7) ?_
      cbv
      refine CutG.mk trivial ?_
      cbv
      repeat' (refine Ob.mk ?_ ?_; (focus (exact rfl)); cbv)
    · refine Br.f (ltB_no.2 (fun h => hpos (Int.natCast_pos.1 h))) ?_
      cbv
      refine CutG.mk trivial ?_
      cbv
      repeat' (refine Ob.mk ?_ ?_; (focus (exact rfl)); cbv)
  · refine Br.f (eqz_f h0) ?_
    cbv
    rcases hKcode with h | h | h
    · exact absurd h h0
    · refine Br.f (ne_ffI h) ?_
      cbv
      refine CutG.mk trivial ?_
      cbv
      repeat' (refine Ob.mk ?_ ?_; (focus (exact rfl)); cbv)
    · refine Br.t (by rw [h]; rfl) ?_
      cbv
      refine Br.f (ne_ffI h) ?_
      cbv
      refine CutG.mk trivial ?_
      cbv
      repeat' (refine Ob.mk ?_ ?_; (focus (exact rfl)); cbv)
end
section
def sLaw3a : Spec := hspec fun args H => match args, H with
  | [.c (.sl 0 (.x o) (.x n)), .c (.sl 1 (.x o') (.x n'))], [some ⟨false, 0, .it .u8 L⟩, some ⟨false, 0, .it .u8 L'⟩] => some (.c (.b (.l true)), [none, none], [fun _ => o () = 0 ∧ (L ()).length = n () ∧ n () ≤ 9223372036854775807 ∧ bytesOk (L ()), fun _ => o' () = 0 ∧ (L' ()).length = n' () ∧ n' () ≤ 9223372036854775807 ∧ bytesOk (L' ())])
  | _, _ => none
set_option maxRecDepth 100000 in
set_option maxHeartbeats 8000000 in
theorem ok3a (hst : ∀ k r, k < 32 → r < 801 → stepOk k r = true) : Ok Try.prog 3 (sLaw3a) := ok_of_wpSH (E := E3) tts fn3 fun args H v H' o hs ho => by
  split at hs
  · rename_i oc nc om nm L L'
    cases hs
    obtain ⟨⟨ho0, hlen, hbig, hby⟩, ⟨ho0', hlen', hbig', hby'⟩⟩ := ho.two
    simp only [Unit.unit] at ho0 hlen hbig hby ho0' hlen' hbig' hby'
    obtain ⟨ra, rb, hra, hrb, hm⟩ := dm_drawn hby' (0, 0)
    obtain ⟨rc, hrc, hc0⟩ := pk_nat hby (k := 3) (by decide) (0, 0)
    have hc0 : pkV (L ⟨⟩) 3 (0, 0) = (rc : Int) := hc0
    have hcc : 1 ≤ 1 + rc ∧ 1 + rc ≤ 3 := by omega
    have hcw : IntKind.wrap .i64 (1 + pkV (L ⟨⟩) 3 (0, 0)) = ((1 + rc : Nat) : Int) := by rw [hc0, wrap64 (by omega) (by omega)]; omega
    obtain ⟨rv, hrv, hw0⟩ := pk_nat hby (k := 200) (by decide) (0, 0)
    have hw0 : pkV (L ⟨⟩) 200 (0, 0) = (rv : Int) := hw0
    have hww := Bool.and_eq_true_iff.1 (allR_at d_within hrv)
    have hw : isIn (fop .quo .f32 (floatOfInt .f32 (pkV (L ⟨⟩) 200 (0, 0))) 1098907648) 0 1166016512 = true := by rw [hw0]; exact hww.1
    have hww2 := Bool.and_eq_true_iff.1 hww.2
    have hwn : nn (fop .quo .f32 (floatOfInt .f32 (pkV (L ⟨⟩) 200 (0, 0))) 1098907648) := by rw [hw0]; exact hww2.1
    have hlo : fcmp .leq .f32 0 (fop .quo .f32 (floatOfInt .f32 (pkV (L ⟨⟩) 200 (0, 0))) 1098907648) = true := by rw [hw0]; exact hww2.2
    refine ⟨_, HLe.refl _, wpS_cut (c := ⟨tt, E3, 2⟩) mixed tts E3ok 9 (fun _ => fr 220 [(0, .c (.sl 0 (.x oc) (.x nc))), (1, .c (.sl 1 (.x om) (.x nm))), (5, .c (.z .f32 (fun _ => q16 ra) (fun _ => q16 rb))), (6, .c (.i .i64 (.x fun _ => ((1 + rc : Nat) : Int)))), (8, .c (.f .f32 fun _ => fop .quo .f32 (floatOfInt .f32 (pkV (L ⟨⟩) 200 (0, 0))) 1098907648))]) (fun _ => [some ⟨false, 0, .it .u8 L⟩, some ⟨false, 0, .it .u8 L'⟩]) (fun _ => (oc ⟨⟩ = 0 ∧ (L ⟨⟩).length = nc ⟨⟩ ∧ nc ⟨⟩ ≤ 4096 ∧ bytesOk (L ⟨⟩)) ∧ (om ⟨⟩ = 0 ∧ (L' ⟨⟩).length = nm ⟨⟩ ∧ nm ⟨⟩ ≤ 4096 ∧ bytesOk (L' ⟨⟩))) (by rfl) ?_ (fun hP => p2a oc nc L om nm L' hby hP.1 hby' hP.2 hst hra hrb hcc hw)⟩
    cbv
    refine Br.mk (fun hz => ?_) (fun hz => ?_)
    · cbv
      repeat' (refine Ob.mk ?_ ?_; rotate_left; cbv)
      all_goals (try simp only [Unit.unit, Int.ofNat_lt, Int.ofNat_le, BE.val, IE.val, NE.val, ltB_iff, ltB_no, leB_iff, leB_no, Int.toNat_natCast, Nat.zero_add, Nat.add_zero, Nat.mul_one, forced, beq_iff_eq, beq_eq_false_iff_ne, bne_iff_ne, bne_eq_false_iff_eq] at *)
      all_goals first | with_reducible rfl | trivial
    have hcb : oc ⟨⟩ = 0 ∧ (L ⟨⟩).length = nc ⟨⟩ ∧ nc ⟨⟩ ≤ 4096 ∧ bytesOk (L ⟨⟩) := ⟨ho0, hlen, big_ok hz, hby⟩
    clear hz
    cbv
    refine Br.mk (fun hz => ?_) (fun hz => ?_)
    · cbv
      repeat' (refine Ob.mk ?_ ?_; rotate_left; cbv)
      all_goals (try simp only [Unit.unit, Int.ofNat_lt, Int.ofNat_le, BE.val, IE.val, NE.val, ltB_iff, ltB_no, leB_iff, leB_no, Int.toNat_natCast, Nat.zero_add, Nat.add_zero, Nat.mul_one, forced, beq_iff_eq, beq_eq_false_iff_ne, bne_iff_ne, bne_eq_false_iff_eq] at *)
      all_goals first | with_reducible rfl | trivial
    have hcb' : om ⟨⟩ = 0 ∧ (L' ⟨⟩).length = nm ⟨⟩ ∧ nm ⟨⟩ ≤ 4096 ∧ bytesOk (L' ⟨⟩) := ⟨ho0', hlen', big_ok hz, hby'⟩
    clear hz
    cbv
    have hci : 0 ≤ ((1 + rc : Nat) : Int) ∧ ((1 + rc : Nat) : Int) ≤ 3 := by omega
    repeat' (refine Ob.mk ?_ ?_; (focus ((try dsimp only [IE.val, NE.val, BE.val]); first | exact True.intro | exact hcb | exact hcb' | (rw [hcw]; exact hci))); cbv)
    dsimp only [IE.val, NE.val, BE.val]
    have hE : forced [fun _ => (((movedS (1 + rc) (q16 ra, q16 rb)).getD 0 (0, 0)).1, ((movedS (1 + rc) (q16 ra, q16 rb)).getD 0 (0, 0)).2), fun _ => (((movedS (1 + rc) (q16 ra, q16 rb)).getD 1 (0, 0)).1, ((movedS (1 + rc) (q16 ra, q16 rb)).getD 1 (0, 0)).2), fun _ => (((movedS (1 + rc) (q16 ra, q16 rb)).getD 2 (0, 0)).1, ((movedS (1 + rc) (q16 ra, q16 rb)).getD 2 (0, 0)).2), fun _ => (((movedS (1 + rc) (q16 ra, q16 rb)).getD 3 (0, 0)).1, ((movedS (1 + rc) (q16 ra, q16 rb)).getD 3 (0, 0)).2), fun _ => (((movedS (1 + rc) (q16 ra, q16 rb)).getD 4 (0, 0)).1, ((movedS (1 + rc) (q16 ra, q16 rb)).getD 4 (0, 0)).2), fun _ => (((movedS (1 + rc) (q16 ra, q16 rb)).getD 5 (0, 0)).1, ((movedS (1 + rc) (q16 ra, q16 rb)).getD 5 (0, 0)).2), fun _ => (((movedS (1 + rc) (q16 ra, q16 rb)).getD 6 (0, 0)).1, ((movedS (1 + rc) (q16 ra, q16 rb)).getD 6 (0, 0)).2), fun _ => (((movedS (1 + rc) (q16 ra, q16 rb)).getD 7 (0, 0)).1, ((movedS (1 + rc) (q16 ra, q16 rb)).getD 7 (0, 0)).2), fun _ => (((movedS (1 + rc) (q16 ra, q16 rb)).getD 8 (0, 0)).1, ((movedS (1 + rc) (q16 ra, q16 rb)).getD 8 (0, 0)).2), fun _ => (((movedS (1 + rc) (q16 ra, q16 rb)).getD 9 (0, 0)).1, ((movedS (1 + rc) (q16 ra, q16 rb)).getD 9 (0, 0)).2), fun _ => (((movedS (1 + rc) (q16 ra, q16 rb)).getD 10 (0, 0)).1, ((movedS (1 + rc) (q16 ra, q16 rb)).getD 10 (0, 0)).2), fun _ => (((movedS (1 + rc) (q16 ra, q16 rb)).getD 11 (0, 0)).1, ((movedS (1 + rc) (q16 ra, q16 rb)).getD 11 (0, 0)).2), fun _ => (((movedS (1 + rc) (q16 ra, q16 rb)).getD 12 (0, 0)).1, ((movedS (1 + rc) (q16 ra, q16 rb)).getD 12 (0, 0)).2), fun _ => (((movedS (1 + rc) (q16 ra, q16 rb)).getD 13 (0, 0)).1, ((movedS (1 + rc) (q16 ra, q16 rb)).getD 13 (0, 0)).2), fun _ => (((movedS (1 + rc) (q16 ra, q16 rb)).getD 14 (0, 0)).1, ((movedS (1 + rc) (q16 ra, q16 rb)).getD 14 (0, 0)).2), fun _ => (((movedS (1 + rc) (q16 ra, q16 rb)).getD 15 (0, 0)).1, ((movedS (1 + rc) (q16 ra, q16 rb)).getD 15 (0, 0)).2)] = movedS (1 + rc) (q16 ra, q16 rb) := eta16 (by unfold movedS; rw [moveS_len]; rfl)
    have hdm : drawnM (q16 ra, q16 rb) := ⟨ra, rb, hra, hrb, rfl⟩
    have hmok := ok_moved hcc hdm
    try simp only [hcw, hm]
    try simp only [Int.toNat_natCast, hE]
    repeat' (refine Ob.mk ?_ ?_; (focus ((try dsimp only [IE.val, NE.val, BE.val]); first | exact ⟨rfl, hmok, hci, d_one, hw, by decide, by decide⟩)); cbv)
    dsimp only [IE.val, NE.val, BE.val]
    try simp only [Int.toNat_natCast, hE]
    have hK := corr_moved hcc hdm hlo
    have hg := gtr_not_leq (nn_size hdm) hwn
    have hK : corrK (1 + rc) 1065353216 (fop .quo .f32 (floatOfInt .f32 (pkV (L ⟨⟩) 200 (0, 0))) 1098907648) (Int.toNat 1) 0 (movedS (1 + rc) (q16 ra, q16 rb)) = _ := hK
    generalize corrK (1 + rc) 1065353216 (fop .quo .f32 (floatOfInt .f32 (pkV (L ⟨⟩) 200 (0, 0))) 1098907648) (Int.toNat 1) 0 (movedS (1 + rc) (q16 ra, q16 rb)) = K at *
    obtain ⟨k1, k2, k3⟩ := K
    rcases Bool.eq_false_or_eq_true (fcmp .leq .f32 (sizeM (q16 ra, q16 rb)) (fop .quo .f32 (floatOfInt .f32 (pkV (L ⟨⟩) 200 (0, 0))) 1098907648)) with hl | hl
    · rw [if_pos hl] at hK
      simp only [Prod.mk.injEq] at hK
      obtain ⟨rfl, rfl, rfl⟩ := hK
      refine Br.f (by rw [hg, hl]; rfl) ?_
      cbv
      refine Lex.mk (by decide +kernel) ?_
      cbv
      repeat' first
        | (refine Br.f (ne_ffI rfl) ?_; cbv)
        | (refine Ob.mk ?_ ?_; (focus (exact rfl)); cbv)
        | (refine Br.f (ntf (sameSh_self _)) ?_; cbv)
        | (refine CutG.mk (⟨hcb, hcb'⟩) ?_; cbv)
      all_goals trace_state
    · rw [if_neg (by rw [hl]; decide)] at hK
      simp only [Prod.mk.injEq] at hK
      obtain ⟨rfl, rfl, rfl⟩ := hK
      have hci4 : 0 ≤ ((1 + rc : Nat) : Int) ∧ ((1 + rc : Nat) : Int) < ((4 : Nat) : Int) := by omega
      obtain ⟨b0, b1, b2, b3⟩ := base_at hrc
      obtain ⟨m0, m1, m2, m3⟩ := moved_at hrc (q16 ra, q16 rb)
      obtain ⟨c00, c01⟩ := cnr_self 0 (by decide)
      obtain ⟨c10, c11⟩ := cnr_self 1 (by decide)
      obtain ⟨c20, c21⟩ := cnr_self 2 (by decide)
      obtain ⟨c30, c31⟩ := cnr_self 3 (by decide)
      refine Br.t (by rw [hg, hl]; rfl) ?_
      cbv
      refine Lex.mk (by decide +kernel) ?_
      cbv
      repeat' first
        | (refine Br.f (ne_ffI rfl) ?_; cbv)
        | (refine Ob.mk ?_ ?_; (focus (first | exact hci4 | exact rfl | (dsimp only [IE.val, NE.val, IE.nat, forced, List.length_cons, List.length_nil, Int.toNat_natCast]; omega))); cbv)
      dsimp only [IE.val, NE.val, BE.val, IE.nat, forced, Int.toNat_natCast]
      simp only [eta_base]
      refine Br.f (by simp only [b0, b1, b2, b3, m0, m1, m2, m3, c00, c01, c10, c11, c20, c21, c30, c31, Bool.and_self, Bool.not_true]) ?_
      cbv
      repeat' first
        | (refine Ob.mk ?_ ?_; (focus (exact rfl)); cbv)
        | (refine CutG.mk (⟨hcb, hcb'⟩) ?_; cbv)
      all_goals trace_state
  · cases hs
end
end Go.Proofs.Ytanndlifpojenaa.Sh
