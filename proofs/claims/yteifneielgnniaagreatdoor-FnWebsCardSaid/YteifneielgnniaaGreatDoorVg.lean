/- A web is read from its text; calm webs; what the law needs of a drawn web. No condition. -/
import Derived.Test.YteifneielgnniaaGreatDoorVf
set_option linter.unusedVariables false
set_option linter.unusedSimpArgs false
set_option linter.unusedSectionVars false
section
namespace Go.Proofs.YteifneielgnniaaGreatDoor.Sh
open Go Go.Proofs
/-! ## a web's text is read -/
def hx (a : Nat) : List UInt8 := (digL (bitsX a) 8).map b8
theorem bl_num (a : Nat) : bl (numT a) = hx a := hexT_list _
theorem hx_len (a : Nat) : (hx a).length = 8 := by unfold hx; rw [List.length_map]; rfl
theorem hx_hok (a : Nat) : (hx a).all hok = true := dig_hok _ _
theorem hok_ne {c : UInt8} (h : hok c = true) : ¬ c = 32 ∧ ¬ c = 10 := by
  unfold hok at h
  have := of_decide_eq_true h
  constructor
  · rintro rfl; revert this; decide
  · rintro rfl; revert this; decide
theorem hx_pv {a : Nat} (h : a < 4294967296) : pv 0 (hx a) = bitsX a := by
  have hb := bitsX_lt h
  unfold hx
  rw [pv_dig, show (16 : Nat) ^ 8 = 4294967296 from by decide, Nat.mod_eq_of_lt hb]; simp
theorem hx_ok {a : Nat} (h : a < 4294967296) : rnOk (hx a) = true := by
  unfold rnOk
  rw [hx_len, hx_hok, hx_pv h, bitsX_bitsX]; simp
theorem hx_rn {a : Nat} (h : a < 4294967296) : rn (hx a) = bitsX a := by
  unfold rn
  rw [if_pos (hx_ok h), hx_pv h]
theorem splA_word (c : UInt8) : ∀ (w acc r : List UInt8), (∀ x ∈ w, ¬ x = c) → splA c acc (w ++ c :: r) = (acc ++ w) :: splA c [] r
  | [], acc, r, _ => by rw [List.nil_append, splA_eq rfl, List.append_nil]
  | x :: w, acc, r, h => by
    rw [List.cons_append, splA_ne (h x (List.mem_cons_self ..)), splA_word c w _ r fun y hy => h y (List.mem_cons_of_mem _ hy)]
    simp
theorem hx_no (a : Nat) : (∀ x ∈ hx a, ¬ x = 32) ∧ ∀ x ∈ hx a, ¬ x = 10 := by
  have h := List.all_eq_true.1 (hx_hok a)
  exact ⟨fun x hx => (hok_ne (h x hx)).1, fun x hx => (hok_ne (h x hx)).2⟩
/-- a line without its end -/
def bodyL (a b c : Nat) : List UInt8 := hx a ++ 32 :: (hx b ++ 32 :: hx c)
theorem bl_append (a b : ByteArray) : bl (a ++ b) = bl a ++ bl b := by
  unfold bl; rw [ByteArray.data_append]; simp
theorem bl_line (a b c : Nat) : bl (lineT a b c) = bodyL a b c ++ [10] := by
  unfold lineT bodyL
  simp only [bl_append, bl_num]
  have h1 : bl spT = [32] := rfl
  have h2 : bl nlT = [10] := rfl
  rw [h1, h2]; simp
theorem body_no (a b c : Nat) : ∀ x ∈ bodyL a b c, ¬ x = 10 := by
  intro x hx
  unfold bodyL at hx
  simp only [List.mem_append, List.mem_cons] at hx
  rcases hx with h | rfl | h | rfl | h
  · exact (hx_no a).2 x h
  · decide
  · exact (hx_no b).2 x h
  · decide
  · exact (hx_no c).2 x h
theorem body_words (a b c : Nat) : spl 32 (bodyL a b c) = [hx a, hx b, hx c] := by
  unfold spl bodyL
  rw [splA_word 32 _ _ _ (hx_no a).1, splA_word 32 _ _ _ (hx_no b).1, splA_miss 32 _ _ (fun h => (hx_no c).1 _ h rfl)]
  simp
def linesL (st sp fd : Nat) (l : List Nat) : Nat → List (List UInt8)
  | 0 => [bodyL st sp fd]
  | i + 1 => linesL st sp fd l i ++ [bodyL (l.getD (i * 3) 0) (l.getD (i * 3 + 1) 0) (l.getD (i * 3 + 2) 0)]
theorem linesL_len (st sp fd : Nat) (l : List Nat) : ∀ i, (linesL st sp fd l i).length = i + 1
  | 0 => rfl
  | i + 1 => by unfold linesL; rw [List.length_append, linesL_len st sp fd l i]; rfl
theorem line_spl (a b c : Nat) (r : List UInt8) : spl 10 (bl (lineT a b c) ++ r) = bodyL a b c :: spl 10 r := by
  rw [bl_line]
  unfold spl
  rw [List.append_assoc, List.singleton_append, splA_word 10 _ _ _ (body_no a b c)]; rfl
theorem text_spl (st sp fd : Nat) (l : List Nat) : ∀ (i : Nat) (r : List UInt8), spl 10 (bl (textW st sp fd l i) ++ r) = linesL st sp fd l i ++ spl 10 r
  | 0, r => line_spl _ _ _ r
  | i + 1, r => by
    rw [← textW_s, bl_append, List.append_assoc, text_spl st sp fd l i, line_spl, show linesL st sp fd l (i + 1) = linesL st sp fd l i ++ [bodyL (l.getD (i * 3) 0) (l.getD (i * 3 + 1) 0) (l.getD (i * 3 + 2) 0)] from rfl, List.append_assoc]
    rfl
theorem text_wds (st sp fd : Nat) (l : List Nat) (i : Nat) : wds 10 (textW st sp fd l i) = linesL st sp fd l i ++ [[]] := by
  have := text_spl st sp fd l i []
  rw [List.append_nil] at this
  exact this
theorem text_nl (st sp fd : Nat) (l : List Nat) (i : Nat) : nl (textW st sp fd l i) = i + 1 := by
  unfold nl; rw [text_wds, List.length_append, linesL_len]; rfl
theorem linesL_at (st sp fd : Nat) (l : List Nat) (d : List UInt8) : ∀ (i j : Nat), j ≤ i → (linesL st sp fd l i).getD j d = if j = 0 then bodyL st sp fd else bodyL (l.getD ((j - 1) * 3) 0) (l.getD ((j - 1) * 3 + 1) 0) (l.getD ((j - 1) * 3 + 2) 0)
  | 0, j, h => by
    have : j = 0 := by omega
    subst this; rfl
  | i + 1, j, h => by
    unfold linesL
    have hl := linesL_len st sp fd l i
    rcases Nat.lt_or_ge j (i + 1) with hj | hj
    · have := linesL_at st sp fd l d i j (by omega)
      rw [← this]
      simp only [List.getD]
      rw [List.getElem?_append_left (by omega)]
    · have : j = i + 1 := by omega
      subst this
      simp only [List.getD]
      rw [List.getElem?_append_right (by omega), hl]
      simp
theorem text_ln (st sp fd : Nat) (l : List Nat) {i j : Nat} (h : j ≤ i) : ln (textW st sp fd l i) j = tx (if j = 0 then bodyL st sp fd else bodyL (l.getD ((j - 1) * 3) 0) (l.getD ((j - 1) * 3 + 1) 0) (l.getD ((j - 1) * 3 + 2) 0)) := by
  unfold ln
  rw [getD_map tx _ j [] _ tx_e, text_wds]
  congr 1
  rw [← linesL_at st sp fd l [] i j h]
  simp only [List.getD]
  rw [List.getElem?_append_left (by rw [linesL_len]; omega)]
theorem text_tl (st sp fd : Nat) (l : List Nat) (i : Nat) : tl (textW st sp fd l i) = true := by
  unfold tl ln
  rw [text_nl, getD_map tx _ (i + 1) [] _ tx_e, text_wds]
  have hl := linesL_len st sp fd l i
  simp only [List.getD]
  rw [List.getElem?_append_right (by omega), hl]
  simp [tx]
theorem body_read {a b c : Nat} (ha : a < 4294967296) (hb : b < 4294967296) (hc : c < 4294967296) :
    nrOk 3 (tx (bodyL a b c)) = true ∧ n3 (tx (bodyL a b c)) 0 = bitsX a ∧ n3 (tx (bodyL a b c)) 1 = bitsX b ∧ n3 (tx (bodyL a b c)) 2 = bitsX c := by
  have hw : wds 32 (tx (bodyL a b c)) = [hx a, hx b, hx c] := body_words a b c
  have h0 : wAt (tx (bodyL a b c)) 0 = hx a := by unfold wAt; rw [hw]; rfl
  have h1 : wAt (tx (bodyL a b c)) 1 = hx b := by unfold wAt; rw [hw]; rfl
  have h2 : wAt (tx (bodyL a b c)) 2 = hx c := by unfold wAt; rw [hw]; rfl
  refine ⟨three_ok.2 ⟨by rw [hw]; rfl, by rw [h0]; exact hx_ok ha, by rw [h1]; exact hx_ok hb, by rw [h2]; exact hx_ok hc⟩, ?_, ?_, ?_⟩
  · unfold n3; rw [h0, hx_rn ha]
  · unfold n3; rw [h1, hx_rn hb]
  · unfold n3; rw [h2, hx_rn hc]
theorem text_gd {st sp fd : Nat} {l : List Nat} (hw : wordsOk l) (h1 : st < 4294967296) (h2 : sp < 4294967296) (h3 : fd < 4294967296) {i j : Nat} (h : j ≤ i) : gd (textW st sp fd l i) j = true := by
  unfold gd
  rw [text_ln st sp fd l h]
  split
  · exact (body_read h1 h2 h3).1
  · exact (body_read (word_at hw _) (word_at hw _) (word_at hw _)).1
theorem text_spF {st sp fd : Nat} {l : List Nat} (hw : wordsOk l) (i : Nat) : ∀ k, k ≤ i → l.length = 3 * i → (∀ x ∈ l, bitsX x = x) → spF (textW st sp fd l i) k = l.take (3 * k)
  | 0, _, _, _ => by simp [spF]
  | k + 1, hk, hl, hb => by
    have ht := text_ln st sp fd l (i := i) (j := k + 1) (by omega)
    rw [if_neg (by omega), Nat.add_sub_cancel] at ht
    obtain ⟨_, r0, r1, r2⟩ := body_read (word_at hw (k * 3)) (word_at hw (k * 3 + 1)) (word_at hw (k * 3 + 2))
    have hat : ∀ j, j < l.length → bitsX (l.getD j 0) = l[j]?.getD 0 ∧ l[j]? = some (l[j]?.getD 0) := fun j hj => by
      have : l.getD j 0 = l[j] := by simp [List.getD, hj]
      rw [this, hb _ (List.getElem_mem hj)]
      simp [hj]
    unfold spF
    rw [text_spF hw i k (by omega) hl hb, ht, r0, r1, r2]
    obtain ⟨a0, b0⟩ := hat (k * 3) (by omega)
    obtain ⟨a1, b1⟩ := hat (k * 3 + 1) (by omega)
    obtain ⟨a2, b2⟩ := hat (k * 3 + 2) (by omega)
    rw [a0, a1, a2]
    rw [show 3 * (k + 1) = 3 * k + 1 + 1 + 1 by omega, List.take_add_one, List.take_add_one, List.take_add_one, show 3 * k + 1 + 1 = k * 3 + 2 by omega, show 3 * k + 1 = k * 3 + 1 by omega, show 3 * k = k * 3 by omega, b2, b1, b0]
    simp
theorem text_read {st sp fd n : Nat} {l : List Nat} (hok : webOk st sp fd l n = true) (hn : 1 ≤ n ∧ n ≤ 8) (hl : l.length = 3 * n) (hw : wordsOk l) (h1 : st < 4294967296) (h2 : sp < 4294967296) (h3 : fd < 4294967296)
    (b1 : bitsX st = st) (b2 : bitsX sp = sp) (b3 : bitsX fd = fd) (hb : ∀ x ∈ l, bitsX x = x) :
    rwOk (textW st sp fd l n) = true ∧ n3 (ln (textW st sp fd l n) 0) 0 = st ∧ n3 (ln (textW st sp fd l n) 0) 1 = sp ∧ n3 (ln (textW st sp fd l n) 0) 2 = fd ∧ spL (textW st sp fd l n) = l ∧ nl (textW st sp fd l n) - 1 = n := by
  have hnl := text_nl st sp fd l n
  have ht := text_ln st sp fd l (i := n) (j := 0) (by omega)
  rw [if_pos rfl] at ht
  obtain ⟨_, r0, r1, r2⟩ := body_read h1 h2 h3
  have hS : spL (textW st sp fd l n) = l := by
    unfold spL
    rw [hnl, Nat.add_sub_cancel, text_spF hw n n (Nat.le_refl _) hl hb, List.take_of_length_le (by omega)]
  have e0 : n3 (ln (textW st sp fd l n) 0) 0 = st := by rw [ht, r0, b1]
  have e1 : n3 (ln (textW st sp fd l n) 0) 1 = sp := by rw [ht, r1, b2]
  have e2 : n3 (ln (textW st sp fd l n) 0) 2 = fd := by rw [ht, r2, b3]
  have en : nl (textW st sp fd l n) - 1 = n := by rw [hnl]; omega
  refine ⟨?_, e0, e1, e2, hS, en⟩
  have hA : okA (textW st sp fd l n) = true := by unfold okA; rw [text_tl, hnl, decide_eq_true (by omega)]; rfl
  have hG : gdTo (textW st sp fd l n) (nl (textW st sp fd l n)) = true := allI_all fun j hj => text_gd hw h1 h2 h3 (by omega)
  have hW : wOk (textW st sp fd l n) = true := by unfold wOk; rw [e0, e1, e2, hS, en]; exact hok
  unfold rwOk
  rw [hA, hG, hW]; rfl
end Go.Proofs.YteifneielgnniaaGreatDoor.Sh
end
section
namespace Go.Proofs.YteifneielgnniaaGreatDoor.Sh
open Go Go.Proofs
/-! ## a calm web: one speed, one tension -/
def calmT (l : List Nat) (sp fd : Nat) : Nat → List Nat
  | 0 => []
  | i + 1 => calmT l sp fd i ++ [l.getD (i * 3) 0, sp, fd]
theorem calm_len (l : List Nat) (sp fd : Nat) : ∀ i, (calmT l sp fd i).length = 3 * i
  | 0 => rfl
  | i + 1 => by unfold calmT; rw [List.length_append, calm_len l sp fd i]; simp; omega
theorem calm_at (l : List Nat) (sp fd : Nat) : ∀ {n i : Nat}, i < n → (calmT l sp fd n).getD (i * 3) 0 = l.getD (i * 3) 0 ∧ (calmT l sp fd n).getD (i * 3 + 1) 0 = sp ∧ (calmT l sp fd n).getD (i * 3 + 2) 0 = fd
  | n + 1, i, h => by
    have hl := calm_len l sp fd n
    unfold calmT
    rcases Nat.lt_or_ge i n with hi | hi
    · obtain ⟨a, b, c⟩ := calm_at l sp fd hi
      rw [getD_app_l (by omega), getD_app_l (by omega), getD_app_l (by omega)]
      exact ⟨a, b, c⟩
    · have : i = n := by omega
      subst this
      rw [getD_app_r (by omega), getD_app_r (by omega), getD_app_r (by omega), show i * 3 - (calmT l sp fd i).length = 0 by omega, show i * 3 + 1 - (calmT l sp fd i).length = 1 by omega, show i * 3 + 2 - (calmT l sp fd i).length = 2 by omega]
      exact ⟨rfl, rfl, rfl⟩
theorem c_sub : allR 20 (fun r => fop .sub .f32 (spd (64 + 16 * r)) (spd (64 + 16 * r)) == 0) = true := by decide +kernel
theorem c_mul : allR 4 (fun r => fop .mul .f32 (floatOfInt .f32 ([64, 256, 1000, 4096].getD r 0)) 0 == 0) = true := by decide +kernel
theorem c_pull : allR 20 (fun r => allR 40 fun a => fop .sub .f32 (fop .mul .f32 (spd (64 + 16 * r)) (fq (a : Int) 1082130432)) (fop .mul .f32 (spd (64 + 16 * r)) (fq (a : Int) 1082130432)) == 0) = true := by decide +kernel
theorem c_add : fop .add .f32 0 0 = 0 := by decide +kernel
theorem c_quo : allR 30 (fun r => fop .quo .f32 0 (fq (2 + (r : Int)) 1073741824) == 0) = true := by decide +kernel
theorem c_time : allR 40 (fun b => fop .mul .f32 (fq (b : Int) 1115684864) 0 == 0) = true := by decide +kernel
theorem c_time2 : allR 40 (fun b => isTime (fq (b : Int) 1115684864)) = true := by decide +kernel
theorem c_feed : allR 40 (fun a => fop .add .f32 (fq (a : Int) 1082130432) 0 == fq (a : Int) 1082130432) = true := by decide +kernel
theorem c_feed2 : allR 40 (fun a => isPlain (fq (a : Int) 1082130432)) = true := by decide +kernel
theorem c_feed3 : allR 40 (fun a => fcmp .neq .f32 (fq (a : Int) 1082130432) (fq (a : Int) 1082130432) == false) = true := by decide +kernel
/-- what a calm web's numbers are -/
structure Calm (st sp fd tm n : Nat) (l : List Nat) : Prop where
  hst : ∃ r : Nat, r < 4 ∧ st = floatOfInt .f32 ([64, 256, 1000, 4096].getD r 0)
  hsp : ∃ r : Nat, r < 20 ∧ sp = spd (64 + 16 * r)
  hfd : ∃ a : Nat, a < 40 ∧ fd = fq (a : Int) 1082130432
  htm : ∃ b : Nat, b < 40 ∧ tm = fq (b : Int) 1115684864
  hlen : ∀ i, i < n → ∃ r : Nat, r < 30 ∧ l.getD (i * 3) 0 = fq (2 + (r : Int)) 1073741824
  hok : webOk st sp fd l n = true
variable {st sp fd tm n : Nat} {l : List Nat}
theorem Calm.rate (h : Calm st sp fd tm n l) {i : Nat} (hi : i < n) : rateW st sp fd (calmT l sp fd n) i = 0 := by
  obtain ⟨r1, k1, e1⟩ := h.hst
  obtain ⟨r2, k2, e2⟩ := h.hsp
  obtain ⟨a, k3, e3⟩ := h.hfd
  obtain ⟨r3, k4, e4⟩ := h.hlen i hi
  obtain ⟨a0, a1, a2⟩ := calm_at l sp fd hi
  have u : uB sp (calmT l sp fd n) i = sp := by
    unfold uB
    split
    · rfl
    · exact (calm_at l sp fd (show i - 1 < n by omega)).2.1
  have t : tB fd (calmT l sp fd n) i = fd := by
    unfold tB
    split
    · rfl
    · exact (calm_at l sp fd (show i - 1 < n by omega)).2.2
  have f1 : fop .sub .f32 sp sp = 0 := by rw [e2]; have t := allR_at c_sub k2; exact eq_of_beq t
  have f2 : fop .mul .f32 st 0 = 0 := by rw [e1]; have t := allR_at c_mul k1; exact eq_of_beq t
  have f3 : fop .sub .f32 (fop .mul .f32 sp fd) (fop .mul .f32 sp fd) = 0 := by rw [e2, e3]; have t := allR_at (allR_at c_pull k2) k3; exact eq_of_beq t
  have f4 : fop .quo .f32 0 (l.getD (i * 3) 0) = 0 := by rw [e4]; have t := allR_at c_quo k4; exact eq_of_beq t
  unfold rateW
  rw [u, t, a0, a1, a2, f1, f2, f3, c_add, f4]
theorem Calm.ten (h : Calm st sp fd tm n l) {i : Nat} (hi : i < n) : stepF st sp fd tm (calmT l sp fd n) i = (calmT l sp fd n).getD (i * 3 + 2) 0 := by
  obtain ⟨a, k3, e3⟩ := h.hfd
  obtain ⟨b, k5, e5⟩ := h.htm
  have f5 : fop .mul .f32 tm 0 = 0 := by
    rw [e5]; have t := allR_at c_time k5; exact eq_of_beq t
  have f6 : fop .add .f32 fd 0 = fd := by
    rw [e3]; have t := allR_at c_feed k3; exact eq_of_beq t
  unfold stepF
  rw [h.rate hi, (calm_at l sp fd hi).2.2, f5, f6]
theorem tenTo_same {l : List Nat} {g : Nat → Nat} : ∀ {n : Nat}, 3 * n ≤ l.length → (∀ i, i < n → g i = l.getD (i * 3 + 2) 0) → tenTo l g n = l
  | 0, _, _ => tenTo_zero _ _
  | n + 1, hl, h => by
    rw [← tenTo_step l g (by omega), tenTo_same (n := n) (by omega) fun i hi => h i (by omega), h n (by omega)]
    apply List.ext_getElem?
    intro j
    rw [List.getElem?_set]
    split
    · rename_i e; subst e
      have : n * 3 + 2 < l.length := by omega
      simp [List.getD, this]
    · rfl
theorem Calm.step (h : Calm st sp fd tm n l) : stepW st sp fd tm (calmT l sp fd n) n = calmT l sp fd n :=
  tenTo_same (by rw [calm_len]; exact Nat.le_refl _) fun _ hi => h.ten hi
theorem Calm.run (h : Calm st sp fd tm n l) : ∀ k, runW st sp fd tm n (calmT l sp fd n) k = calmT l sp fd n
  | 0 => rfl
  | k + 1 => by unfold runW; rw [h.run k, h.step]
theorem Calm.plain (h : Calm st sp fd tm n l) : isPlain fd = true ∧ fcmp .neq .f32 fd fd = false := by
  obtain ⟨a, k3, e3⟩ := h.hfd
  rw [e3]; have t := allR_at c_feed3 k3; exact ⟨allR_at c_feed2 k3, eq_of_beq t⟩
theorem Calm.time (h : Calm st sp fd tm n l) : isTime tm = true := by
  obtain ⟨b, k5, e5⟩ := h.htm
  rw [e5]; exact allR_at c_time2 k5
theorem Calm.webOk (h : Calm st sp fd tm n l) : webOk st sp fd (calmT l sp fd n) n = true := by
  have h0 := h.hok
  unfold Sh.webOk at h0 ⊢
  simp only [Bool.and_eq_true] at h0 ⊢
  refine ⟨h0.1, allI_all fun i hi => ?_⟩
  have h1 := allI_at h0.2 hi
  obtain ⟨a0, a1, a2⟩ := calm_at l sp fd hi
  unfold spanOk at h1 ⊢
  rw [a0, a1, a2, h.plain.1, h0.1.1.1.2]
  simp only [Bool.and_eq_true] at h1
  rw [h1.1.1]; rfl
theorem Calm.good (h : Calm st sp fd tm n l) (k : Nat) : goodW st sp fd tm n (calmT l sp fd n) k = true := by
  unfold goodW; rw [h.run]; exact h.webOk
theorem Calm.steps (h : Calm st sp fd tm n l) : stepsC st sp fd (calmT l sp fd n) n tm 5 = 0 := by
  unfold stepsC
  rw [if_pos h.webOk, if_pos (by rw [h.time]; decide), if_pos (allI_all fun i _ => h.good i)]
theorem Calm.still (h : Calm st sp fd tm n l) : stillW st sp fd (calmT l sp fd n) n 0 = true := allI_all fun i hi => by
  unfold stillI; rw [h.rate hi]; decide +kernel
theorem Calm.settle (h : Calm st sp fd tm n l) : settleC st sp fd (calmT l sp fd n) n tm 0 0 = (0, 0) := by
  unfold settleC
  rw [if_pos h.webOk, if_pos (by rw [h.time]; decide +kernel)]
  exact sk_hit h.still
end Go.Proofs.YteifneielgnniaaGreatDoor.Sh
end
section
namespace Go.Proofs.YteifneielgnniaaGreatDoor.Sh
open Go Go.Proofs
/-! ## a web that is drawn: its numbers are texts' numbers -/
def gx (x : Nat) : Bool := decide (x < 4294967296) && bitsX x == x
theorem g_len : allR 30 (fun r => gx (fq (2 + (r : Int)) 1073741824)) = true := by decide +kernel
theorem g_spd : allR 450 (fun m => gx (spd m)) = true := by decide +kernel
theorem g_ten : allR 80 (fun r => gx (fq ((r : Int) - 8) 1082130432)) = true := by decide +kernel
theorem g_stiff : allR 4 (fun r => gx (floatOfInt .f32 ([64, 256, 1000, 4096].getD r 0))) = true := by decide +kernel
theorem g_feed : allR 40 (fun a => gx (fq (a : Int) 1082130432)) = true := by decide +kernel
section
variable {L : List Int} (h : bytesOk L) (q : Int × Int)
include h
theorem sp_lenr : ∃ r : Nat, r < 30 ∧ spLen L q = fq (2 + (r : Int)) 1073741824 := by
  obtain ⟨r, h1, h2⟩ := pk_nat h (k := 30) (by decide) (spQb L q)
  have e : pkV L 30 (spQb L q) = (r : Int) := h2
  refine ⟨r, h1, ?_⟩
  unfold spLen
  rw [e, w4 (by omega) 2 (by decide) (by decide)]
  rfl
theorem dr_stiffr : ∃ r : Nat, r < 4 ∧ drSt L q = floatOfInt .f32 ([64, 256, 1000, 4096].getD r 0) := by
  obtain ⟨r, h1, h2⟩ := pk_nat h (k := 4) (by decide) q
  have e : pkV L 4 q = (r : Int) := h2
  refine ⟨r, h1, ?_⟩
  unfold drSt
  rw [e, Int.toNat_natCast]
theorem dr_spr : ∃ r : Nat, r < 20 ∧ drSp L q = spd (64 + 16 * r) := by
  obtain ⟨r, h1, h2⟩ := pk_nat h (k := 20) (by decide) (drQ1 L q)
  have e : pkV L 20 (drQ1 L q) = (r : Int) := h2
  refine ⟨r, h1, ?_⟩
  unfold drSp
  rw [e, w4 (by omega) 4 (by decide) (by decide)]
  exact beq_iff_eq.1 (allR_at d_speed h1)
theorem dr_feedr : ∃ a : Nat, a < 40 ∧ drFd L q = fq (a : Int) 1082130432 := by
  obtain ⟨r, h1, h2⟩ := pk_nat h (k := 40) (by decide) (drQ2 L q)
  have e : pkV L 40 (drQ2 L q) = (r : Int) := h2
  refine ⟨r, h1, ?_⟩
  unfold drFd
  rw [e]; rfl
theorem dr_gxL : ∀ n, n ≤ 4 → ∀ x ∈ drL L q n, gx x = true
  | 0, _ => fun x hx => by simp [drL] at hx
  | n + 1, hn => fun x hx => by
    unfold drL at hx
    rcases List.mem_append.1 hx with hx | hx
    · exact dr_gxL n (by omega) x hx
    · simp only [List.mem_cons, List.not_mem_nil, or_false] at hx
      rcases hx with rfl | rfl | rfl
      · obtain ⟨r, h1, e⟩ := sp_lenr h (drI L q n).1
        rw [e]; exact allR_at g_len h1
      · obtain ⟨m, e, h1, h2⟩ := dr_i h q (n + 1) hn
        rw [e]; exact allR_at g_spd (by omega)
      · obtain ⟨r, h1, e⟩ := sp_tenr h (drI L q n).1
        rw [e]; exact allR_at g_ten h1
end
theorem gx_lt {x : Nat} (h : gx x = true) : x < 4294967296 := by
  unfold gx at h; simp only [Bool.and_eq_true, decide_eq_true_eq] at h; exact h.1
theorem gx_b {x : Nat} (h : gx x = true) : bitsX x = x := by
  unfold gx at h; simp only [Bool.and_eq_true, beq_iff_eq] at h; exact h.2
/-- what the law needs of the web that is drawn -/
structure Web0 (st sp fd tm n : Nat) (l : List Nat) : Prop where
  calm : Calm st sp fd tm n l
  len : l.length = 3 * n
  n1 : 1 ≤ n
  n4 : n ≤ 4
  g1 : gx st = true
  g2 : gx sp = true
  g3 : gx fd = true
  gl : ∀ x ∈ l, gx x = true
theorem web0 {L L' : List Int} (h : bytesOk L) (h' : bytesOk L') : Web0 (drSt L (0, 0)) (drSp L (0, 0)) (drFd L (0, 0)) (fop .quo .f32 (floatOfInt .f32 (pkV L' 40 (0, 0))) 1115684864) (drN L (0, 0)) (drW L (0, 0)) := by
  have hn := drN_bd h (0, 0)
  obtain ⟨r1, k1, e1⟩ := dr_stiffr h (0, 0)
  obtain ⟨r2, k2, e2⟩ := dr_spr h (0, 0)
  obtain ⟨a, k3, e3⟩ := dr_feedr h (0, 0)
  obtain ⟨b, k4, e4⟩ := pk_nat h' (k := 40) (by decide) (0, 0)
  have e4 : pkV L' 40 (0, 0) = (b : Int) := e4
  refine ⟨⟨⟨r1, k1, e1⟩, ⟨r2, k2, e2⟩, ⟨a, k3, e3⟩, ⟨b, k4, by rw [e4]; rfl⟩, fun i hi => ?_, dr_ok h (0, 0)⟩, dr_len (L := L) (0, 0), hn.1, hn.2.1, ?_, ?_, ?_, ?_⟩
  · obtain ⟨r, h1, e⟩ := sp_lenr h (drI L (0, 0) i).1
    exact ⟨r, h1, by rw [← e]; exact (drL_at L (0, 0) hi).1⟩
  · rw [e1]; exact allR_at g_stiff k1
  · rw [e2]; exact allR_at g_spd (by omega)
  · rw [e3]; exact allR_at g_feed k3
  · exact dr_gxL h (0, 0) _ hn.2.1
variable {st sp fd tm n : Nat} {l : List Nat}
theorem Web0.words (h : Web0 st sp fd tm n l) : wordsOk l := fun x hx => gx_lt (h.gl x hx)
theorem Web0.read (h : Web0 st sp fd tm n l) : rwOk (textW st sp fd l n) = true ∧ n3 (ln (textW st sp fd l n) 0) 0 = st ∧ n3 (ln (textW st sp fd l n) 0) 1 = sp ∧ n3 (ln (textW st sp fd l n) 0) 2 = fd ∧ spL (textW st sp fd l n) = l ∧ nl (textW st sp fd l n) - 1 = n :=
  text_read h.calm.hok ⟨h.n1, Nat.le_trans h.n4 (by decide)⟩ h.len h.words (gx_lt h.g1) (gx_lt h.g2) (gx_lt h.g3) (gx_b h.g1) (gx_b h.g2) (gx_b h.g3) fun x hx => gx_b (h.gl x hx)
end Go.Proofs.YteifneielgnniaaGreatDoor.Sh
end
section
namespace Go.Proofs.YteifneielgnniaaGreatDoor.Sh
open Go Go.Proofs
theorem eqW_self (a : Nat) : eqW a a = true := by
  unfold eqW
  cases h : isNan a <;> simp
theorem eqS_self (a : Nat) : eqS a a = true := by
  cases h : isNan a with
  | true => rw [eqS_nan (.inl h), h]; rfl
  | false =>
    rw [eqS_num h h]
    have : fcmp .eql .f32 a a = true := by
      have na : (Ieee.single.read a).isNaN = false := by rw [isNan_eq] at h; exact h
      show (Ieee.Datum.order (Ieee.single.read a) (Ieee.single.read a) == some .eq) = true
      rw [order_self na]; rfl
    rw [this]; simp
theorem webSame_self {st sp fd n : Nat} {l : List Nat} : webSame eqW st sp fd n l st sp fd n l = true := by
  refine same_y rfl ?_ (allI_all fun i _ => ?_)
  · simp [eqW_self]
  · simp [spanSame, eqW_self]
theorem webSameS_self {st sp fd n : Nat} {l : List Nat} : webSame eqS st sp fd n l st sp fd n l = true := by
  refine same_y rfl ?_ (allI_all fun i _ => ?_)
  · simp [eqS_self]
  · simp [spanSame, eqS_self]
theorem fn3 : FnOk Tryz.prog 3 Tryz.f3 (bodyOf Tryz.f3) := ⟨Tryz.func3, rfl, by rfl⟩
theorem calm_1 (l : List Nat) (sp fd : Nat) : [l.getD (0 + 0 * 3 + 0) 0, sp, fd] = calmT l sp fd 1 := rfl
theorem calm_s (l : List Nat) (sp fd i : Nat) : calmT l sp fd i ++ [l.getD (i * 3) 0, sp, fd] = calmT l sp fd (i + 1) := rfl
theorem run_0 (st sp fd tm n : Nat) (l : List Nat) : runW st sp fd tm n l 0 = l := rfl
theorem stepsC_01 {st sp fd tm n : Nat} {l : List Nat} {k : Int} (hw : webOk st sp fd l n = true) (ht : isTime tm = true) (hk : isCount k = true) : stepsC st sp fd l n tm k = 0 ∨ stepsC st sp fd l n tm k = 4 := by
  unfold stepsC
  rw [if_pos hw, if_pos (by rw [ht, hk]; rfl)]
  split
  · exact .inl rfl
  · exact .inr rfl
theorem asked_in {n : Nat} {i : Int} (h : 0 ≤ i) (h2 : i < (n : Int)) : askedC true i n = 0 := by
  unfold askedC
  rw [if_pos rfl, if_pos (by unfold inI; simp only [Bool.and_eq_true, leB_iff]; omega)]
theorem run_s (st sp fd tm n : Nat) (l : List Nat) (k : Nat) : runW st sp fd tm n (runW st sp fd tm n l k) 1 = runW st sp fd tm n l (k + 1) := rfl
theorem steps_1t {st sp fd tm n : Nat} {l : List Nat} {k : Nat} (hw : webOk st sp fd (runW st sp fd tm n l k) n = true) (ht : isTime tm = true) (hg : goodW st sp fd tm n l k = true) : stepsC st sp fd (runW st sp fd tm n l k) n tm 1 = 0 := by
  unfold stepsC
  rw [if_pos hw, if_pos (by rw [ht]; rfl), if_pos]
  show (true && goodW st sp fd tm n (runW st sp fd tm n l k) 0) = true
  rw [Bool.true_and]; exact hg
theorem steps_1f {st sp fd tm n : Nat} {l : List Nat} {k : Nat} (hw : webOk st sp fd (runW st sp fd tm n l k) n = true) (ht : isTime tm = true) (hg : goodW st sp fd tm n l k = false) : stepsC st sp fd (runW st sp fd tm n l k) n tm 1 = 4 := by
  unfold stepsC
  rw [if_pos hw, if_pos (by rw [ht]; rfl), if_neg]
  show ¬ (true && goodW st sp fd tm n (runW st sp fd tm n l k) 0) = true
  rw [Bool.true_and]
  intro h
  have : goodW st sp fd tm n l k = true := h
  rw [hg] at this; cases this
theorem good_web {st sp fd tm n : Nat} {l : List Nat} (hw : webOk st sp fd l n = true) : ∀ {k : Nat}, allI (goodW st sp fd tm n l) k = true → webOk st sp fd (runW st sp fd tm n l k) n = true
  | 0, _ => hw
  | k + 1, h => by
    have : goodW st sp fd tm n l k = true := allI_at h (Nat.lt_succ_self k)
    exact this
theorem steps_all {st sp fd tm n : Nat} {l : List Nat} {k : Int} (hw : webOk st sp fd l n = true) (ht : isTime tm = true) (hk : isCount k = true) : (stepsC st sp fd l n tm k = 0 → allI (goodW st sp fd tm n l) k.toNat = true) ∧ (stepsC st sp fd l n tm k = 4 → allI (goodW st sp fd tm n l) k.toNat = false) := by
  unfold stepsC
  rw [if_pos hw, if_pos (by rw [ht, hk]; rfl)]
  cases allI (goodW st sp fd tm n l) k.toNat <;> simp
theorem allI_mono {p : Nat → Bool} {n k : Nat} (h : allI p n = true) (hk : k ≤ n) : allI p k = true := allI_all fun i hi => allI_at h (by omega)
theorem allI_snoc {p : Nat → Bool} {k : Nat} (h : allI p k = true) (hk : p k = true) : allI p (k + 1) = true := by
  show (allI p k && p k) = true
  rw [h, hk]; rfl
theorem cut_3_2 : cutR 2 (cutR 3 (bodyOf Tryz.f3)) = cutR 6 (bodyOf Tryz.f3) := by rfl
theorem cut_6_3 : cutR 3 (cutR 6 (bodyOf Tryz.f3)) = cutR 10 (bodyOf Tryz.f3) := by rfl
theorem cut_10_5 : cutR 5 (cutR 10 (bodyOf Tryz.f3)) = cutR 16 (bodyOf Tryz.f3) := by rfl
def E3 : Env := fun g => envGetL [(5, ⟨true, s5, none⟩), (6, ⟨true, s6, none⟩), (7, ⟨true, s7, none⟩), (8, ⟨true, (sRT fun t => rwOk t = true ∧ nl t ≤ 5), none⟩), (9, ⟨true, s9, none⟩), (10, ⟨true, (orSpec s10 s36n), none⟩), (11, ⟨true, s11, none⟩), (12, ⟨true, s12, none⟩), (13, ⟨true, sNo, some (s13T, s13F)⟩), (14, ⟨true, sNo, some (s14T, s14F)⟩), (15, ⟨true, s15, none⟩), (16, ⟨true, s16, none⟩), (17, ⟨true, s17, none⟩), (18, ⟨true, s18, none⟩), (19, ⟨true, s19, none⟩), (20, ⟨true, s20, none⟩), (21, ⟨true, s21, none⟩), (22, ⟨true, sNo, some (s22T, s22F)⟩), (23, ⟨true, sNo, some (s23T, s23F)⟩)] g
theorem E3ok : EnvOk Tryz.prog E3 := (envOk_cons ok5 (envOk_cons ok6 (envOk_cons ok7 (envOk_cons ok8T (envOk_cons ok9 (envOk_cons ok36c (envOk_cons ok11 (envOk_cons ok12 (envOk_alt ok13T ok13F (envOk_alt ok14T ok14F (envOk_cons ok15 (envOk_cons ok16 (envOk_cons ok17 (envOk_cons ok18 (envOk_cons ok19 (envOk_cons ok20 (envOk_cons ok21 (envOk_alt ok22T ok22F (envOk_alt ok23T ok23F (envOk_nil _))))))))))))))))))))
end Go.Proofs.YteifneielgnniaaGreatDoor.Sh
end
