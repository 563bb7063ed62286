/- What numbers, marks, sheets and corrections of this seat compute, each shown once. No condition. -/
import Derived.Test.YtanndlifpojenaaShB
set_option linter.unusedVariables false
set_option linter.unusedSimpArgs false
set_option linter.unusedSectionVars false
namespace Go.Proofs.Ytanndlifpojenaa.Sh
open Go Go.Proofs
section
open Go Ieee

/-! ## sizes of words of single precision -/
theorem bin32 : single.binade = 8388608 := by decide
theorem lp32 : single.leastPlace = -149 := by decide
theorem fb32 : (single.fractionBits : Int) = 23 := by decide
theorem cut_up (neg : Bool) {n d k : Nat} (h : n < 2 ^ (k + d)) : Toward.even.cut neg n d ≤ 2 ^ k := by
  unfold Toward.cut
  dsimp only
  have hb : ∀ b : Bool, b.toNat ≤ 1 := fun b => by cases b <;> decide
  have hlow : n / 1 <<< min d (n.log2 + 2) < 2 ^ k := by
    rw [Nat.one_shiftLeft]
    by_cases hd : d ≤ n.log2 + 2
    · rw [Nat.min_eq_left hd]
      exact Nat.div_lt_of_lt_mul (by rw [Nat.pow_add, Nat.mul_comm] at h; exact h)
    · rw [Nat.min_eq_right (by omega)]
      have : n < 2 ^ (n.log2 + 2) := Nat.lt_of_lt_of_le Nat.lt_log2_self (Nat.pow_le_pow_right (by decide) (by omega))
      rw [Nat.div_eq_of_lt this]
      exact Nat.two_pow_pos k
  exact Nat.le_trans (Nat.add_le_add_left (hb _) _) hlow
theorem cut_low (neg : Bool) {n d k : Nat} (h : 2 ^ (k + d) ≤ n) : 2 ^ k ≤ Toward.even.cut neg n d := by
  unfold Toward.cut
  dsimp only
  refine Nat.le_trans ?_ (Nat.le_add_right _ _)
  rw [Nat.one_shiftLeft, Nat.le_div_iff_mul_le (Nat.two_pow_pos _)]
  refine Nat.le_trans (Nat.mul_le_mul_left _ (Nat.pow_le_pow_right (by decide) (Nat.min_le_left d _))) ?_
  rw [← Nat.pow_add]; exact h
/-- the place of the last digit that is kept, and what is kept -/
def lastOf (m : Nat) (p : Int) : Int := max (p + m.log2 - 23) (-149)
def keptOf (s : Bool) (m : Nat) (p : Int) : Nat := Toward.even.cut s (m <<< (p - lastOf m p).toNat) (lastOf m p - p).toNat
theorem nearest_eq (s : Bool) {m : Nat} (hm : m ≠ 0) (p : Int) : single.nearest s m p = single.word s (min ((lastOf m p + 149).toNat * 8388608 + keptOf s m p) 2139095040) := by
  unfold Format.nearest
  rw [if_neg hm]
  simp only [bin32, lp32, inf32, fb32]
  rfl
theorem kept_up (s : Bool) {m : Nat} (p : Int) : keptOf s m p ≤ 16777216 := by
  unfold keptOf
  refine cut_up (k := 24) s ?_
  rw [Nat.shiftLeft_eq]
  have h1 : m < 2 ^ (m.log2 + 1) := Nat.lt_log2_self
  have h2 : m.log2 + 1 + (p - lastOf m p).toNat ≤ 24 + (lastOf m p - p).toNat := by unfold lastOf; omega
  refine Nat.lt_of_lt_of_le (Nat.mul_lt_mul_of_pos_right h1 (Nat.two_pow_pos _)) ?_
  rw [← Nat.pow_add]
  exact Nat.pow_le_pow_right (by decide) h2
theorem kept_low (s : Bool) {m : Nat} (hm : m ≠ 0) {p : Int} (h : -126 ≤ p + m.log2) : 8388608 ≤ keptOf s m p := by
  unfold keptOf
  refine cut_low (k := 23) s ?_
  rw [Nat.shiftLeft_eq]
  have h1 : 2 ^ m.log2 ≤ m := Nat.log2_self_le hm
  have h2 : 23 + (lastOf m p - p).toNat ≤ m.log2 + (p - lastOf m p).toNat := by unfold lastOf; omega
  refine Nat.le_trans (Nat.pow_le_pow_right (by decide) h2) ?_
  rw [Nat.pow_add]
  exact Nat.mul_le_mul_right _ h1
theorem word_mod (s : Bool) {r : Nat} (h : r ≤ 2139095040) : single.word s r % 2147483648 = r := by
  unfold Format.word
  rw [sgn32]
  cases s
  · simp only [Bool.false_eq_true, if_false]; exact Nat.mod_eq_of_lt (by omega)
  · simp only [if_true]; rw [Nat.add_mod_left]; exact Nat.mod_eq_of_lt (by omega)
theorem word_neg (s : Bool) {r : Nat} (h : r ≤ 2139095040) : (single.word s r / 2147483648 % 2 == 1) = s := by
  unfold Format.word
  rw [sgn32]
  cases s
  · simp only [Bool.false_eq_true, if_false]; rw [Nat.div_eq_of_lt (by omega)]; rfl
  · simp only [if_true]; rw [show (2147483648 + r) / 2147483648 = 1 by omega]; rfl
/-- what a word stands for -/
theorem read_word (s : Bool) {r : Nat} (h : r ≤ 2139095040) : single.read (single.word s r) =
    if r < 8388608 then .number s r (-149) else if r < 2139095040 then .number s (8388608 + r % 8388608) (-149 + (r / 8388608 - 1 : Nat)) else .infinity s := by
  unfold Format.read
  simp only [sgn32, bin32, lp32, inf32, word_mod s h, word_neg s h]
  split
  · rfl
  · split
    · rfl
    · rw [if_pos (by omega)]
/-- a number that is not too great stays one -/
theorem read_near (s : Bool) {m : Nat} {p : Int} (h : m = 0 ∨ p + m.log2 ≤ 120) : ∃ n j, single.read (single.nearest s m p) = .number s n j ∧ (m = 0 → n = 0) := by
  by_cases hm : m = 0
  · subst hm
    unfold Format.nearest
    rw [if_pos rfl, read_word s (by decide)]
    exact ⟨_, _, rfl, fun _ => rfl⟩
  · have hk := kept_up s (m := m) p
    have hl : lastOf m p + 149 ≤ 246 := by unfold lastOf; omega
    have hr : (lastOf m p + 149).toNat * 8388608 + keptOf s m p < 2139095040 := by omega
    rw [nearest_eq s hm, Nat.min_eq_left (Nat.le_of_lt hr), read_word s (Nat.le_of_lt hr)]
    split
    · exact ⟨_, _, rfl, fun h => absurd h hm⟩
    · exact ⟨_, _, rfl, fun h => absurd h hm⟩
/-- a number of 1 or more stays one, or is infinity -/
theorem read_great (s : Bool) {m : Nat} (hm : m ≠ 0) {p : Int} (h : 0 ≤ p + m.log2) : single.read (single.nearest s m p) = .infinity s ∨ ∃ n j, single.read (single.nearest s m p) = .number s n j ∧ n ≠ 0 ∧ 0 ≤ j + n.log2 := by
  have hk := kept_low s hm (p := p) (by omega)
  have hl : 126 ≤ lastOf m p + 149 := by unfold lastOf; omega
  rw [nearest_eq s hm]
  generalize hR : (lastOf m p + 149).toNat * 8388608 + keptOf s m p = R
  have hR1 : 1065353216 ≤ R := by omega
  rw [read_word s (Nat.min_le_right _ _)]
  rw [if_neg (by omega)]
  split
  · rename_i h1
    right
    rw [Nat.min_eq_left (by omega)] at h1 ⊢
    refine ⟨_, _, rfl, by omega, ?_⟩
    have : 23 ≤ (8388608 + R % 8388608).log2 := by
      rw [Nat.le_log2 (by omega)]
      omega
    omega
  · exact .inl rfl
/-- a number, and how great it is at most -/
theorem read_num {w : Nat} {s : Bool} {m : Nat} {i : Int} (h : single.read w = .number s m i) : m < 16777216 ∧ -149 ≤ i := by
  unfold Format.read at h
  simp only [sgn32, bin32, lp32, inf32] at h
  split at h
  · cases h; omega
  · split at h
    · cases h; omega
    · split at h <;> cases h
theorem cmp_le {a b : Int} (h : compare a b = .lt ∨ compare a b = .eq) : a ≤ b := by
  simp only [compare, compareOfLessAndEq] at h
  repeat' split at h
  all_goals simp at h
  all_goals omega
theorem cmp_ge {a b : Int} (h : compare a b = .gt ∨ compare a b = .eq) : b ≤ a := by
  simp only [compare, compareOfLessAndEq] at h
  repeat' split at h
  all_goals simp at h
  all_goals omega
/-- from 0 up to 2 to the k -/
theorem isIn_num {w c : Nat} {j : Int} (hc : single.read c = .number false 8388608 j) (h : (fcmp .geq .f32 w 0 && fcmp .leq .f32 w c) = true) :
    ∃ s m i, single.read w = .number s m i ∧ (s = true → m = 0) ∧ (m = 0 ∨ i + m.log2 ≤ j + 23) := by
  have h0 : single.read 0 = .number false 0 (-149) := by decide
  simp only [fcmp, Bool.and_eq_true, Bool.or_eq_true, beq_iff_eq] at h
  obtain ⟨g1, g2⟩ := h
  have g1 : (single.read w).order (single.read 0) = some .gt ∨ (single.read w).order (single.read 0) = some .eq := g1
  have g2 : (single.read w).order (single.read c) = some .lt ∨ (single.read w).order (single.read c) = some .eq := g2
  rw [h0] at g1
  rw [hc] at g2
  cases hw : single.read w with
  | nan s t => rw [hw] at g1; simp [Datum.order] at g1
  | infinity s => rw [hw] at g1 g2; cases s <;> simp [Datum.order] at g1 g2
  | number s m i =>
    rw [hw] at g1 g2
    simp only [Datum.order, Option.some.injEq] at g1 g2
    have k1 := cmp_ge g1
    have k2 := cmp_le g2
    refine ⟨s, m, i, rfl, fun hs => ?_, ?_⟩
    · subst hs
      simp only [signed, if_true, Bool.false_eq_true, if_false, Nat.shiftLeft_eq, Nat.zero_mul] at k1
      have : 0 < 2 ^ (i - min i (-149)).toNat := Nat.two_pow_pos _
      rcases Nat.eq_zero_or_pos m with h | h
      · exact h
      · have := Nat.mul_pos h this
        omega
    · by_cases hm : m = 0
      · exact .inl hm
      · right
        cases s with
        | true =>
          simp only [signed, if_true, Bool.false_eq_true, if_false, Nat.shiftLeft_eq, Nat.zero_mul] at k1
          have := Nat.mul_pos (Nat.pos_of_ne_zero hm) (Nat.two_pow_pos (i - min i (-149)).toNat)
          omega
        | false =>
          simp only [signed, Bool.false_eq_true, if_false, Nat.shiftLeft_eq] at k2
          have k2 : m * 2 ^ (i - min i j).toNat ≤ 8388608 * 2 ^ (j - min i j).toNat := by omega
          have hlog := Nat.log2_self_le hm
          have h3 : 2 ^ (m.log2 + (i - min i j).toNat) ≤ 2 ^ (23 + (j - min i j).toNat) := by
            rw [Nat.pow_add, Nat.pow_add]
            exact Nat.le_trans (Nat.mul_le_mul_right _ hlog) k2
          have h4 := (Nat.pow_le_pow_iff_right (a := 2) (by decide)).1 h3
          omega
theorem fop_mul_num {a b : Nat} {s t : Bool} {m n : Nat} {i j : Int} (ha : single.read a = .number s m i) (hb : single.read b = .number t n j) : fop .mul .f32 a b = single.nearest (s ^^ t) (m * n) (i + j) := by
  unfold fop
  show (Option.map single.write ((single.read a).product (single.read b))).getD _ = _
  rw [ha, hb]; rfl
theorem fop_add_num {a b : Nat} {s t : Bool} {m n : Nat} {i j : Int} (ha : single.read a = .number s m i) (hb : single.read b = .number t n j) : fop .add .f32 a b = single.write ((Datum.number s m i).sum (.number t n j) |>.getD (.infinity s)) := by
  unfold fop
  show (Option.map single.write ((single.read a).sum (single.read b))).getD _ = _
  rw [ha, hb]; rfl
/-- a film that dries stays a number -/
theorem dry_num {w r t d : Nat} {sw sr st : Bool} {mw mr mt : Nat} {iw ir it : Int} (hw : single.read w = .number sw mw iw) (bw : mw = 0 ∨ iw + mw.log2 ≤ 40)
    (hr : single.read r = .number sr mr ir) (nr : sr = true → mr = 0) (br : mr = 0 ∨ ir + mr.log2 ≤ 40) (ht : single.read t = .number st mt it) (nt : st = true → mt = 0) (bt : mt = 0 ∨ it + mt.log2 ≤ 40)
    (hd : d = fop .quo .f32 w (fop .add .f32 1065353216 (fop .mul .f32 r t))) : ∃ s m i, single.read d = .number s m i := by
  have hb : mr * mt = 0 ∨ ir + it + (mr * mt).log2 ≤ 120 := by
    by_cases h0 : mr * mt = 0
    · exact .inl h0
    · right
      have h1 : mr ≠ 0 := fun e => h0 (by rw [e, Nat.zero_mul])
      have h2 : mt ≠ 0 := fun e => h0 (by rw [e, Nat.mul_zero])
      have l1 : mr < 2 ^ (mr.log2 + 1) := Nat.lt_log2_self
      have l2 : mt < 2 ^ (mt.log2 + 1) := Nat.lt_log2_self
      have l3 : mr * mt < 2 ^ (mr.log2 + 1 + (mt.log2 + 1)) := by
        rw [Nat.pow_add]
        exact Nat.mul_lt_mul'' l1 l2
      have := (Nat.log2_lt h0).2 l3
      omega
  obtain ⟨p, k, hx, hp⟩ := read_near (sr ^^ st) hb
  rw [← fop_mul_num hr ht] at hx
  have h1 : single.read 1065353216 = .number false 8388608 (-23) := by decide
  have hp0 : (sr ^^ st) = true → p = 0 := fun h => hp (by
    cases sr with
    | true => rw [nr rfl, Nat.zero_mul]
    | false =>
      cases st with
      | true => rw [nt rfl, Nat.mul_zero]
      | false => cases h)
  have hsum : ∃ m : Nat, m ≠ 0 ∧ 0 ≤ min (-23) k + (m.log2 : Int) ∧ fop .add .f32 1065353216 (fop .mul .f32 r t) = single.nearest false m (min (-23) k) := by
    rw [fop_add_num h1 hx]
    have hs : 0 ≤ signed (sr ^^ st) p (k - min (-23) k).toNat := by
      unfold signed
      split
      · rename_i h; rw [hp0 h]; simp
      · exact Int.natCast_nonneg _
    have h2 : (2 ^ (-min (-23) k).toNat : Nat) ≤ 8388608 <<< (-23 - min (-23) k).toNat := by
      rw [Nat.shiftLeft_eq, show (8388608 : Nat) = 2 ^ 23 from rfl, ← Nat.pow_add]
      exact Nat.pow_le_pow_right (by decide) (by omega)
    have hpos : 0 < 2 ^ (-min (-23) k).toNat := Nat.two_pow_pos _
    have ht : signed false 8388608 (-23 - min (-23) k).toNat = ((8388608 <<< (-23 - min (-23) k).toNat : Nat) : Int) := rfl
    refine ⟨(signed false 8388608 (-23 - min (-23) k).toNat + signed (sr ^^ st) p (k - min (-23) k).toNat).natAbs, by omega, ?_, ?_⟩
    · have : (-min (-23) k).toNat ≤ (signed false 8388608 (-23 - min (-23) k).toNat + signed (sr ^^ st) p (k - min (-23) k).toNat).natAbs.log2 := by
        rw [Nat.le_log2 (by omega)]
        omega
      omega
    · simp only [Datum.sum, Option.getD_some, Format.write]
      rw [if_neg (by omega)]
      congr 1
      exact decide_eq_false (by omega)
  obtain ⟨n, hn, hl, hq⟩ := hsum
  rw [hq] at hd
  subst hd
  have hquo : ∀ x : Datum, ∀ y, single.read y = x → fop .quo .f32 w y = (((Datum.number sw mw iw).quotient 25 x).map single.write).getD (qn .f32) := fun x y e => by
    unfold fop
    show (Option.map single.write ((single.read w).quotient 25 (single.read y))).getD _ = _
    rw [hw, e]
  rcases read_great false hn hl with h | ⟨n', j, h, hn', hl'⟩
  · rw [hquo _ _ h]
    simp only [Datum.quotient, Option.map_some, Option.getD_some, Format.write]
    obtain ⟨a, b, e, _⟩ := read_near (sw ^^ false) (m := 0) (p := 0) (.inl rfl)
    exact ⟨_, _, _, e⟩
  · rw [hquo _ _ h]
    simp only [Datum.quotient, if_neg hn', Option.map_some, Option.getD_some, Format.write]
    have hwm := (read_num hw).1
    obtain ⟨a, b, e, _⟩ := read_near (sw ^^ false) (m := 2 * (mw <<< (25 + n'.log2 - mw.log2) / n') + (mw <<< (25 + n'.log2 - mw.log2) % n' != 0).toNat) (p := iw - j - (25 + n'.log2 - mw.log2 : Nat) - 1) (by
      by_cases h0 : mw = 0
      · left; subst h0; simp
      · right
        have hm23 : mw.log2 ≤ 23 := by
          have := (Nat.log2_lt h0).2 (show mw < 2 ^ 24 from hwm)
          omega
        have hD : mw <<< (25 + n'.log2 - mw.log2) / n' < 67108864 := by
          refine Nat.div_lt_of_lt_mul ?_
          rw [Nat.shiftLeft_eq]
          have l1 : mw < 2 ^ (mw.log2 + 1) := Nat.lt_log2_self
          have l2 : 2 ^ n'.log2 ≤ n' := Nat.log2_self_le hn'
          refine Nat.lt_of_lt_of_le (Nat.mul_lt_mul_of_pos_right l1 (Nat.two_pow_pos _)) ?_
          rw [← Nat.pow_add, show mw.log2 + 1 + (25 + n'.log2 - mw.log2) = n'.log2 + 26 by omega, Nat.pow_add]
          exact Nat.mul_le_mul_right _ l2
        have hb1 : (mw <<< (25 + n'.log2 - mw.log2) % n' != 0).toNat ≤ 1 := by cases (mw <<< (25 + n'.log2 - mw.log2) % n' != 0) <;> decide
        have hQ : (2 * (mw <<< (25 + n'.log2 - mw.log2) / n') + (mw <<< (25 + n'.log2 - mw.log2) % n' != 0).toNat).log2 ≤ 26 := by
          by_cases hz : 2 * (mw <<< (25 + n'.log2 - mw.log2) / n') + (mw <<< (25 + n'.log2 - mw.log2) % n' != 0).toNat = 0
          · rw [hz]; decide
          · have := (Nat.log2_lt hz).2 (show _ < 2 ^ 27 by omega)
            omega
        omega)
    exact ⟨_, _, _, e⟩
/-- a part of what dries is no NaN -/
theorem back_num {w r t p : Nat} (hw : (fcmp .geq .f32 w 0 && fcmp .leq .f32 w 1149239296) = true) (hr : (fcmp .geq .f32 r 0 && fcmp .leq .f32 r 1233125376) = true) (ht : (fcmp .geq .f32 t 0 && fcmp .leq .f32 t 1233125376) = true) (hp : (fcmp .geq .f32 p 0 && fcmp .leq .f32 p 1065353216) = true) :
    (single.read (fop .mul .f32 (fop .quo .f32 w (fop .add .f32 1065353216 (fop .mul .f32 r t))) p)).isNaN = false := by
  obtain ⟨s1, m1, i1, a1, b1, c1⟩ := isIn_num (j := -13) (by decide) hw
  obtain ⟨s2, m2, i2, a2, b2, c2⟩ := isIn_num (j := -3) (by decide) hr
  obtain ⟨s3, m3, i3, a3, b3, c3⟩ := isIn_num (j := -3) (by decide) ht
  obtain ⟨s4, m4, i4, a4, b4, c4⟩ := isIn_num (j := -23) (by decide) hp
  obtain ⟨s, m, i, h⟩ := dry_num a1 (by omega) a2 b2 (by omega) a3 b3 (by omega) rfl
  rw [fop_mul_num h a4]
  exact nan_nearest .f32 _ _ _
/-- two words that are no NaNs stand to each other -/
theorem gtr_leq {a b : Nat} (ha : (single.read a).isNaN = false) (hb : (single.read b).isNaN = false) : fcmp .gtr .f32 a b = !fcmp .leq .f32 a b := by
  simp only [fcmp]
  show ((single.read a).order (single.read b) == some .gt) = !((single.read a).order (single.read b) == some .lt || (single.read a).order (single.read b) == some .eq)
  have : ∃ o, (single.read a).order (single.read b) = some o := by
    cases hx : single.read a <;> cases hy : single.read b <;> rw [hx] at ha <;> rw [hy] at hb <;> simp [Datum.isNaN] at ha hb <;> exact ⟨_, rfl⟩
  obtain ⟨o, e⟩ := this
  rw [e]
  cases o <;> rfl
end
section
open Go Ieee

/-! ## a wider word and back -/
theorem bin64 : double.binade = 4503599627370496 := by decide
theorem lp64 : double.leastPlace = -1074 := by decide
theorem fb64 : (double.fractionBits : Int) = 52 := by decide
theorem cut_exact (neg : Bool) {m k : Nat} (hm : m ≠ 0) : Toward.even.cut neg (m <<< k) k = m := by
  unfold Toward.cut
  dsimp only
  have hl : k ≤ (m <<< k).log2 + 2 := by
    have : k ≤ (m <<< k).log2 := by
      rw [Nat.le_log2 (by rw [Nat.shiftLeft_eq]; exact Nat.mul_ne_zero hm (Nat.ne_of_gt (Nat.two_pow_pos k)))]
      rw [Nat.shiftLeft_eq]
      exact Nat.le_mul_of_pos_left _ (Nat.pos_of_ne_zero hm)
    omega
  rw [Nat.min_eq_left hl, Nat.one_shiftLeft, Nat.shiftLeft_eq, Nat.mul_div_cancel _ (Nat.two_pow_pos k), Nat.mul_mod_left]
  have := Nat.two_pow_pos k
  have h1 : decide (2 ^ k < 2 * 0) = false := decide_eq_false (by omega)
  have h2 : ((2 ^ k == 2 * 0) = false) := by rw [beq_eq_false_iff_ne]; omega
  rw [h1, h2]
  rfl
theorem read_canon {w : Nat} {s : Bool} {m : Nat} {i : Int} (h : single.read w = .number s m i) :
    (m < 8388608 ∧ i = -149 ∨ 8388608 ≤ m ∧ m < 16777216 ∧ -149 ≤ i ∧ i ≤ 104) ∧ w % 2147483648 = (i + 149).toNat * 8388608 + m ∧ s = (w / 2147483648 % 2 == 1) := by
  unfold Format.read at h
  simp only [sgn32, bin32, lp32, inf32] at h
  split at h
  · cases h; exact ⟨.inl ⟨by omega, rfl⟩, by simp, rfl⟩
  · split at h
    · cases h; refine ⟨.inr ⟨by omega, by omega, by omega, by omega⟩, by omega, rfl⟩
    · split at h <;> cases h
theorem read_infw {w : Nat} {s : Bool} (h : single.read w = .infinity s) : w % 2147483648 = 2139095040 ∧ s = (w / 2147483648 % 2 == 1) := by
  unfold Format.read at h
  simp only [sgn32, bin32, lp32, inf32] at h
  split at h
  · cases h
  · split at h
    · cases h
    · split at h
      · cases h; exact ⟨by assumption, rfl⟩
      · cases h
theorem shl52 {m : Nat} (hm : m ≠ 0) (hl : m.log2 ≤ 52) : 4503599627370496 ≤ m <<< (52 - m.log2) ∧ m <<< (52 - m.log2) < 9007199254740992 := by
  rw [Nat.shiftLeft_eq]
  have h1 := Nat.log2_self_le hm
  have h2 : m < 2 ^ (m.log2 + 1) := Nat.lt_log2_self
  constructor
  · have e : 2 ^ m.log2 * 2 ^ (52 - m.log2) = 4503599627370496 := by rw [← Nat.pow_add, show m.log2 + (52 - m.log2) = 52 by omega]
    rw [← e]
    exact Nat.mul_le_mul_right _ h1
  · have e : 2 ^ (m.log2 + 1) * 2 ^ (52 - m.log2) = 9007199254740992 := by rw [← Nat.pow_add, show m.log2 + 1 + (52 - m.log2) = 53 by omega]
    rw [← e]
    exact Nat.mul_lt_mul_of_pos_right h2 (Nat.two_pow_pos _)
theorem near64 (s : Bool) {m : Nat} {p : Int} (hm : m ≠ 0) (hl : m.log2 ≤ 52) (h1 : -1022 ≤ p + m.log2) (h2 : p + m.log2 ≤ 900) :
    double.nearest s m p = double.word s ((p + m.log2 + 1022).toNat * 4503599627370496 + m <<< (52 - m.log2)) := by
  obtain ⟨_, hb⟩ := shl52 hm hl
  unfold Format.nearest
  rw [if_neg hm]
  simp only [bin64, lp64, inf64, fb64]
  have e : max (p + m.log2 - 52) (-1074) = p + m.log2 - 52 := by omega
  rw [e, show (p + m.log2 - 52 - p).toNat = 0 by omega, cut_zero, show (p - (p + m.log2 - 52)).toNat = 52 - m.log2 by omega, show (p + m.log2 - 52 - -1074).toNat = (p + m.log2 + 1022).toNat by omega,
    Nat.min_eq_left (by omega)]
theorem word_mod64 (s : Bool) {r : Nat} (h : r ≤ 9218868437227405312) : double.word s r % 9223372036854775808 = r := by
  unfold Format.word
  rw [sgn64]
  cases s
  · simp only [Bool.false_eq_true, if_false]; exact Nat.mod_eq_of_lt (by omega)
  · simp only [if_true]; rw [Nat.add_mod_left]; exact Nat.mod_eq_of_lt (by omega)
theorem word_neg64 (s : Bool) {r : Nat} (h : r ≤ 9218868437227405312) : (double.word s r / 9223372036854775808 % 2 == 1) = s := by
  unfold Format.word
  rw [sgn64]
  cases s
  · simp only [Bool.false_eq_true, if_false]; rw [Nat.div_eq_of_lt (by omega)]; rfl
  · simp only [if_true]; rw [show (9223372036854775808 + r) / 9223372036854775808 = 1 by omega]; rfl
theorem read_word64 (s : Bool) {r : Nat} (h : r ≤ 9218868437227405312) : double.read (double.word s r) =
    if r < 4503599627370496 then .number s r (-1074) else if r < 9218868437227405312 then .number s (4503599627370496 + r % 4503599627370496) (-1074 + (r / 4503599627370496 - 1 : Nat)) else .infinity s := by
  unfold Format.read
  simp only [sgn64, bin64, lp64, inf64, word_mod64 s h, word_neg64 s h]
  split
  · rfl
  · split
    · rfl
    · rw [if_pos (by omega)]
/-- a word of single precision among those of double precision: its rung there, and back -/
theorem up_num {a : Nat} {s : Bool} {m : Nat} {i : Int} (h : single.read a = .number s m i) :
    ∃ r, r < 9218868437227405312 ∧ floatToFloatBits .f32 a .f64 = some (double.word s r) ∧ (∃ n j, ∀ t, double.read (double.word t r) = .number t n j) ∧ floatToFloatBits .f64 r .f32 = some (a % 2147483648) := by
  obtain ⟨hc, hw, _⟩ := read_canon h
  have up : ∀ {r : Nat} {n : Nat} {j : Int}, r < 9218868437227405312 → double.nearest s m i = double.word s r → (∀ t, double.read (double.word t r) = .number t n j) → floatToFloatBits .f32 a .f64 = some (double.word s r) := by
    intro r n j hr he hd
    unfold floatToFloatBits
    rw [if_neg (by decide)]
    have e1 : FloatKind.f32.decode a = .number s m i := h
    have e2 : FloatKind.f64.encode (.number s m i) = double.word s r := he
    have e3 : FloatKind.f64.decode (double.word s r) = .number s n j := hd s
    rw [e1]
    dsimp only
    rw [e2, e3]
    rfl
  have down : ∀ {r : Nat} {n : Nat} {j : Int} {q : Nat}, q < 2139095040 → (∀ t, double.read (double.word t r) = .number t n j) → single.nearest false n j = single.word false q → floatToFloatBits .f64 r .f32 = some q := by
    intro r n j q hq hd he
    unfold floatToFloatBits
    rw [if_neg (by decide)]
    have e1 : FloatKind.f64.decode r = .number false n j := hd false
    have e2 : FloatKind.f32.encode (.number false n j) = q := he
    have e3 : (FloatKind.f32.decode q).isInfinity = false := by
      have : single.read (single.word false q) = _ := read_word false (Nat.le_of_lt hq)
      show (single.read q).isInfinity = false
      rw [show single.word false q = q from rfl] at this
      rw [this]
      split
      · rfl
      · rfl
    rw [e1]
    dsimp only
    rw [e2, e3]
    rfl
  by_cases hm : m = 0
  · subst hm
    have hi : i = -149 := by omega
    subst hi
    have hd : ∀ t, double.read (double.word t 0) = .number t 0 (-1074) := fun t => by rw [read_word64 t (by omega)]; rfl
    refine ⟨0, by omega, up (by omega) (by unfold Format.nearest; rw [if_pos rfl]) hd, ⟨_, _, hd⟩, ?_⟩
    rw [hw]
    exact down (by omega) hd (by unfold Format.nearest; rw [if_pos rfl]; rfl)
  · have hL : m.log2 ≤ 23 := by
      have : m.log2 < 24 := (Nat.log2_lt hm).2 (by omega)
      omega
    have hlast : max (i + m.log2 - 23) (-149) = i := by
      rcases hc with ⟨h1, h2⟩ | ⟨h1, h2, h3, h4⟩
      · have : m.log2 < 23 := (Nat.log2_lt hm).2 (by omega)
        omega
      · have : 23 ≤ m.log2 := (Nat.le_log2 hm).2 (by omega)
        omega
    have hi1 : -149 ≤ i ∧ i ≤ 104 := by omega
    obtain ⟨k1, k2⟩ := shl52 hm (by omega)
    generalize hR : (i + m.log2 + 1022).toNat * 4503599627370496 + m <<< (52 - m.log2) = r
    have hr : r < 9218868437227405312 := by omega
    have hn := near64 s hm (p := i) (by omega) (by omega) (by omega)
    rw [hR] at hn
    have hd : ∀ t, double.read (double.word t r) = .number t (m <<< (52 - m.log2)) (i + m.log2 - 52) := by
      intro t
      rw [read_word64 t (by omega), if_neg (by omega), if_pos hr]
      congr 1 <;> omega
    refine ⟨r, hr, up hr hn hd, ⟨_, _, hd⟩, ?_⟩
    rw [hw]
    refine down (by omega) hd ?_
    have hM : m <<< (52 - m.log2) ≠ 0 := by omega
    have hML : (m <<< (52 - m.log2)).log2 = 52 := by
      have h1 : (m <<< (52 - m.log2)).log2 < 53 := (Nat.log2_lt hM).2 (by omega)
      have h2 : 52 ≤ (m <<< (52 - m.log2)).log2 := (Nat.le_log2 hM).2 (by omega)
      omega
    have hLo : lastOf (m <<< (52 - m.log2)) (i + m.log2 - 52) = i := by
      unfold lastOf
      rw [hML]
      omega
    rw [nearest_eq false hM]
    unfold keptOf
    rw [hLo, show (i + m.log2 - 52 - i).toNat = 0 by omega, Nat.shiftLeft_zero, show (i - (i + m.log2 - 52)).toNat = 52 - m.log2 by omega, cut_exact _ hm, Nat.min_eq_left (by omega)]
/-- a double's word without its sign -/
def absB (x : Nat) : Nat := (bits .andNot .u64 (x : Int) 9223372036854775808).toNat
theorem absB_eq (x : Nat) : absB x = x % 9223372036854775808 := by
  have e1 : BitVec.ofInt 64 (x : Int) = BitVec.ofNat 64 x := BitVec.ofInt_natCast 64 x
  have e2 : ~~~ BitVec.ofInt 64 9223372036854775808 = 9223372036854775807#64 := by decide
  have e3 : (BitVec.ofInt 64 (x : Int) &&& ~~~ BitVec.ofInt 64 9223372036854775808).toNat = x % 9223372036854775808 := by
    rw [e1, e2, BitVec.toNat_and, BitVec.toNat_ofNat]
    have := Nat.and_two_pow_sub_one_eq_mod (x % 2 ^ 64) 63
    rw [show (9223372036854775807#64).toNat = 2 ^ 63 - 1 from rfl, this]
    omega
  show (IntKind.wrap .u64 ((BitVec.ofInt 64 (x : Int) &&& ~~~ BitVec.ofInt 64 9223372036854775808).toNat : Int)).toNat = _
  rw [e3]
  have h1 : x % 9223372036854775808 < 9223372036854775808 := Nat.mod_lt _ (by decide)
  generalize x % 9223372036854775808 = y at *
  simp [IntKind.wrap, IntKind.signed, IntKind.bits]
  omega
theorem absB_nan {x : Nat} (h : (double.read x).isNaN = true) : (double.read (absB x)).isNaN = true := by
  have h1 := nan_read .f64 x
  have h2 := nan_read .f64 (absB x)
  rw [show FloatKind.f64.format = double from rfl, sgn64, inf64] at h1 h2
  rw [h1] at h
  rw [h2, absB_eq]
  rw [decide_eq_true_eq] at h ⊢
  omega
def cvU (a : Nat) : Nat := (floatToFloatBits .f32 a .f64).getD (qn .f64)
/-- the size, there and back -/
def sizeI (a : Nat) : Nat := (floatToFloatBits .f64 (absB (cvU a)) .f32).getD (qn .f32)
/-- the size, by a test -/
def sizeF (a : Nat) : Nat := if fcmp .lss .f32 a 0 = true then fneg .f32 a else a
theorem size_some (a : Nat) : (FloatKind.f64.decode (absB (cvU a))).isNaN = false → (floatToFloatBits .f64 (absB (cvU a)) .f32).isSome = true := by
  intro hn
  unfold cvU at *
  cases hd : single.read a with
  | number s m i =>
    obtain ⟨r, hr, h1, _, h2⟩ := up_num hd
    rw [h1, Option.getD_some, absB_eq, word_mod64 s (Nat.le_of_lt hr), h2]
    rfl
  | infinity s =>
    have e1 : floatToFloatBits .f32 a .f64 = some (double.word s 9218868437227405312) := by
      unfold floatToFloatBits
      rw [if_neg (by decide), show FloatKind.f32.decode a = .infinity s from hd]
      rfl
    rw [e1, Option.getD_some, absB_eq, word_mod64 s (Nat.le_refl _)]
    rfl
  | nan s t =>
    have e1 : floatToFloatBits .f32 a .f64 = none := by
      unfold floatToFloatBits
      rw [if_neg (by decide), show FloatKind.f32.decode a = .nan s t from hd]
    rw [e1, Option.getD_none] at hn
    rw [show (FloatKind.f64.decode (absB (qn .f64))).isNaN = true from absB_nan (nan_qn .f64)] at hn
    cases hn
theorem sizeI_eq (a : Nat) : sizeI a = if (single.read a).isNaN then qn .f32 else a % 2147483648 := by
  unfold sizeI cvU
  cases hd : single.read a with
  | number s m i =>
    obtain ⟨r, hr, h1, _, h2⟩ := up_num hd
    rw [h1, Option.getD_some, absB_eq, word_mod64 s (Nat.le_of_lt hr), h2]
    rfl
  | infinity s =>
    have e1 : floatToFloatBits .f32 a .f64 = some (double.word s 9218868437227405312) := by
      unfold floatToFloatBits
      rw [if_neg (by decide), show FloatKind.f32.decode a = .infinity s from hd]
      rfl
    rw [e1, Option.getD_some, absB_eq, word_mod64 s (Nat.le_refl _), (read_infw hd).1]
    rfl
  | nan s t =>
    have e1 : floatToFloatBits .f32 a .f64 = none := by
      unfold floatToFloatBits
      rw [if_neg (by decide), show FloatKind.f32.decode a = .nan s t from hd]
    have e2 : floatToFloatBits .f64 (absB (qn .f64)) .f32 = none := by
      obtain ⟨u, v, e⟩ := isNaN_iff (absB_nan (nan_qn .f64))
      unfold floatToFloatBits
      rw [if_neg (by decide), show FloatKind.f64.decode (absB (qn .f64)) = .nan u v from e]
    rw [e1, Option.getD_none, e2]
    rfl
theorem read_mod (a : Nat) : single.read (a % 2147483648) = match single.read a with
    | .number _ m i => .number false m i
    | .infinity _ => .infinity false
    | .nan _ t => .nan false t := by
  unfold Format.read
  simp only [sgn32, bin32, lp32, inf32, Nat.mod_mod]
  have : a % 2147483648 / 2147483648 % 2 = 0 := by omega
  rw [this]
  split
  · rfl
  · split
    · rfl
    · split <;> rfl
theorem read_neg (a : Nat) : single.read (Op.negFloat .f32 a) = (single.read a).opposite := by
  have e : Op.negFloat .f32 a = a ^^^ 2 ^ 31 := rfl
  have h1 : (a ^^^ 2 ^ 31) % 2147483648 = a % 2147483648 := by
    have := @Nat.xor_mod_two_pow a (2 ^ 31) 31
    rw [Nat.mod_self, Nat.xor_zero] at this
    exact this
  have h2 : (a ^^^ 2 ^ 31) / 2147483648 = (a / 2147483648) ^^^ 1 := by
    have := @Nat.xor_div_two_pow a (2 ^ 31) 31
    rw [Nat.div_self (by decide)] at this
    exact this
  have h3 : ((a / 2147483648) ^^^ 1) % 2 = 1 - a / 2147483648 % 2 := by
    have := @Nat.xor_mod_two_pow (a / 2147483648) 1 1
    rw [Nat.pow_one] at this
    rw [this]
    rcases Nat.mod_two_eq_zero_or_one (a / 2147483648) with h | h <;> rw [h] <;> rfl
  rw [e]
  unfold Format.read
  simp only [sgn32, bin32, lp32, inf32, h1, h2, h3]
  have h4 : (1 - a / 2147483648 % 2 == 1) = !(a / 2147483648 % 2 == 1) := by
    rcases Nat.mod_two_eq_zero_or_one (a / 2147483648) with h | h <;> rw [h] <;> rfl
  rw [h4]
  split
  · rfl
  · split
    · rfl
    · split <;> rfl
theorem fcmp_read {op : BinOp} {a b w : Nat} (h : single.read a = single.read b) : fcmp op .f32 a w = fcmp op .f32 b w := by
  unfold fcmp
  show (match op with | _ => _) = _
  simp only [Format.order, FloatKind.format, h]
theorem cmp_lt {a b : Int} (h : compare a b = .lt) : a < b := by
  simp only [compare, compareOfLessAndEq] at h
  split at h
  · assumption
  · split at h <;> cases h
theorem signed_zero (s t : Bool) (k : Nat) : signed s 0 k = signed t 0 k := by cases s <;> cases t <;> simp [signed]
theorem size_leq (a w : Nat) : fcmp .leq .f32 (sizeI a) w = fcmp .leq .f32 (sizeF a) w := by
  have r0 : single.read 0 = .number false 0 (-149) := by decide
  rw [sizeI_eq]
  unfold sizeF
  have lss : fcmp .lss .f32 a 0 = ((single.read a).order (.number false 0 (-149)) == some .lt) := by
    unfold fcmp
    simp only [Format.order, FloatKind.format, r0]
  rw [lss]
  have hm := read_mod a
  cases hd : single.read a with
  | nan s t =>
    have hn : (single.read a).isNaN = true := by rw [hd]; rfl
    show fcmp .leq .f32 (qn .f32) w = fcmp .leq .f32 a w
    unfold fcmp
    have e1 : FloatKind.f32.format.order (qn .f32) w = none := order_nanL (k := .f32) (nan_qn .f32)
    have e2 : FloatKind.f32.format.order a w = none := order_nanL (k := .f32) hn
    rw [e1, e2]
  | infinity s =>
    rw [hd] at hm
    have hn : (FloatKind.f32.format.read a).isNaN = false := by show (single.read a).isNaN = false; rw [hd]; rfl
    cases s with
    | false =>
      show fcmp .leq .f32 (a % 2147483648) w = fcmp .leq .f32 a w
      exact fcmp_read (by rw [hm]; exact hd.symm)
    | true =>
      show fcmp .leq .f32 (a % 2147483648) w = fcmp .leq .f32 (fneg .f32 a) w
      refine fcmp_read ?_
      unfold fneg
      rw [hn]
      show _ = single.read (Op.negFloat .f32 a)
      rw [hm, read_neg, hd]
      rfl
  | number s m i =>
    rw [hd] at hm
    have hn : (FloatKind.f32.format.read a).isNaN = false := by show (single.read a).isNaN = false; rw [hd]; rfl
    show fcmp .leq .f32 (a % 2147483648) w = _
    split
    · rename_i hl
      refine fcmp_read ?_
      unfold fneg
      rw [hn]
      show _ = single.read (Op.negFloat .f32 a)
      rw [hm, read_neg, hd]
      cases s with
      | true => rfl
      | false =>
        exfalso
        simp only [Datum.order, signed, beq_iff_eq, Option.some.injEq, Bool.false_eq_true, if_false, Nat.zero_shiftLeft] at hl
        have h1 := cmp_lt hl
        have h2 := Int.natCast_nonneg (m <<< (i - min i (-149)).toNat)
        omega
    · rename_i hl
      cases s with
      | false => exact fcmp_read (by rw [hm]; exact hd.symm)
      | true =>
        have hm0 : m = 0 := by
          rcases Nat.eq_zero_or_pos m with h | h
          · exact h
          · exfalso
            apply hl
            simp only [Datum.order, signed, beq_iff_eq, Option.some.injEq, Bool.false_eq_true, if_false, if_true, Nat.zero_shiftLeft]
            have h1 : 0 < m <<< (i - min i (-149)).toNat := by rw [Nat.shiftLeft_eq]; exact Nat.mul_pos h (Nat.two_pow_pos _)
            generalize m <<< (i - min i (-149)).toNat = q at h1
            simp only [compare, compareOfLessAndEq]
            rw [if_pos (by omega)]
        subst hm0
        unfold fcmp
        simp only [Format.order, FloatKind.format, hm, hd]
        cases single.read w with
        | nan _ _ => rfl
        | infinity _ => rfl
        | number t n j => simp only [Datum.order, signed_zero true false]

/-! ## the same number -/
theorem num_le {m n : Nat} {x y : Int} (hm : m < 16777216) (hn : n < 8388608 ∧ y = -149 ∨ 8388608 ≤ n) (hx : -149 ≤ x) (hxy : x ≤ y) (h : m = n <<< (y - x).toNat) : m = n ∧ x = y := by
  rw [Nat.shiftLeft_eq] at h
  by_cases e : x = y
  · subst e
    rw [Int.sub_self] at h
    simp at h
    exact ⟨h, rfl⟩
  · exfalso
    have hn : 8388608 ≤ n := by omega
    have h1 : 2 ^ 1 ≤ 2 ^ (y - x).toNat := Nat.pow_le_pow_right (by decide) (by omega)
    have h2 : 8388608 * 2 ≤ n * 2 ^ (y - x).toNat := Nat.mul_le_mul hn (by simpa using h1)
    omega
theorem num_inj {a b : Nat} {s : Bool} {m n : Nat} {i j : Int} (ha : single.read a = .number s m i) (hb : single.read b = .number s n j)
    (h : signed s m (i - min i j).toNat = signed s n (j - min i j).toNat) : a % 2147483648 = b % 2147483648 := by
  obtain ⟨ca, wa, _⟩ := read_canon ha
  obtain ⟨cb, wb, _⟩ := read_canon hb
  have h' : m <<< (i - min i j).toNat = n <<< (j - min i j).toNat := by
    unfold signed at h
    cases s
    · simp only [Bool.false_eq_true, if_false] at h; exact Int.ofNat.inj h
    · simp only [if_true] at h; exact Int.ofNat.inj (Int.neg_inj.1 h)
  rw [wa, wb]
  rcases Int.le_total i j with hij | hij
  · rw [show min i j = i by omega, Int.sub_self] at h'
    obtain ⟨e1, e2⟩ := num_le (m := m) (n := n) (by omega) (by omega) (by omega) hij (by simpa using h')
    rw [e1, e2]
  · rw [show min i j = j by omega, Int.sub_self] at h'
    obtain ⟨e1, e2⟩ := num_le (m := n) (n := m) (by omega) (by omega) (by omega) hij (by simpa using h'.symm)
    rw [e1, e2]
def isNan (a : Nat) : Bool := fcmp .neq .f32 a a
theorem order_self {d : Datum} (h : d.isNaN = false) : d.order d = some .eq := by
  cases d with
  | nan => simp [Datum.isNaN] at h
  | infinity s => simp [Datum.order]
  | number s m e => simp [Datum.order]
theorem isNan_eq (a : Nat) : isNan a = (single.read a).isNaN := by
  unfold isNan fcmp
  show ((single.read a).order (single.read a) != some .eq) = _
  cases h : (single.read a).isNaN with
  | true =>
    obtain ⟨u, v, e⟩ := isNaN_iff h
    rw [e]; rfl
  | false => rw [order_self h]; rfl
/-- the sign of a double -/
def sgnD (x : Nat) : Bool := x / 9223372036854775808 % 2 == 1
/-- the sign, by way of a double -/
theorem sgn_up {a : Nat} (h : isNan a = false) : sgnD (cvU a) = (a / 2147483648 % 2 == 1) := by
  rw [isNan_eq] at h
  unfold cvU sgnD
  cases hd : single.read a with
  | number s m i =>
    obtain ⟨r, hr, h1, _, h2⟩ := up_num hd
    rw [h1, Option.getD_some, word_neg64 s (Nat.le_of_lt hr)]
    exact (read_canon hd).2.2
  | infinity s =>
    have e1 : floatToFloatBits .f32 a .f64 = some (double.word s 9218868437227405312) := by
      unfold floatToFloatBits
      rw [if_neg (by decide), show FloatKind.f32.decode a = .infinity s from hd]
      rfl
    rw [e1, Option.getD_some, word_neg64 s (Nat.le_refl _)]
    exact (read_infw hd).2
  | nan s t => rw [hd] at h; simp [Datum.isNaN] at h
theorem nan_up {a : Nat} (h : isNan a = false) : (double.read (cvU a)).isNaN = false := by
  rw [isNan_eq] at h
  unfold cvU
  cases hd : single.read a with
  | number s m i =>
    obtain ⟨r, hr, h1, ⟨n, j, hn⟩, h2⟩ := up_num hd
    rw [h1, Option.getD_some, hn]
    rfl
  | infinity s =>
    have e1 : floatToFloatBits .f32 a .f64 = some (double.word s 9218868437227405312) := by
      unfold floatToFloatBits
      rw [if_neg (by decide), show FloatKind.f32.decode a = .infinity s from hd]
      rfl
    rw [e1, Option.getD_some, read_word64 s (Nat.le_refl _)]
    rfl
  | nan s t => rw [hd] at h; simp [Datum.isNaN] at h
/-- equal, and of one sign -/
def eqS (a b : Nat) : Bool := if isNan a || isNan b then isNan a && isNan b else fcmp .eql .f32 a b && (sgnD (cvU a) == sgnD (cvU b))
/-- the same word, or both none -/
def eqW (a b : Nat) : Bool := if isNan a || isNan b then isNan a && isNan b else decide (a = b)
theorem same_eq {a b : Nat} (ha : a < 4294967296) (hb : b < 4294967296) : eqS a b = eqW a b := by
  unfold eqS eqW
  by_cases hn : (isNan a || isNan b) = true
  · rw [if_pos hn, if_pos hn]
  · rw [if_neg hn, if_neg hn]
    simp only [Bool.or_eq_true, not_or, Bool.not_eq_true] at hn
    rw [sgn_up hn.1, sgn_up hn.2]
    have na := hn.1
    have nb := hn.2
    rw [isNan_eq] at na nb
    by_cases e : a = b
    · subst e
      have : fcmp .eql .f32 a a = true := by
        unfold fcmp
        show ((single.read a).order (single.read a) == some .eq) = _
        rw [order_self na]; rfl
      simp [this]
    · rw [decide_eq_false e]
      rw [Bool.and_eq_false_iff]
      by_cases hs : (a / 2147483648 % 2 == 1) = (b / 2147483648 % 2 == 1)
      · left
        have hs' : a / 2147483648 % 2 = b / 2147483648 % 2 := by
          rcases Nat.mod_two_eq_zero_or_one (a / 2147483648) with h | h <;> rcases Nat.mod_two_eq_zero_or_one (b / 2147483648) with k | k <;> rw [h, k] at hs ⊢ <;> simp at hs
        have key : a % 2147483648 ≠ b % 2147483648 := fun h => e (by omega)
        unfold fcmp
        show ((single.read a).order (single.read b) == some .eq) = false
        rw [beq_eq_false_iff_ne]
        intro ho
        apply key
        cases hda : single.read a with
        | nan s t => rw [hda] at na; simp [Datum.isNaN] at na
        | infinity s =>
          cases hdb : single.read b with
          | nan s t => rw [hdb] at nb; simp [Datum.isNaN] at nb
          | infinity t => rw [(read_infw hda).1, (read_infw hdb).1]
          | number t n j =>
            rw [hda, hdb] at ho
            cases s <;> simp [Datum.order] at ho
        | number s m i =>
          cases hdb : single.read b with
          | nan s t => rw [hdb] at nb; simp [Datum.isNaN] at nb
          | infinity t =>
            rw [hda, hdb] at ho
            cases t <;> simp [Datum.order] at ho
          | number t n j =>
            have h1 := (read_canon hda).2.2
            have h2 := (read_canon hdb).2.2
            rw [hs, ← h2] at h1
            subst h1
            rw [hda, hdb] at ho
            simp only [Datum.order, Option.some.injEq] at ho
            exact num_inj hda hdb (Int.le_antisymm (cmp_le (.inr ho)) (cmp_ge (.inr ho)))
      · right
        simpa using hs
end
section
/-! ## numbers -/
def bodyOf (f : Func) : Code := f.body.getD .skip
abbrev F (x : Nat) : V := .c (.f .f32 fun _ => x)
abbrev vB (x : Bool) : V := .c (.b (.x fun _ => x))
abbrev vI (x : Int) : V := .c (.i .i64 (.x fun _ => x))
def isIn (a lo hi : Nat) : Bool := fcmp .geq .f32 a lo && fcmp .leq .f32 a hi
def inI (n lo hi : Int) : Bool := leB lo n && leB n hi
theorem ltB_iff {a b : Int} : ltB a b = true ↔ a < b := by simp [ltB]
theorem ltB_no {a b : Int} : ltB a b = false ↔ ¬ a < b := by simp [ltB]
theorem leB_iff {a b : Int} : leB a b = true ↔ a ≤ b := by simp [leB]
theorem leB_no {a b : Int} : leB a b = false ↔ ¬ a ≤ b := by simp [leB]
theorem inI_iff {n lo hi : Int} : inI n lo hi = true ↔ lo ≤ n ∧ n ≤ hi := by simp [inI, leB]
/-- for all smaller ones -/
def allI (p : Nat → Bool) : Nat → Bool
  | 0 => true
  | k + 1 => allI p k && p k
theorem allI_at {p : Nat → Bool} : ∀ {n i : Nat}, allI p n = true → i < n → p i = true
  | n + 1, i, h, hi => by
    simp only [allI, Bool.and_eq_true] at h
    by_cases e : i = n
    · subst e; simpa using h.2
    · exact allI_at h.1 (by omega)
theorem allI_no {p : Nat → Bool} {n i : Nat} (h : i < n) (hp : p i = false) : allI p n = false := by
  cases e : allI p n
  · rfl
  · rw [allI_at e h] at hp; cases hp
theorem allI_all {p : Nat → Bool} : ∀ {n : Nat}, (∀ i, i < n → p i = true) → allI p n = true
  | 0, _ => rfl
  | n + 1, h => by simp [allI, allI_all (n := n) (fun i hi => h i (by omega)), h n (by omega)]
def allR (n : Nat) (p : Nat → Bool) : Bool := (List.range n).all p
theorem allR_at {n : Nat} {p : Nat → Bool} (h : allR n p = true) {i : Nat} (hi : i < n) : p i = true := List.all_eq_true.1 h i (List.mem_range.2 hi)
abbrev cv (a : Nat) : Nat := cvU a
def dn (a : Nat) : Nat := (floatToFloatBits .f64 a .f32).getD (qn .f32)
def sqrtB (a : Nat) : Nat := (FloatKind.f64.format.sqrt a).getD (qn .f64)
/-! ## marks -/
abbrev M := Nat × Nat
abbrev addB (a b : Nat) : Nat := fop .add .f32 a b
def plusM (a b : M) : M := (fop .add .f32 a.1 b.1, fop .add .f32 a.2 b.2)
def minusM (a b : M) : M := (fop .sub .f32 a.1 b.1, fop .sub .f32 a.2 b.2)
def timesM (a b : M) : M := (fop .sub .f32 (fop .mul .f32 a.1 b.1) (fop .mul .f32 a.2 b.2), fop .add .f32 (fop .mul .f32 a.1 b.2) (fop .mul .f32 a.2 b.1))
def overM (a : M) (d : Nat) : M := (fop .quo .f32 a.1 d, fop .quo .f32 a.2 d)
def sqM (a : M) : Nat := fop .add .f32 (fop .mul .f32 a.1 a.1) (fop .mul .f32 a.2 a.2)
def sizeM (a : M) : Nat := dn (sqrtB (cv (sqM a)))
def okX (a : Nat) : Bool := isIn a 3313500160 1166016512
def okM (a : M) : Bool := okX a.1 && okX a.2
abbrev at2 (l : List M) (i : Nat) : M := l.getD i (0, 0)
def okS (l : List M) : Bool := allI (fun i => okM (at2 l i)) 16
def offM (l : List M) (c k : Nat) : M := minusM (at2 l (c * 4 + k)) (at2 l k)
def meanM (a b c d : M) : M := overM (plusM (plusM (plusM a b) c) d) 1082130432
def meanO (l : List M) (c : Nat) : M := meanM (offM l c 0) (offM l c 1) (offM l c 2) (offM l c 3)
def grS (l : List M) (c : Nat) : Nat → Nat × Nat
  | 0 => (0, sizeM (offM l c 0))
  | k + 1 => if fcmp .gtr .f32 (sizeM (offM l c (k + 1))) (grS l c k).2 = true then (k + 1, sizeM (offM l c (k + 1))) else grS l c k
/-- so many marks of a colour are moved -/
def mvTo (l : List M) (c : Nat) (f : M → M) : Nat → List M
  | 0 => l
  | k + 1 => (mvTo l c f k).set (c * 4 + k) (f (at2 l (c * 4 + k)))
def moveS (l : List M) (c : Nat) (by' : M) : List M := mvTo l c (fun m => plusM m by') 4
def negM (m : M) (sh : Nat) : M := (fop .sub .f32 0 (fop .mul .f32 m.1 sh), fop .sub .f32 0 (fop .mul .f32 m.2 sh))
def nextS (l : List M) (c sh : Nat) : List M := moveS l c (negM (meanO l c) sh)
def noS : List M := List.replicate 16 (0, 0)
/-- corrections: how it ends, the rounds, the sheet -/
def corrK (c sh w : Nat) : Nat → Nat → List M → Int × Nat × List M
  | 0, n, l => if fcmp .leq .f32 (grS l c 3).2 w = true then (0, n, l) else (7, 0, noS)
  | m + 1, n, l => if fcmp .leq .f32 (grS l c 3).2 w = true then (0, n, l) else
    if okS (nextS l c sh) = true then corrK c sh w m (n + 1) (nextS l c sh) else (4, 0, noS)
end
section
/-! ## corrections -/
theorem corr_code {c sh w : Nat} : ∀ {m n : Nat} {l : List M}, (corrK c sh w m n l).1 = 0 ∨ (corrK c sh w m n l).1 = 7 ∨ (corrK c sh w m n l).1 = 4
  | 0, n, l => by unfold corrK; split <;> simp
  | m + 1, n, l => by
    unfold corrK
    split
    · simp
    · split
      · exact corr_code
      · simp
theorem corr_ok {c sh w : Nat} : ∀ {m n : Nat} {l : List M} {r : Nat} {l' : List M}, okS l = true → corrK c sh w m n l = (0, r, l') → n ≤ r ∧ r ≤ n + m ∧ fcmp .leq .f32 (grS l' c 3).2 w = true ∧ okS l' = true
  | 0, n, l, r, l', hv, h => by
    unfold corrK at h
    split at h
    · rename_i h1
      simp only [Prod.mk.injEq, true_and] at h
      obtain ⟨rfl, rfl⟩ := h
      exact ⟨Nat.le_refl _, Nat.le_refl _, h1, hv⟩
    · simp at h
  | m + 1, n, l, r, l', hv, h => by
    unfold corrK at h
    split at h
    · rename_i h1
      simp only [Prod.mk.injEq, true_and] at h
      obtain ⟨rfl, rfl⟩ := h
      exact ⟨Nat.le_refl _, by omega, h1, hv⟩
    · split at h
      · rename_i h2
        obtain ⟨g1, g2, g3, g4⟩ := corr_ok h2 h
        exact ⟨by omega, by omega, g3, g4⟩
      · simp at h
theorem corr_less {c sh w : Nat} : ∀ {j m n : Nat} {l : List M} {l' : List M}, corrK c sh w m n l = (0, n + (j + 1), l') → (corrK c sh w j n l).1 = 7
  | j, 0, n, l, l', h => by
    unfold corrK at h
    split at h
    · simp at h
    · simp at h
  | 0, m + 1, n, l, l', h => by
    unfold corrK at h
    split at h
    · simp at h
    · rename_i h1
      unfold corrK
      rw [if_neg h1]
  | j + 1, m + 1, n, l, l', h => by
    unfold corrK at h
    split at h
    · simp at h
    · rename_i h1
      split at h
      · rename_i h2
        unfold corrK
        rw [if_neg h1, if_pos h2]
        exact corr_less (l' := l') (m := m) (by rw [h]; congr 2; omega)
      · simp at h
/-! ## marks that are drawn -/
def q16 (r : Nat) : Nat := fop .quo .f32 (floatOfInt .f32 ((r : Int) - 400)) 1098907648
def mvOk (cc q : Nat) : Bool :=
  fop .sub .f32 (fop .add .f32 cc q) cc == q && fop .add .f32 (fop .add .f32 cc q) (fop .sub .f32 0 (fop .mul .f32 q 1065353216)) == cc && okX (fop .add .f32 cc q)
theorem d_mv0 : allR 801 (fun r => mvOk 0 (q16 r)) = true := by decide +kernel
theorem d_mv1 : allR 801 (fun r => mvOk 1120403456 (q16 r)) = true := by decide +kernel
theorem d_mv2 : allR 801 (fun r => mvOk 1117782016 (q16 r)) = true := by decide +kernel
theorem d_mean : allR 801 (fun r => fop .quo .f32 (fop .add .f32 (fop .add .f32 (fop .add .f32 (q16 r) (q16 r)) (q16 r)) (q16 r)) 1082130432 == q16 r) = true := by decide +kernel
theorem d_okq : allR 801 (fun r => okX (q16 r)) = true := by decide +kernel
/-! ## steps -/
def floorB (a : Nat) : Nat := match FloatKind.f64.decode a with
  | .nan _ _ => qn .f64
  | d => FloatKind.f64.encode (d.integral .down)
def ceilB (a : Nat) : Nat := match FloatKind.f64.decode a with
  | .nan _ _ => qn .f64
  | d => FloatKind.f64.encode (d.integral .up)
def stepX (a s : Nat) : Nat :=
  if fcmp .geq .f32 (fop .quo .f32 a s) 0 = true then fop .mul .f32 s (dn (floorB (cv (fop .add .f32 (fop .quo .f32 a s) 1056964608)))) else fop .mul .f32 s (dn (ceilB (cv (fop .sub .f32 (fop .quo .f32 a s) 1056964608))))
def st16 (k : Nat) : Nat := fop .quo .f32 (floatOfInt .f32 (1 + (k : Int))) 1098907648
def againOk (s a : Nat) : Bool := let b := stepX a s; okX b && fcmp .eql .f32 (stepX b s) b
theorem d_step : allR 1 (fun k => let s := st16 k; allR 801 (fun r => againOk s (q16 r))) = true := by decide +kernel
end
section
/-! ## a sheet of which one colour is moved -/
def cnr (k : Nat) : M := [((0 : Nat), (0 : Nat)), (1120403456, 0), (1120403456, 1117782016), (0, 1117782016)].getD k (0, 0)
def baseS : List M := [cnr 0, cnr 1, cnr 2, cnr 3, cnr 0, cnr 1, cnr 2, cnr 3, cnr 0, cnr 1, cnr 2, cnr 3, cnr 0, cnr 1, cnr 2, cnr 3]
def movedS (c : Nat) (m : M) : List M := moveS baseS c m
/-- a mark that is drawn -/
def drawnM (m : M) : Prop := ∃ a b : Nat, a < 801 ∧ b < 801 ∧ m = (q16 a, q16 b)
theorem mv_of {cc q : Nat} (h : mvOk cc q = true) : fop .sub .f32 (fop .add .f32 cc q) cc = q ∧ fop .add .f32 (fop .add .f32 cc q) (fop .sub .f32 0 (fop .mul .f32 q 1065353216)) = cc ∧ okX (fop .add .f32 cc q) = true := by
  unfold mvOk at h
  simp only [Bool.and_eq_true, beq_iff_eq] at h
  exact ⟨h.1.1, h.1.2, h.2⟩
theorem mv_cnr {m : M} (h : drawnM m) (k : Nat) (hk : k < 4) : minusM (plusM (cnr k) m) (cnr k) = m ∧ plusM (plusM (cnr k) m) (negM m 1065353216) = cnr k ∧ okM (plusM (cnr k) m) = true := by
  obtain ⟨a, b, ha, hb, rfl⟩ := h
  have x0 := mv_of (allR_at d_mv0 ha)
  have x1 := mv_of (allR_at d_mv1 ha)
  have y0 := mv_of (allR_at d_mv0 hb)
  have y2 := mv_of (allR_at d_mv2 hb)
  have key : ∀ (cx cy : Nat), (mvOk cx (q16 a) = true → True) → fop .sub .f32 (fop .add .f32 cx (q16 a)) cx = q16 a ∧ fop .add .f32 (fop .add .f32 cx (q16 a)) (fop .sub .f32 0 (fop .mul .f32 (q16 a) 1065353216)) = cx ∧ okX (fop .add .f32 cx (q16 a)) = true →
      fop .sub .f32 (fop .add .f32 cy (q16 b)) cy = q16 b ∧ fop .add .f32 (fop .add .f32 cy (q16 b)) (fop .sub .f32 0 (fop .mul .f32 (q16 b) 1065353216)) = cy ∧ okX (fop .add .f32 cy (q16 b)) = true →
      minusM (plusM (cx, cy) (q16 a, q16 b)) (cx, cy) = (q16 a, q16 b) ∧ plusM (plusM (cx, cy) (q16 a, q16 b)) (negM (q16 a, q16 b) 1065353216) = (cx, cy) ∧ okM (plusM (cx, cy) (q16 a, q16 b)) = true := by
    intro cx cy _ h1 h2
    refine ⟨?_, ?_, ?_⟩
    · show (fop .sub .f32 (fop .add .f32 cx (q16 a)) cx, fop .sub .f32 (fop .add .f32 cy (q16 b)) cy) = _
      rw [h1.1, h2.1]
    · show (fop .add .f32 (fop .add .f32 cx (q16 a)) (fop .sub .f32 0 (fop .mul .f32 (q16 a) 1065353216)), fop .add .f32 (fop .add .f32 cy (q16 b)) (fop .sub .f32 0 (fop .mul .f32 (q16 b) 1065353216))) = _
      rw [h1.2.1, h2.2.1]
    · show (okX (fop .add .f32 cx (q16 a)) && okX (fop .add .f32 cy (q16 b))) = true
      rw [h1.2.2, h2.2.2]; rfl
  match k, hk with
  | 0, _ => exact key _ _ (fun _ => trivial) x0 y0
  | 1, _ => exact key _ _ (fun _ => trivial) x1 y0
  | 2, _ => exact key _ _ (fun _ => trivial) x1 y2
  | 3, _ => exact key _ _ (fun _ => trivial) x0 y2
theorem mean_same {m : M} (h : drawnM m) : meanM m m m m = m := by
  obtain ⟨a, b, ha, hb, rfl⟩ := h
  show (fop .quo .f32 (fop .add .f32 (fop .add .f32 (fop .add .f32 (q16 a) (q16 a)) (q16 a)) (q16 a)) 1082130432, fop .quo .f32 (fop .add .f32 (fop .add .f32 (fop .add .f32 (q16 b) (q16 b)) (q16 b)) (q16 b)) 1082130432) = _
  rw [beq_iff_eq.1 (allR_at d_mean ha), beq_iff_eq.1 (allR_at d_mean hb)]
theorem gtr_self (a : Nat) : fcmp .gtr .f32 a a = false := by
  unfold fcmp Ieee.Format.order
  cases h : FloatKind.f32.format.read a with
  | number s m i => simp [Ieee.Datum.order, compare, compareOfLessAndEq]
  | infinity s => cases s <;> rfl
  | nan s t => rfl
section
variable {c : Nat} {m : M} (hc : 1 ≤ c ∧ c ≤ 3) (h : drawnM m)
include hc
theorem at_moved : ∀ k, k < 4 → at2 (movedS c m) (c * 4 + k) = plusM (cnr k) m ∧ at2 (movedS c m) k = cnr k := by
  intro k hk
  have : c = 1 ∨ c = 2 ∨ c = 3 := by omega
  have hk' : k = 0 ∨ k = 1 ∨ k = 2 ∨ k = 3 := by omega
  rcases this with rfl | rfl | rfl <;> rcases hk' with rfl | rfl | rfl | rfl <;> exact ⟨rfl, rfl⟩
theorem back_moved {g : M} (hg : ∀ k, k < 4 → plusM (plusM (cnr k) m) g = cnr k) : moveS (movedS c m) c g = baseS := by
  have h0 := hg 0 (by decide)
  have h1 := hg 1 (by decide)
  have h2 := hg 2 (by decide)
  have h3 := hg 3 (by decide)
  have : c = 1 ∨ c = 2 ∨ c = 3 := by omega
  rcases this with rfl | rfl | rfl
  · show [cnr 0, cnr 1, cnr 2, cnr 3, plusM (plusM (cnr 0) m) g, plusM (plusM (cnr 1) m) g, plusM (plusM (cnr 2) m) g, plusM (plusM (cnr 3) m) g, cnr 0, cnr 1, cnr 2, cnr 3, cnr 0, cnr 1, cnr 2, cnr 3] = _
    rw [h0, h1, h2, h3]; rfl
  · show [cnr 0, cnr 1, cnr 2, cnr 3, cnr 0, cnr 1, cnr 2, cnr 3, plusM (plusM (cnr 0) m) g, plusM (plusM (cnr 1) m) g, plusM (plusM (cnr 2) m) g, plusM (plusM (cnr 3) m) g, cnr 0, cnr 1, cnr 2, cnr 3] = _
    rw [h0, h1, h2, h3]; rfl
  · show [cnr 0, cnr 1, cnr 2, cnr 3, cnr 0, cnr 1, cnr 2, cnr 3, cnr 0, cnr 1, cnr 2, cnr 3, plusM (plusM (cnr 0) m) g, plusM (plusM (cnr 1) m) g, plusM (plusM (cnr 2) m) g, plusM (plusM (cnr 3) m) g] = _
    rw [h0, h1, h2, h3]; rfl
include h
theorem off_moved (k : Nat) (hk : k < 4) : offM (movedS c m) c k = m := by
  unfold offM
  rw [(at_moved hc k hk).1, (at_moved hc k hk).2]
  exact (mv_cnr h k hk).1
theorem great_moved : ∀ k, k < 4 → grS (movedS c m) c k = (0, sizeM m)
  | 0, _ => by unfold grS; rw [off_moved hc h 0 (by decide)]
  | k + 1, hk => by
    unfold grS
    rw [great_moved k (by omega), off_moved hc h (k + 1) hk, gtr_self]
    rfl
theorem mean_moved : meanO (movedS c m) c = m := by
  unfold meanO
  rw [off_moved hc h 0 (by decide), off_moved hc h 1 (by decide), off_moved hc h 2 (by decide), off_moved hc h 3 (by decide)]
  exact mean_same h
theorem next_moved : nextS (movedS c m) c 1065353216 = baseS := by
  unfold nextS
  rw [mean_moved hc h]
  exact back_moved hc fun k hk => (mv_cnr h k hk).2.1
theorem ok_moved : okS (movedS c m) = true := by
  have hb : ∀ k, k < 4 → okM (cnr k) = true := by
    intro k hk
    have hk' : k = 0 ∨ k = 1 ∨ k = 2 ∨ k = 3 := by omega
    rcases hk' with rfl | rfl | rfl | rfl <;> decide +kernel
  have hm := fun k hk => (mv_cnr h k hk).2.2
  have : c = 1 ∨ c = 2 ∨ c = 3 := by omega
  refine allI_all fun i hi => ?_
  have e : i = (i / 4) * 4 + i % 4 := by omega
  have hq : i / 4 = 0 ∨ i / 4 = 1 ∨ i / 4 = 2 ∨ i / 4 = 3 := by omega
  have hr : i % 4 = 0 ∨ i % 4 = 1 ∨ i % 4 = 2 ∨ i % 4 = 3 := by omega
  have key : at2 (movedS c m) i = cnr (i % 4) ∨ at2 (movedS c m) i = plusM (cnr (i % 4)) m := by
    rw [e]
    rcases this with rfl | rfl | rfl <;> rcases hq with h1 | h1 | h1 | h1 <;> rcases hr with h2 | h2 | h2 | h2 <;> rw [h1, h2] <;> first | exact .inl rfl | exact .inr rfl
  rcases key with k | k
  · rw [k]; exact hb _ (by omega)
  · rw [k]; exact hm _ (by omega)
end
theorem great_base {c : Nat} (hc : c ≤ 3) : grS baseS c 3 = (0, 0) := by
  have : c = 0 ∨ c = 1 ∨ c = 2 ∨ c = 3 := by omega
  rcases this with rfl | rfl | rfl | rfl <;> decide +kernel
theorem ok_base : okS baseS = true := by decide +kernel
/-- one round brings it back -/
theorem corr_moved {c : Nat} {m : M} {w : Nat} (hc : 1 ≤ c ∧ c ≤ 3) (h : drawnM m) (hw : fcmp .leq .f32 0 w = true) :
    corrK c 1065353216 w 1 0 (movedS c m) = if fcmp .leq .f32 (sizeM m) w = true then (0, 0, movedS c m) else (0, 1, baseS) := by
  unfold corrK
  rw [great_moved hc h 3 (by decide), next_moved hc h, if_pos ok_base]
  split
  · rfl
  · unfold corrK
    rw [great_base hc.2]
    show (if fcmp .leq .f32 0 w = true then _ else _) = _
    rw [if_pos hw]
end
section
open Go Ieee
/-! ## roots are not too great -/
theorem cut_le {n k b : Nat} (h : n < 2 ^ (b + k)) (hk : k ≤ n.log2 + 2) : Toward.even.cut false n k ≤ 2 ^ b := by
  unfold Toward.cut
  rw [Nat.min_eq_left hk, Nat.one_shiftLeft]
  have h1 : n / 2 ^ k < 2 ^ b := (Nat.div_lt_iff_lt_mul (Nat.two_pow_pos k)).2 (by rw [← Nat.pow_add]; exact h)
  simp only
  have h2 : ∀ c : Bool, c.toNat ≤ 1 := fun c => by cases c <;> simp
  have := h2 (decide (2 ^ k < 2 * (n % 2 ^ k)) || (2 ^ k == 2 * (n % 2 ^ k) && n / 2 ^ k % 2 == 1))
  omega
theorem near_q64 {m : Nat} {p K : Int} (hm : m ≠ 0) (hK : (m.log2 : Int) + p ≤ K) (h0 : -1022 ≤ K) (h1 : K ≤ 900) :
    ∃ q : Nat, double.nearest false m p = double.word false q ∧ (q : Int) ≤ (K + 1024) * 4503599627370496 := by
  unfold Format.nearest
  rw [if_neg hm]
  simp only [bin64, lp64, inf64, fb64]
  have hlt : m < 2 ^ (m.log2 + 1) := Nat.lt_log2_self
  generalize hL : max (p + (m.log2 : Int) - 52) (-1074) = last
  refine ⟨_, rfl, ?_⟩
  have hlast : last ≤ K - 52 ∨ last = -1074 := by omega
  have hcut : Toward.even.cut false (m <<< (p - last).toNat) (last - p).toNat ≤ 2 ^ 53 := by
    rw [Nat.shiftLeft_eq]
    by_cases hp : last ≤ p
    · rw [show (last - p).toNat = 0 by omega]
      refine cut_le (b := 53) ?_ (Nat.zero_le _)
      have : m * 2 ^ (p - last).toNat < 2 ^ (m.log2 + 1) * 2 ^ (p - last).toNat := Nat.mul_lt_mul_of_pos_right hlt (Nat.two_pow_pos _)
      rw [← Nat.pow_add] at this
      exact Nat.lt_of_lt_of_le this (Nat.pow_le_pow_right (by decide) (by omega))
    · rw [show (p - last).toNat = 0 by omega, Nat.pow_zero, Nat.mul_one]
      by_cases hd : (last - p).toNat ≤ m.log2 + 2
      · refine cut_le (b := 53) ?_ hd
        exact Nat.lt_of_lt_of_le hlt (Nat.pow_le_pow_right (by decide) (by omega))
      · unfold Toward.cut
        rw [Nat.min_eq_right (by omega), Nat.one_shiftLeft]
        have h3 : m / 2 ^ (m.log2 + 2) = 0 := Nat.div_eq_of_lt (Nat.lt_of_lt_of_le hlt (Nat.pow_le_pow_right (by decide) (by omega)))
        simp only
        rw [h3]
        have h2 : ∀ c : Bool, c.toNat ≤ 1 := fun c => by cases c <;> simp
        refine Nat.le_trans (Nat.add_le_add_left (h2 _) 0) ?_
        decide
  have h53 : (2 : Nat) ^ 53 = 9007199254740992 := by decide
  rw [h53] at hcut
  have hmin := Nat.min_le_left ((last - -1074).toNat * 4503599627370496 + Toward.even.cut false (m <<< (p - last).toNat) (last - p).toNat) 9218868437227405312
  have : (((last - -1074).toNat : Nat) : Int) ≤ K + 1022 := by omega
  omega
theorem cut_kept {m : Nat} {p last : Int} {b : Nat} (hm : m ≠ 0) (h : (m.log2 : Int) + 1 + p - last ≤ b) : Toward.even.cut false (m <<< (p - last).toNat) (last - p).toNat ≤ 2 ^ b := by
  have hlt : m < 2 ^ (m.log2 + 1) := Nat.lt_log2_self
  rw [Nat.shiftLeft_eq]
  by_cases hp : last ≤ p
  · rw [show (last - p).toNat = 0 by omega]
    refine cut_le (b := b) ?_ (Nat.zero_le _)
    have : m * 2 ^ (p - last).toNat < 2 ^ (m.log2 + 1) * 2 ^ (p - last).toNat := Nat.mul_lt_mul_of_pos_right hlt (Nat.two_pow_pos _)
    rw [← Nat.pow_add] at this
    exact Nat.lt_of_lt_of_le this (Nat.pow_le_pow_right (by decide) (by omega))
  · rw [show (p - last).toNat = 0 by omega, Nat.pow_zero, Nat.mul_one]
    by_cases hd : (last - p).toNat ≤ m.log2 + 2
    · refine cut_le (b := b) ?_ hd
      exact Nat.lt_of_lt_of_le hlt (Nat.pow_le_pow_right (by decide) (by omega))
    · unfold Toward.cut
      rw [Nat.min_eq_right (by omega), Nat.one_shiftLeft]
      have h3 : m / 2 ^ (m.log2 + 2) = 0 := Nat.div_eq_of_lt (Nat.lt_of_lt_of_le hlt (Nat.pow_le_pow_right (by decide) (by omega)))
      simp only
      rw [h3]
      have h2 : ∀ c : Bool, c.toNat ≤ 1 := fun c => by cases c <;> simp
      exact Nat.le_trans (Nat.add_le_add_left (h2 _) 0) (Nat.one_le_two_pow)
theorem near_fin32 {m : Nat} {p : Int} (hK : m = 0 ∨ (m.log2 : Int) + p ≤ 120) : (single.read (single.nearest false m p)).isInfinity = false := by
  have fin : ∀ q : Nat, q < 2139095040 → (single.read (single.word false q)).isInfinity = false := by
    intro q hq
    rw [read_word false (Nat.le_of_lt hq)]
    split
    · rfl
    · rfl
  by_cases hm : m = 0
  · unfold Format.nearest
    rw [if_pos hm]
    exact fin 0 (by decide)
  · have hK : (m.log2 : Int) + p ≤ 120 := by
      rcases hK with h | h
      · exact absurd h hm
      · exact h
    unfold Format.nearest
    rw [if_neg hm]
    simp only [bin32, lp32, inf32, fb32]
    generalize hL : max (p + (m.log2 : Int) - 23) (-149) = last
    refine fin _ ?_
    have hc := cut_kept (p := p) (last := last) (b := 24) hm (by omega)
    have h24 : (2 : Nat) ^ 24 = 16777216 := by decide
    rw [h24] at hc
    have hmin := Nat.min_le_left ((last - -149).toNat * 8388608 + Toward.even.cut false (m <<< (p - last).toNat) (last - p).toNat) 2139095040
    have : (last - -149).toNat ≤ 246 := by omega
    omega
/-- the root of a number that is not too great -/
theorem root_from : ∀ (n todo root : Nat), Datum.rootFrom n todo root < root + 2 ^ todo
  | n, 0, root => by unfold Datum.rootFrom; simp
  | n, todo + 1, root => by
    unfold Datum.rootFrom
    simp only
    rw [Nat.one_shiftLeft]
    have h := Nat.pow_succ 2 todo
    split
    · have := root_from n todo (root + 2 ^ todo); omega
    · have := root_from n todo root; omega
theorem root_le {m : Nat} {i : Int} {k : Nat} (hm : m ≠ 0) (h : (m.log2 : Int) + i ≤ 128) : ∃ n j, (Datum.number false m i).root k = some (.number false n j) ∧ (n = 0 ∨ (n.log2 : Int) + j ≤ 70) := by
  unfold Datum.root
  simp only [hm, if_false, Bool.false_eq_true]
  generalize hmore : (2 * k - m.log2 + ((i - ((2 * k - m.log2 : Nat) : Int)) % 2).toNat) = more
  refine ⟨_, _, rfl, ?_⟩
  generalize hn : m <<< more = n
  have hn0 : n ≠ 0 := by
    rw [← hn, Nat.shiftLeft_eq]
    exact Nat.mul_ne_zero hm (Nat.ne_of_gt (Nat.two_pow_pos _))
  have hlog : n.log2 = m.log2 + more := by
    have h1 : 2 ^ m.log2 ≤ m := Nat.log2_self_le hm
    have h2 : m < 2 ^ (m.log2 + 1) := Nat.lt_log2_self
    have g1 : m.log2 + more ≤ n.log2 := (Nat.le_log2 hn0).2 (by rw [← hn, Nat.shiftLeft_eq, Nat.pow_add]; exact Nat.mul_le_mul_right _ h1)
    have g2 : n.log2 < m.log2 + more + 1 := (Nat.log2_lt hn0).2 (by rw [← hn, Nat.shiftLeft_eq, show m.log2 + more + 1 = m.log2 + 1 + more by omega, Nat.pow_add]; exact Nat.mul_lt_mul_of_pos_right h2 (Nat.two_pow_pos _))
    omega
  have hw := root_from n (n.log2 / 2 + 1) 0
  rw [Nat.zero_add] at hw
  generalize Datum.rootFrom n (n.log2 / 2 + 1) 0 = whole at *
  have h2 : ∀ c : Bool, c.toNat ≤ 1 := fun c => by cases c <;> simp
  have hc := h2 (whole * whole != n)
  generalize (whole * whole != n).toNat = c at *
  by_cases e : 2 * whole + c = 0
  · exact .inl e
  · right
    have hlt : 2 * whole + c < 2 ^ (n.log2 / 2 + 1 + 1) := by rw [Nat.pow_succ]; omega
    have := (Nat.log2_lt e).2 hlt
    omega
theorem up_mag {a : Nat} {s : Bool} {m : Nat} {i : Int} (h : single.read a = .number s m i) : ∃ n j, double.read (cvU a) = .number s n j ∧ (n = 0 ∨ (n.log2 : Int) + j ≤ 127) := by
  obtain ⟨hc, hw, _⟩ := read_canon h
  obtain ⟨r, hr, h1, ⟨n, j, hd⟩, _⟩ := up_num h
  have e : cvU a = double.word s r := by unfold cvU; rw [h1]; rfl
  refine ⟨n, j, by rw [e]; exact hd s, ?_⟩
  by_cases hm : m = 0
  · left
    have h2 : floatToFloatBits .f32 a .f64 = some (double.word s 0) := by
      unfold floatToFloatBits
      rw [if_neg (by decide), show FloatKind.f32.decode a = .number s m i from h]
      have e2 : FloatKind.f64.encode (.number s m i) = double.word s 0 := by
        show double.nearest s m i = _
        unfold Format.nearest
        rw [if_pos hm]
      dsimp only
      rw [e2]
      have e3 : FloatKind.f64.decode (double.word s 0) = .number s 0 (-1074) := by
        show double.read _ = _
        rw [read_word64 s (by omega)]; rfl
      rw [e3]; rfl
    rw [h2] at h1
    have e4 : double.word s r = double.word s 0 := (Option.some.inj h1).symm
    have e5 := hd s
    rw [e4, read_word64 s (by omega)] at e5
    have e6 : Datum.number s 0 (-1074) = Datum.number s n j := e5
    injection e6 with _ e7 _
    exact e7.symm
  · right
    have hL : m.log2 ≤ 23 := by
      have : m.log2 < 24 := (Nat.log2_lt hm).2 (by omega)
      omega
    have hi1 : -149 ≤ i ∧ i ≤ 104 := by omega
    obtain ⟨k1, k2⟩ := shl52 hm (by omega)
    generalize hR : (i + m.log2 + 1022).toNat * 4503599627370496 + m <<< (52 - m.log2) = R
    have hR2 : R < 9218868437227405312 := by omega
    have hn := near64 s hm (p := i) (by omega) (by omega) (by omega)
    rw [hR] at hn
    have hd2 : double.read (double.word s R) = .number s (m <<< (52 - m.log2)) (i + m.log2 - 52) := by
      rw [read_word64 s (by omega), if_neg (by omega), if_pos hR2]
      congr 1 <;> omega
    have h2 : floatToFloatBits .f32 a .f64 = some (double.word s R) := by
      unfold floatToFloatBits
      rw [if_neg (by decide), show FloatKind.f32.decode a = .number s m i from h]
      have e2 : FloatKind.f64.encode (.number s m i) = double.word s R := hn
      dsimp only
      rw [e2]
      have e3 : FloatKind.f64.decode (double.word s R) = _ := hd2
      rw [e3]; rfl
    rw [h2] at h1
    have e4 : double.word s r = double.word s R := (Option.some.inj h1).symm
    have e5 := hd s
    rw [e4, hd2] at e5
    injection e5 with _ e7 e8
    have hM : m <<< (52 - m.log2) ≠ 0 := by omega
    have hML : (m <<< (52 - m.log2)).log2 < 53 := (Nat.log2_lt hM).2 (by omega)
    rw [← e7, ← e8]
    omega
theorem down_some {x : Nat} {n : Nat} {j : Int} {s : Bool} (h : double.read x = .number s n j) (hs : s = false ∨ n = 0) (hk : n = 0 ∨ (n.log2 : Int) + j ≤ 120) : (floatToFloatBits .f64 x .f32).isSome = true := by
  unfold floatToFloatBits
  rw [if_neg (by decide), show FloatKind.f64.decode x = .number s n j from h]
  dsimp only
  have : (FloatKind.f32.decode (FloatKind.f32.encode (.number s n j))).isInfinity = false := by
    show (single.read (single.nearest s n j)).isInfinity = false
    rcases hs with rfl | rfl
    · exact near_fin32 hk
    · unfold Format.nearest
      rw [if_pos rfl, read_word s (by decide)]
      rfl
  rw [this]
  rfl
theorem root_zero {s : Bool} {j : Int} {k : Nat} : (Datum.number s 0 j).root k = some (.number s 0 j) := by unfold Datum.root; simp
theorem root_neg {n : Nat} {j : Int} {k : Nat} (h : n ≠ 0) : (Datum.number true n j).root k = none := by unfold Datum.root; simp [h]
/-- a root is never too great -/
theorem sqrt_some (a : Nat) : (FloatKind.f64.decode (sqrtB (cv a))).isNaN = false → (floatToFloatBits .f64 (sqrtB (cv a)) .f32).isSome = true := by
  intro hn
  cases hd : single.read a with
  | number s m i =>
    obtain ⟨n, j, h1, h2⟩ := up_mag hd
    by_cases hz : n = 0
    · subst hz
      have e : sqrtB (cv a) = double.word s 0 := by
        unfold sqrtB
        show (((double.read (cvU a)).root _).map double.write).getD _ = _
        rw [h1, root_zero]
        show double.nearest s 0 j = _
        unfold Format.nearest
        rw [if_pos rfl]
      rw [e]
      exact down_some (n := 0) (j := -1074) (s := s) (by rw [read_word64 s (by omega)]; rfl) (.inr rfl) (.inl rfl)
    · have h2 : (n.log2 : Int) + j ≤ 127 := by
        rcases h2 with h | h
        · exact absurd h hz
        · exact h
      cases s with
      | true =>
        have e : sqrtB (cv a) = qn .f64 := by
          unfold sqrtB
          show (((double.read (cvU a)).root _).map double.write).getD _ = _
          rw [h1, root_neg hz]
          rfl
        rw [e, show (FloatKind.f64.decode (qn .f64)).isNaN = true from nan_qn .f64] at hn
        cases hn
      | false =>
        obtain ⟨n', j', h3, h4⟩ := root_le (k := double.fractionBits + 2) hz (i := j) (by omega)
        have e : sqrtB (cv a) = double.nearest false n' j' := by
          unfold sqrtB
          show (((double.read (cvU a)).root (double.fractionBits + 2)).map double.write).getD _ = _
          rw [h1, h3]
          rfl
        rw [e]
        by_cases hz' : n' = 0
        · unfold Format.nearest
          rw [if_pos hz']
          exact down_some (n := 0) (j := -1074) (s := false) (by rw [read_word64 false (by omega)]; rfl) (.inr rfl) (.inl rfl)
        · have h4 : (n'.log2 : Int) + j' ≤ 70 := by
            rcases h4 with h | h
            · exact absurd h hz'
            · exact h
          obtain ⟨q, hq, hb⟩ := near_q64 hz' h4 (by decide) (by decide)
          rw [hq]
          have hq2 : q < 9218868437227405312 := by omega
          have hr := read_word64 false (Nat.le_of_lt hq2)
          by_cases c : q < 4503599627370496
          · rw [if_pos c] at hr
            refine down_some hr (.inl rfl) ?_
            by_cases z : q = 0
            · exact .inl z
            · have : q.log2 < 53 := (Nat.log2_lt z).2 (by omega)
              right; omega
          · rw [if_neg c, if_pos hq2] at hr
            refine down_some hr (.inl rfl) (.inr ?_)
            have : (4503599627370496 + q % 4503599627370496).log2 < 53 := (Nat.log2_lt (by omega)).2 (by omega)
            omega
  | infinity s =>
    have e1 : cvU a = double.word s 9218868437227405312 := by
      unfold cvU floatToFloatBits
      rw [if_neg (by decide), show FloatKind.f32.decode a = .infinity s from hd]
      rfl
    have e2 : double.read (cvU a) = .infinity s := by rw [e1, read_word64 s (Nat.le_refl _)]; rfl
    cases s with
    | true =>
      have e : sqrtB (cv a) = qn .f64 := by
        unfold sqrtB
        show (((double.read (cvU a)).root _).map double.write).getD _ = _
        rw [e2]; rfl
      rw [e, show (FloatKind.f64.decode (qn .f64)).isNaN = true from nan_qn .f64] at hn
      cases hn
    | false =>
      have e : sqrtB (cv a) = double.word false 9218868437227405312 := by
        unfold sqrtB
        show (((double.read (cvU a)).root _).map double.write).getD _ = _
        rw [e2]; rfl
      rw [e]
      unfold floatToFloatBits
      rw [if_neg (by decide), show FloatKind.f64.decode (double.word false 9218868437227405312) = .infinity false from by show double.read _ = _; rw [read_word64 false (Nat.le_refl _)]; rfl]
      rfl
  | nan s t =>
    have e1 : cvU a = qn .f64 := by
      unfold cvU floatToFloatBits
      rw [if_neg (by decide), show FloatKind.f32.decode a = .nan s t from hd]
      rfl
    have e : sqrtB (cv a) = qn .f64 := by
      show sqrtB (cvU a) = _
      rw [e1]
      decide +kernel
    rw [e, show (FloatKind.f64.decode (qn .f64)).isNaN = true from nan_qn .f64] at hn
    cases hn
end
section
open Go Ieee
/-! ## sizes are numbers -/
def nnD : Datum → Bool
  | .number false _ _ => true
  | .infinity false => true
  | _ => false
theorem nn_word32 {r : Nat} (h : r ≤ 2139095040) : nnD (single.read (single.word false r)) = true := by
  have e1 : single.signWeight = 2147483648 := by decide
  have e2 : single.infRung = 2139095040 := by decide
  have e3 : single.binade = 8388608 := by decide
  unfold Format.read Format.word
  rw [e1, e2, e3]
  simp only [Bool.false_eq_true, if_false]
  have h1 : r / 2147483648 % 2 = 0 := by omega
  have h2 : r % 2147483648 = r := by omega
  rw [h1, h2]
  have h3 : (0 == 1) = false := rfl
  rw [h3]
  split
  · rfl
  · split
    · rfl
    · rw [if_pos (by omega)]; rfl
theorem nn_word64 {r : Nat} (h : r ≤ 9218868437227405312) : nnD (double.read (double.word false r)) = true := by
  have e1 : double.signWeight = 9223372036854775808 := by decide
  have e2 : double.infRung = 9218868437227405312 := by decide
  have e3 : double.binade = 4503599627370496 := by decide
  unfold Format.read Format.word
  rw [e1, e2, e3]
  simp only [Bool.false_eq_true, if_false]
  have h1 : r / 9223372036854775808 % 2 = 0 := by omega
  have h2 : r % 9223372036854775808 = r := by omega
  rw [h1, h2]
  have h3 : (0 == 1) = false := rfl
  rw [h3]
  split
  · rfl
  · split
    · rfl
    · rw [if_pos (by omega)]; rfl
theorem nn_write32 {d : Datum} (h : nnD d = true) : nnD (single.read (single.write d)) = true := by
  have e2 : single.infRung = 2139095040 := by decide
  cases d with
  | number s m p =>
    cases s with
    | true => cases h
    | false =>
      show nnD (single.read (single.nearest false m p)) = true
      unfold Format.nearest
      split
      · exact nn_word32 (by decide)
      · exact nn_word32 (by rw [← e2]; exact Nat.min_le_right _ _)
  | infinity s =>
    cases s with
    | true => cases h
    | false => exact nn_word32 (by decide)
  | nan s t => cases h
theorem nn_write64 {d : Datum} (h : nnD d = true) : nnD (double.read (double.write d)) = true := by
  have e2 : double.infRung = 9218868437227405312 := by decide
  cases d with
  | number s m p =>
    cases s with
    | true => cases h
    | false =>
      show nnD (double.read (double.nearest false m p)) = true
      unfold Format.nearest
      split
      · exact nn_word64 (by decide)
      · exact nn_word64 (by rw [← e2]; exact Nat.min_le_right _ _)
  | infinity s =>
    cases s with
    | true => cases h
    | false => exact nn_word64 (by decide)
  | nan s t => cases h
theorem signed_nn (m k : Nat) : 0 ≤ signed false m k := by
  exact Int.natCast_nonneg (m <<< k)
theorem nn_sum {x y : Datum} (hx : nnD x = true) (hy : nnD y = true) : ∃ d, x.sum y = some d ∧ nnD d = true := by
  cases x with
  | nan => cases hx
  | infinity s =>
    cases s with
    | true => cases hx
    | false =>
      cases y with
      | nan => cases hy
      | infinity t => cases t with
        | true => cases hy
        | false => exact ⟨_, rfl, rfl⟩
      | number t n j => exact ⟨_, rfl, rfl⟩
  | number s m i =>
    cases s with
    | true => cases hx
    | false =>
      cases y with
      | nan => cases hy
      | infinity t => cases t with
        | true => cases hy
        | false => exact ⟨_, rfl, rfl⟩
      | number t n j => cases t with
        | true => cases hy
        | false =>
          refine ⟨_, rfl, ?_⟩
          have h := Int.add_nonneg (signed_nn m (i - min i j).toNat) (signed_nn n (j - min i j).toNat)
          generalize signed false m (i - min i j).toNat + signed false n (j - min i j).toNat = t at *
          have e : (if t = 0 then false && false else decide (t < 0)) = false := by
            split
            · rfl
            · exact decide_eq_false (by omega)
          rw [e]; rfl
theorem nn_root {x : Datum} {k : Nat} (hx : nnD x = true) : ∃ d, x.root k = some d ∧ nnD d = true := by
  cases x with
  | nan => cases hx
  | infinity s => cases s with
    | true => cases hx
    | false => exact ⟨_, rfl, rfl⟩
  | number s m i => cases s with
    | true => cases hx
    | false =>
      by_cases e : m = 0
      · subst e; exact ⟨_, root_zero, rfl⟩
      · unfold Datum.root
        simp only [e, if_false, Bool.false_eq_true]
        exact ⟨_, rfl, rfl⟩
def nn (a : Nat) : Prop := nnD (single.read a) = true
theorem nn_add {a b : Nat} (ha : nn a) (hb : nn b) : nn (fop .add .f32 a b) := by
  obtain ⟨d, h1, h2⟩ := nn_sum ha hb
  have e : floatBits .add .f32 a b = some (single.write d) := by
    show ((single.read a).sum (single.read b)).map single.write = _
    rw [h1]; rfl
  unfold nn fop
  rw [e]
  exact nn_write32 h2
theorem nn_sq {a : Nat} (h : ∃ s m i, single.read a = .number s m i) : nn (fop .mul .f32 a a) := by
  obtain ⟨s, m, i, h⟩ := h
  have e : floatBits .mul .f32 a a = some (single.write (.number (s ^^ s) (m * m) (i + i))) := by
    show ((single.read a).product (single.read a)).map single.write = _
    rw [h]; rfl
  unfold nn fop
  rw [e]
  rw [Bool.xor_self]
  exact nn_write32 (d := .number false (m * m) (i + i)) rfl
theorem nn_cv {a : Nat} (h : nn a) : nnD (double.read (cv a)) = true := by
  unfold nn at h
  cases hd : single.read a with
  | nan => rw [hd] at h; cases h
  | infinity s =>
    rw [hd] at h
    have e : cvU a = double.word s 9218868437227405312 := by
      unfold cvU floatToFloatBits
      rw [if_neg (by decide), show FloatKind.f32.decode a = .infinity s from hd]
      rfl
    show nnD (double.read (cvU a)) = true
    rw [e, read_word64 s (Nat.le_refl _)]
    cases s with
    | true => cases h
    | false => rfl
  | number s m i =>
    rw [hd] at h
    obtain ⟨n, j, h1, _⟩ := up_mag hd
    show nnD (double.read (cvU a)) = true
    rw [h1]
    cases s with
    | true => cases h
    | false => rfl
theorem nn_sqrt {a : Nat} (h : nnD (double.read a) = true) : nnD (double.read (sqrtB a)) = true := by
  obtain ⟨d, h1, h2⟩ := nn_root (k := double.fractionBits + 2) h
  have e : FloatKind.f64.format.sqrt a = some (double.write d) := by
    show ((double.read a).root (double.fractionBits + 2)).map double.write = _
    rw [h1]; rfl
  unfold sqrtB
  rw [e]
  exact nn_write64 h2
theorem nn_dn {a : Nat} (h : nnD (double.read a) = true) (hs : (floatToFloatBits .f64 a .f32).isSome = true) : nn (dn a) := by
  unfold dn nn
  cases hd : double.read a with
  | nan => rw [hd] at h; cases h
  | infinity s =>
    rw [hd] at h
    have e : floatToFloatBits .f64 a .f32 = some (single.write (.infinity s)) := by
      unfold floatToFloatBits
      rw [if_neg (by decide), show FloatKind.f64.decode a = .infinity s from hd]
      rfl
    rw [e]
    exact nn_write32 h
  | number s m i =>
    rw [hd] at h
    have e : floatToFloatBits .f64 a .f32 = some (single.write (.number s m i)) := by
      unfold floatToFloatBits at hs ⊢
      rw [if_neg (by decide), show FloatKind.f64.decode a = .number s m i from hd] at hs ⊢
      dsimp only at hs ⊢
      split at hs
      · cases hs
      · rename_i k; rw [if_neg k]; rfl
    rw [e]
    exact nn_write32 h
theorem nn_not_nan {a : Nat} (h : nnD (double.read a) = true) : (FloatKind.f64.decode a).isNaN = false := by
  show (double.read a).isNaN = false
  cases hd : double.read a with
  | nan => rw [hd] at h; cases h
  | infinity => rfl
  | number => rfl
theorem nn_root32 {a : Nat} (h : nn a) : nn (dn (sqrtB (cv a))) :=
  nn_dn (nn_sqrt (nn_cv h)) (sqrt_some a (nn_not_nan (nn_sqrt (nn_cv h))))
def isN (a : Nat) : Bool := match single.read a with | .number _ _ _ => true | _ => false
theorem isN_of {a : Nat} (h : isN a = true) : ∃ s m i, single.read a = .number s m i := by
  unfold isN at h
  split at h
  · rename_i s m i e; exact ⟨s, m, i, e⟩
  · cases h
theorem d_num : allR 801 (fun r => isN (q16 r)) = true := by decide +kernel
theorem nn_size {m : M} (h : drawnM m) : nn (sizeM m) := by
  obtain ⟨a, b, ha, hb, rfl⟩ := h
  exact nn_root32 (nn_add (nn_sq (isN_of (allR_at d_num ha))) (nn_sq (isN_of (allR_at d_num hb))))
/-- what is not at most another is above it -/
theorem gtr_not_leq {a b : Nat} (ha : nn a) (hb : nn b) : fcmp .gtr .f32 a b = !fcmp .leq .f32 a b := by
  unfold nn at *
  have : ∃ o, single.order a b = some o := by
    unfold Format.order
    cases h1 : single.read a with
    | nan => rw [h1] at ha; cases ha
    | infinity s => cases h2 : single.read b with
      | nan => rw [h2] at hb; cases hb
      | infinity t => exact ⟨_, rfl⟩
      | number => exact ⟨_, rfl⟩
    | number => cases h2 : single.read b with
      | nan => rw [h2] at hb; cases hb
      | infinity t => exact ⟨_, rfl⟩
      | number => exact ⟨_, rfl⟩
  obtain ⟨o, ho⟩ := this
  show (single.order a b == some .gt) = !(single.order a b == some .lt || single.order a b == some .eq)
  rw [ho]
  cases o <;> rfl
end
end Go.Proofs.Ytanndlifpojenaa.Sh
