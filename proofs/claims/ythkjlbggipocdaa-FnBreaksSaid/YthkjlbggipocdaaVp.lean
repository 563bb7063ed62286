/- What the webs that settle of this seat compute, each shown once. No condition. -/
import Derived.Test.YthkjlbggipocdaaVo
import Derived.Test.YthkjlbggipocdaaRows
set_option linter.unusedVariables false
set_option linter.unusedSimpArgs false
set_option linter.unusedSectionVars false
namespace Go.Proofs.Ythkjlbggipocdaa.Sh
open Go Go.Proofs
open Go Ieee

/-! ## sizes of words of single precision -/
theorem bin32 : single.binade = 8388608 := by decide
theorem lp32 : single.leastPlace = -149 := by decide
theorem fb32 : (single.fractionBits : Int) = 23 := by decide
theorem cut_up (neg : Bool) {n d k : Nat} (h : n < 2 ^ (k + d)) : Toward.even.cut neg n d ≤ 2 ^ k := by
  unfold Toward.cut
  dsimp only
  have hb : ∀ b : Bool, b.toNat ≤ 1 := fun b => by cases b <;> decide
  have hlow : n / 1 <<< min d (n.log2 + 2) < 2 ^ k := by
    rw [Nat.one_shiftLeft]
    by_cases hd : d ≤ n.log2 + 2
    · rw [Nat.min_eq_left hd]
      exact Nat.div_lt_of_lt_mul (by rw [Nat.pow_add, Nat.mul_comm] at h; exact h)
    · rw [Nat.min_eq_right (by omega)]
      have : n < 2 ^ (n.log2 + 2) := Nat.lt_of_lt_of_le Nat.lt_log2_self (Nat.pow_le_pow_right (by decide) (by omega))
      rw [Nat.div_eq_of_lt this]
      exact Nat.two_pow_pos k
  exact Nat.le_trans (Nat.add_le_add_left (hb _) _) hlow
theorem cut_low (neg : Bool) {n d k : Nat} (h : 2 ^ (k + d) ≤ n) : 2 ^ k ≤ Toward.even.cut neg n d := by
  unfold Toward.cut
  dsimp only
  refine Nat.le_trans ?_ (Nat.le_add_right _ _)
  rw [Nat.one_shiftLeft, Nat.le_div_iff_mul_le (Nat.two_pow_pos _)]
  refine Nat.le_trans (Nat.mul_le_mul_left _ (Nat.pow_le_pow_right (by decide) (Nat.min_le_left d _))) ?_
  rw [← Nat.pow_add]; exact h
/-- the place of the last digit that is kept, and what is kept -/
def lastOf (m : Nat) (p : Int) : Int := max (p + m.log2 - 23) (-149)
def keptOf (s : Bool) (m : Nat) (p : Int) : Nat := Toward.even.cut s (m <<< (p - lastOf m p).toNat) (lastOf m p - p).toNat
theorem nearest_eq (s : Bool) {m : Nat} (hm : m ≠ 0) (p : Int) : single.nearest s m p = single.word s (min ((lastOf m p + 149).toNat * 8388608 + keptOf s m p) 2139095040) := by
  unfold Format.nearest
  rw [if_neg hm]
  simp only [bin32, lp32, inf32, fb32]
  rfl
theorem kept_up (s : Bool) {m : Nat} (p : Int) : keptOf s m p ≤ 16777216 := by
  unfold keptOf
  refine cut_up (k := 24) s ?_
  rw [Nat.shiftLeft_eq]
  have h1 : m < 2 ^ (m.log2 + 1) := Nat.lt_log2_self
  have h2 : m.log2 + 1 + (p - lastOf m p).toNat ≤ 24 + (lastOf m p - p).toNat := by unfold lastOf; omega
  refine Nat.lt_of_lt_of_le (Nat.mul_lt_mul_of_pos_right h1 (Nat.two_pow_pos _)) ?_
  rw [← Nat.pow_add]
  exact Nat.pow_le_pow_right (by decide) h2
theorem kept_low (s : Bool) {m : Nat} (hm : m ≠ 0) {p : Int} (h : -126 ≤ p + m.log2) : 8388608 ≤ keptOf s m p := by
  unfold keptOf
  refine cut_low (k := 23) s ?_
  rw [Nat.shiftLeft_eq]
  have h1 : 2 ^ m.log2 ≤ m := Nat.log2_self_le hm
  have h2 : 23 + (lastOf m p - p).toNat ≤ m.log2 + (p - lastOf m p).toNat := by unfold lastOf; omega
  refine Nat.le_trans (Nat.pow_le_pow_right (by decide) h2) ?_
  rw [Nat.pow_add]
  exact Nat.mul_le_mul_right _ h1
theorem word_mod (s : Bool) {r : Nat} (h : r ≤ 2139095040) : single.word s r % 2147483648 = r := by
  unfold Format.word
  rw [sgn32]
  cases s
  · simp only [Bool.false_eq_true, if_false]; exact Nat.mod_eq_of_lt (by omega)
  · simp only [if_true]; rw [Nat.add_mod_left]; exact Nat.mod_eq_of_lt (by omega)
theorem word_neg (s : Bool) {r : Nat} (h : r ≤ 2139095040) : (single.word s r / 2147483648 % 2 == 1) = s := by
  unfold Format.word
  rw [sgn32]
  cases s
  · simp only [Bool.false_eq_true, if_false]; rw [Nat.div_eq_of_lt (by omega)]; rfl
  · simp only [if_true]; rw [show (2147483648 + r) / 2147483648 = 1 by omega]; rfl
/-- what a word stands for -/
theorem read_word (s : Bool) {r : Nat} (h : r ≤ 2139095040) : single.read (single.word s r) =
    if r < 8388608 then .number s r (-149) else if r < 2139095040 then .number s (8388608 + r % 8388608) (-149 + (r / 8388608 - 1 : Nat)) else .infinity s := by
  unfold Format.read
  simp only [sgn32, bin32, lp32, inf32, word_mod s h, word_neg s h]
  split
  · rfl
  · split
    · rfl
    · rw [if_pos (by omega)]
/-- a number that is not too great stays one -/
theorem read_near (s : Bool) {m : Nat} {p : Int} (h : m = 0 ∨ p + m.log2 ≤ 120) : ∃ n j, single.read (single.nearest s m p) = .number s n j ∧ (m = 0 → n = 0) := by
  by_cases hm : m = 0
  · subst hm
    unfold Format.nearest
    rw [if_pos rfl, read_word s (by decide)]
    exact ⟨_, _, rfl, fun _ => rfl⟩
  · have hk := kept_up s (m := m) p
    have hl : lastOf m p + 149 ≤ 246 := by unfold lastOf; omega
    have hr : (lastOf m p + 149).toNat * 8388608 + keptOf s m p < 2139095040 := by omega
    rw [nearest_eq s hm, Nat.min_eq_left (Nat.le_of_lt hr), read_word s (Nat.le_of_lt hr)]
    split
    · exact ⟨_, _, rfl, fun h => absurd h hm⟩
    · exact ⟨_, _, rfl, fun h => absurd h hm⟩
/-- a number of 1 or more stays one, or is infinity -/
theorem read_great (s : Bool) {m : Nat} (hm : m ≠ 0) {p : Int} (h : 0 ≤ p + m.log2) : single.read (single.nearest s m p) = .infinity s ∨ ∃ n j, single.read (single.nearest s m p) = .number s n j ∧ n ≠ 0 ∧ 0 ≤ j + n.log2 := by
  have hk := kept_low s hm (p := p) (by omega)
  have hl : 126 ≤ lastOf m p + 149 := by unfold lastOf; omega
  rw [nearest_eq s hm]
  generalize hR : (lastOf m p + 149).toNat * 8388608 + keptOf s m p = R
  have hR1 : 1065353216 ≤ R := by omega
  rw [read_word s (Nat.min_le_right _ _)]
  rw [if_neg (by omega)]
  split
  · rename_i h1
    right
    rw [Nat.min_eq_left (by omega)] at h1 ⊢
    refine ⟨_, _, rfl, by omega, ?_⟩
    have : 23 ≤ (8388608 + R % 8388608).log2 := by
      rw [Nat.le_log2 (by omega)]
      omega
    omega
  · exact .inl rfl
/-- a number, and how great it is at most -/
theorem read_num {w : Nat} {s : Bool} {m : Nat} {i : Int} (h : single.read w = .number s m i) : m < 16777216 ∧ -149 ≤ i := by
  unfold Format.read at h
  simp only [sgn32, bin32, lp32, inf32] at h
  split at h
  · cases h; omega
  · split at h
    · cases h; omega
    · split at h <;> cases h
theorem cmp_le {a b : Int} (h : compare a b = .lt ∨ compare a b = .eq) : a ≤ b := by
  simp only [compare, compareOfLessAndEq] at h
  repeat' split at h
  all_goals simp at h
  all_goals omega
theorem cmp_ge {a b : Int} (h : compare a b = .gt ∨ compare a b = .eq) : b ≤ a := by
  simp only [compare, compareOfLessAndEq] at h
  repeat' split at h
  all_goals simp at h
  all_goals omega
/-- from 0 up to 2 to the k -/
theorem isIn_num {w c : Nat} {j : Int} (hc : single.read c = .number false 8388608 j) (h : (fcmp .geq .f32 w 0 && fcmp .leq .f32 w c) = true) :
    ∃ s m i, single.read w = .number s m i ∧ (s = true → m = 0) ∧ (m = 0 ∨ i + m.log2 ≤ j + 23) := by
  have h0 : single.read 0 = .number false 0 (-149) := by decide
  simp only [fcmp, Bool.and_eq_true, Bool.or_eq_true, beq_iff_eq] at h
  obtain ⟨g1, g2⟩ := h
  have g1 : (single.read w).order (single.read 0) = some .gt ∨ (single.read w).order (single.read 0) = some .eq := g1
  have g2 : (single.read w).order (single.read c) = some .lt ∨ (single.read w).order (single.read c) = some .eq := g2
  rw [h0] at g1
  rw [hc] at g2
  cases hw : single.read w with
  | nan s t => rw [hw] at g1; simp [Datum.order] at g1
  | infinity s => rw [hw] at g1 g2; cases s <;> simp [Datum.order] at g1 g2
  | number s m i =>
    rw [hw] at g1 g2
    simp only [Datum.order, Option.some.injEq] at g1 g2
    have k1 := cmp_ge g1
    have k2 := cmp_le g2
    refine ⟨s, m, i, rfl, fun hs => ?_, ?_⟩
    · subst hs
      simp only [signed, if_true, Bool.false_eq_true, if_false, Nat.shiftLeft_eq, Nat.zero_mul] at k1
      have : 0 < 2 ^ (i - min i (-149)).toNat := Nat.two_pow_pos _
      rcases Nat.eq_zero_or_pos m with h | h
      · exact h
      · have := Nat.mul_pos h this
        omega
    · by_cases hm : m = 0
      · exact .inl hm
      · right
        cases s with
        | true =>
          simp only [signed, if_true, Bool.false_eq_true, if_false, Nat.shiftLeft_eq, Nat.zero_mul] at k1
          have := Nat.mul_pos (Nat.pos_of_ne_zero hm) (Nat.two_pow_pos (i - min i (-149)).toNat)
          omega
        | false =>
          simp only [signed, Bool.false_eq_true, if_false, Nat.shiftLeft_eq] at k2
          have k2 : m * 2 ^ (i - min i j).toNat ≤ 8388608 * 2 ^ (j - min i j).toNat := by omega
          have hlog := Nat.log2_self_le hm
          have h3 : 2 ^ (m.log2 + (i - min i j).toNat) ≤ 2 ^ (23 + (j - min i j).toNat) := by
            rw [Nat.pow_add, Nat.pow_add]
            exact Nat.le_trans (Nat.mul_le_mul_right _ hlog) k2
          have h4 := (Nat.pow_le_pow_iff_right (a := 2) (by decide)).1 h3
          omega
theorem fop_mul_num {a b : Nat} {s t : Bool} {m n : Nat} {i j : Int} (ha : single.read a = .number s m i) (hb : single.read b = .number t n j) : fop .mul .f32 a b = single.nearest (s ^^ t) (m * n) (i + j) := by
  unfold fop
  show (Option.map single.write ((single.read a).product (single.read b))).getD _ = _
  rw [ha, hb]; rfl
theorem fop_add_num {a b : Nat} {s t : Bool} {m n : Nat} {i j : Int} (ha : single.read a = .number s m i) (hb : single.read b = .number t n j) : fop .add .f32 a b = single.write ((Datum.number s m i).sum (.number t n j) |>.getD (.infinity s)) := by
  unfold fop
  show (Option.map single.write ((single.read a).sum (single.read b))).getD _ = _
  rw [ha, hb]; rfl
/-- a film that dries stays a number -/
theorem dry_num {w r t d : Nat} {sw sr st : Bool} {mw mr mt : Nat} {iw ir it : Int} (hw : single.read w = .number sw mw iw) (bw : mw = 0 ∨ iw + mw.log2 ≤ 40)
    (hr : single.read r = .number sr mr ir) (nr : sr = true → mr = 0) (br : mr = 0 ∨ ir + mr.log2 ≤ 40) (ht : single.read t = .number st mt it) (nt : st = true → mt = 0) (bt : mt = 0 ∨ it + mt.log2 ≤ 40)
    (hd : d = fop .quo .f32 w (fop .add .f32 1065353216 (fop .mul .f32 r t))) : ∃ s m i, single.read d = .number s m i := by
  have hb : mr * mt = 0 ∨ ir + it + (mr * mt).log2 ≤ 120 := by
    by_cases h0 : mr * mt = 0
    · exact .inl h0
    · right
      have h1 : mr ≠ 0 := fun e => h0 (by rw [e, Nat.zero_mul])
      have h2 : mt ≠ 0 := fun e => h0 (by rw [e, Nat.mul_zero])
      have l1 : mr < 2 ^ (mr.log2 + 1) := Nat.lt_log2_self
      have l2 : mt < 2 ^ (mt.log2 + 1) := Nat.lt_log2_self
      have l3 : mr * mt < 2 ^ (mr.log2 + 1 + (mt.log2 + 1)) := by
        rw [Nat.pow_add]
        exact Nat.mul_lt_mul'' l1 l2
      have := (Nat.log2_lt h0).2 l3
      omega
  obtain ⟨p, k, hx, hp⟩ := read_near (sr ^^ st) hb
  rw [← fop_mul_num hr ht] at hx
  have h1 : single.read 1065353216 = .number false 8388608 (-23) := by decide
  have hp0 : (sr ^^ st) = true → p = 0 := fun h => hp (by
    cases sr with
    | true => rw [nr rfl, Nat.zero_mul]
    | false =>
      cases st with
      | true => rw [nt rfl, Nat.mul_zero]
      | false => cases h)
  have hsum : ∃ m : Nat, m ≠ 0 ∧ 0 ≤ min (-23) k + (m.log2 : Int) ∧ fop .add .f32 1065353216 (fop .mul .f32 r t) = single.nearest false m (min (-23) k) := by
    rw [fop_add_num h1 hx]
    have hs : 0 ≤ signed (sr ^^ st) p (k - min (-23) k).toNat := by
      unfold signed
      split
      · rename_i h; rw [hp0 h]; simp
      · exact Int.natCast_nonneg _
    have h2 : (2 ^ (-min (-23) k).toNat : Nat) ≤ 8388608 <<< (-23 - min (-23) k).toNat := by
      rw [Nat.shiftLeft_eq, show (8388608 : Nat) = 2 ^ 23 from rfl, ← Nat.pow_add]
      exact Nat.pow_le_pow_right (by decide) (by omega)
    have hpos : 0 < 2 ^ (-min (-23) k).toNat := Nat.two_pow_pos _
    have ht : signed false 8388608 (-23 - min (-23) k).toNat = ((8388608 <<< (-23 - min (-23) k).toNat : Nat) : Int) := rfl
    refine ⟨(signed false 8388608 (-23 - min (-23) k).toNat + signed (sr ^^ st) p (k - min (-23) k).toNat).natAbs, by omega, ?_, ?_⟩
    · have : (-min (-23) k).toNat ≤ (signed false 8388608 (-23 - min (-23) k).toNat + signed (sr ^^ st) p (k - min (-23) k).toNat).natAbs.log2 := by
        rw [Nat.le_log2 (by omega)]
        omega
      omega
    · simp only [Datum.sum, Option.getD_some, Format.write]
      rw [if_neg (by omega)]
      congr 1
      exact decide_eq_false (by omega)
  obtain ⟨n, hn, hl, hq⟩ := hsum
  rw [hq] at hd
  subst hd
  have hquo : ∀ x : Datum, ∀ y, single.read y = x → fop .quo .f32 w y = (((Datum.number sw mw iw).quotient 25 x).map single.write).getD (qn .f32) := fun x y e => by
    unfold fop
    show (Option.map single.write ((single.read w).quotient 25 (single.read y))).getD _ = _
    rw [hw, e]
  rcases read_great false hn hl with h | ⟨n', j, h, hn', hl'⟩
  · rw [hquo _ _ h]
    simp only [Datum.quotient, Option.map_some, Option.getD_some, Format.write]
    obtain ⟨a, b, e, _⟩ := read_near (sw ^^ false) (m := 0) (p := 0) (.inl rfl)
    exact ⟨_, _, _, e⟩
  · rw [hquo _ _ h]
    simp only [Datum.quotient, if_neg hn', Option.map_some, Option.getD_some, Format.write]
    have hwm := (read_num hw).1
    obtain ⟨a, b, e, _⟩ := read_near (sw ^^ false) (m := 2 * (mw <<< (25 + n'.log2 - mw.log2) / n') + (mw <<< (25 + n'.log2 - mw.log2) % n' != 0).toNat) (p := iw - j - (25 + n'.log2 - mw.log2 : Nat) - 1) (by
      by_cases h0 : mw = 0
      · left; subst h0; simp
      · right
        have hm23 : mw.log2 ≤ 23 := by
          have := (Nat.log2_lt h0).2 (show mw < 2 ^ 24 from hwm)
          omega
        have hD : mw <<< (25 + n'.log2 - mw.log2) / n' < 67108864 := by
          refine Nat.div_lt_of_lt_mul ?_
          rw [Nat.shiftLeft_eq]
          have l1 : mw < 2 ^ (mw.log2 + 1) := Nat.lt_log2_self
          have l2 : 2 ^ n'.log2 ≤ n' := Nat.log2_self_le hn'
          refine Nat.lt_of_lt_of_le (Nat.mul_lt_mul_of_pos_right l1 (Nat.two_pow_pos _)) ?_
          rw [← Nat.pow_add, show mw.log2 + 1 + (25 + n'.log2 - mw.log2) = n'.log2 + 26 by omega, Nat.pow_add]
          exact Nat.mul_le_mul_right _ l2
        have hb1 : (mw <<< (25 + n'.log2 - mw.log2) % n' != 0).toNat ≤ 1 := by cases (mw <<< (25 + n'.log2 - mw.log2) % n' != 0) <;> decide
        have hQ : (2 * (mw <<< (25 + n'.log2 - mw.log2) / n') + (mw <<< (25 + n'.log2 - mw.log2) % n' != 0).toNat).log2 ≤ 26 := by
          by_cases hz : 2 * (mw <<< (25 + n'.log2 - mw.log2) / n') + (mw <<< (25 + n'.log2 - mw.log2) % n' != 0).toNat = 0
          · rw [hz]; decide
          · have := (Nat.log2_lt hz).2 (show _ < 2 ^ 27 by omega)
            omega
        omega)
    exact ⟨_, _, _, e⟩
/-- a part of what dries is no NaN -/
theorem back_num {w r t p : Nat} (hw : (fcmp .geq .f32 w 0 && fcmp .leq .f32 w 1149239296) = true) (hr : (fcmp .geq .f32 r 0 && fcmp .leq .f32 r 1233125376) = true) (ht : (fcmp .geq .f32 t 0 && fcmp .leq .f32 t 1233125376) = true) (hp : (fcmp .geq .f32 p 0 && fcmp .leq .f32 p 1065353216) = true) :
    (single.read (fop .mul .f32 (fop .quo .f32 w (fop .add .f32 1065353216 (fop .mul .f32 r t))) p)).isNaN = false := by
  obtain ⟨s1, m1, i1, a1, b1, c1⟩ := isIn_num (j := -13) (by decide) hw
  obtain ⟨s2, m2, i2, a2, b2, c2⟩ := isIn_num (j := -3) (by decide) hr
  obtain ⟨s3, m3, i3, a3, b3, c3⟩ := isIn_num (j := -3) (by decide) ht
  obtain ⟨s4, m4, i4, a4, b4, c4⟩ := isIn_num (j := -23) (by decide) hp
  obtain ⟨s, m, i, h⟩ := dry_num a1 (by omega) a2 b2 (by omega) a3 b3 (by omega) rfl
  rw [fop_mul_num h a4]
  exact nan_nearest .f32 _ _ _
/-- two words that are no NaNs stand to each other -/
theorem gtr_leq {a b : Nat} (ha : (single.read a).isNaN = false) (hb : (single.read b).isNaN = false) : fcmp .gtr .f32 a b = !fcmp .leq .f32 a b := by
  simp only [fcmp]
  show ((single.read a).order (single.read b) == some .gt) = !((single.read a).order (single.read b) == some .lt || (single.read a).order (single.read b) == some .eq)
  have : ∃ o, (single.read a).order (single.read b) = some o := by
    cases hx : single.read a <;> cases hy : single.read b <;> rw [hx] at ha <;> rw [hy] at hb <;> simp [Datum.isNaN] at ha hb <;> exact ⟨_, rfl⟩
  obtain ⟨o, e⟩ := this
  rw [e]
  cases o <;> rfl
open Go Ieee

/-! ## a wider word and back -/
theorem bin64 : double.binade = 4503599627370496 := by decide
theorem lp64 : double.leastPlace = -1074 := by decide
theorem fb64 : (double.fractionBits : Int) = 52 := by decide
theorem cut_exact (neg : Bool) {m k : Nat} (hm : m ≠ 0) : Toward.even.cut neg (m <<< k) k = m := by
  unfold Toward.cut
  dsimp only
  have hl : k ≤ (m <<< k).log2 + 2 := by
    have : k ≤ (m <<< k).log2 := by
      rw [Nat.le_log2 (by rw [Nat.shiftLeft_eq]; exact Nat.mul_ne_zero hm (Nat.ne_of_gt (Nat.two_pow_pos k)))]
      rw [Nat.shiftLeft_eq]
      exact Nat.le_mul_of_pos_left _ (Nat.pos_of_ne_zero hm)
    omega
  rw [Nat.min_eq_left hl, Nat.one_shiftLeft, Nat.shiftLeft_eq, Nat.mul_div_cancel _ (Nat.two_pow_pos k), Nat.mul_mod_left]
  have := Nat.two_pow_pos k
  have h1 : decide (2 ^ k < 2 * 0) = false := decide_eq_false (by omega)
  have h2 : ((2 ^ k == 2 * 0) = false) := by rw [beq_eq_false_iff_ne]; omega
  rw [h1, h2]
  rfl
theorem read_canon {w : Nat} {s : Bool} {m : Nat} {i : Int} (h : single.read w = .number s m i) :
    (m < 8388608 ∧ i = -149 ∨ 8388608 ≤ m ∧ m < 16777216 ∧ -149 ≤ i ∧ i ≤ 104) ∧ w % 2147483648 = (i + 149).toNat * 8388608 + m ∧ s = (w / 2147483648 % 2 == 1) := by
  unfold Format.read at h
  simp only [sgn32, bin32, lp32, inf32] at h
  split at h
  · cases h; exact ⟨.inl ⟨by omega, rfl⟩, by simp, rfl⟩
  · split at h
    · cases h; refine ⟨.inr ⟨by omega, by omega, by omega, by omega⟩, by omega, rfl⟩
    · split at h <;> cases h
theorem read_infw {w : Nat} {s : Bool} (h : single.read w = .infinity s) : w % 2147483648 = 2139095040 ∧ s = (w / 2147483648 % 2 == 1) := by
  unfold Format.read at h
  simp only [sgn32, bin32, lp32, inf32] at h
  split at h
  · cases h
  · split at h
    · cases h
    · split at h
      · cases h; exact ⟨by assumption, rfl⟩
      · cases h
theorem shl52 {m : Nat} (hm : m ≠ 0) (hl : m.log2 ≤ 52) : 4503599627370496 ≤ m <<< (52 - m.log2) ∧ m <<< (52 - m.log2) < 9007199254740992 := by
  rw [Nat.shiftLeft_eq]
  have h1 := Nat.log2_self_le hm
  have h2 : m < 2 ^ (m.log2 + 1) := Nat.lt_log2_self
  constructor
  · have e : 2 ^ m.log2 * 2 ^ (52 - m.log2) = 4503599627370496 := by rw [← Nat.pow_add, show m.log2 + (52 - m.log2) = 52 by omega]
    rw [← e]
    exact Nat.mul_le_mul_right _ h1
  · have e : 2 ^ (m.log2 + 1) * 2 ^ (52 - m.log2) = 9007199254740992 := by rw [← Nat.pow_add, show m.log2 + 1 + (52 - m.log2) = 53 by omega]
    rw [← e]
    exact Nat.mul_lt_mul_of_pos_right h2 (Nat.two_pow_pos _)
theorem near64 (s : Bool) {m : Nat} {p : Int} (hm : m ≠ 0) (hl : m.log2 ≤ 52) (h1 : -1022 ≤ p + m.log2) (h2 : p + m.log2 ≤ 900) :
    double.nearest s m p = double.word s ((p + m.log2 + 1022).toNat * 4503599627370496 + m <<< (52 - m.log2)) := by
  obtain ⟨_, hb⟩ := shl52 hm hl
  unfold Format.nearest
  rw [if_neg hm]
  simp only [bin64, lp64, inf64, fb64]
  have e : max (p + m.log2 - 52) (-1074) = p + m.log2 - 52 := by omega
  rw [e, show (p + m.log2 - 52 - p).toNat = 0 by omega, cut_zero, show (p - (p + m.log2 - 52)).toNat = 52 - m.log2 by omega, show (p + m.log2 - 52 - -1074).toNat = (p + m.log2 + 1022).toNat by omega,
    Nat.min_eq_left (by omega)]
theorem word_mod64 (s : Bool) {r : Nat} (h : r ≤ 9218868437227405312) : double.word s r % 9223372036854775808 = r := by
  unfold Format.word
  rw [sgn64]
  cases s
  · simp only [Bool.false_eq_true, if_false]; exact Nat.mod_eq_of_lt (by omega)
  · simp only [if_true]; rw [Nat.add_mod_left]; exact Nat.mod_eq_of_lt (by omega)
theorem word_neg64 (s : Bool) {r : Nat} (h : r ≤ 9218868437227405312) : (double.word s r / 9223372036854775808 % 2 == 1) = s := by
  unfold Format.word
  rw [sgn64]
  cases s
  · simp only [Bool.false_eq_true, if_false]; rw [Nat.div_eq_of_lt (by omega)]; rfl
  · simp only [if_true]; rw [show (9223372036854775808 + r) / 9223372036854775808 = 1 by omega]; rfl
theorem read_word64 (s : Bool) {r : Nat} (h : r ≤ 9218868437227405312) : double.read (double.word s r) =
    if r < 4503599627370496 then .number s r (-1074) else if r < 9218868437227405312 then .number s (4503599627370496 + r % 4503599627370496) (-1074 + (r / 4503599627370496 - 1 : Nat)) else .infinity s := by
  unfold Format.read
  simp only [sgn64, bin64, lp64, inf64, word_mod64 s h, word_neg64 s h]
  split
  · rfl
  · split
    · rfl
    · rw [if_pos (by omega)]
/-- a word of single precision among those of double precision: its rung there, and back -/
theorem up_num {a : Nat} {s : Bool} {m : Nat} {i : Int} (h : single.read a = .number s m i) :
    ∃ r, r < 9218868437227405312 ∧ floatToFloatBits .f32 a .f64 = some (double.word s r) ∧ (∃ n j, ∀ t, double.read (double.word t r) = .number t n j) ∧ floatToFloatBits .f64 r .f32 = some (a % 2147483648) := by
  obtain ⟨hc, hw, _⟩ := read_canon h
  have up : ∀ {r : Nat} {n : Nat} {j : Int}, r < 9218868437227405312 → double.nearest s m i = double.word s r → (∀ t, double.read (double.word t r) = .number t n j) → floatToFloatBits .f32 a .f64 = some (double.word s r) := by
    intro r n j hr he hd
    unfold floatToFloatBits
    rw [if_neg (by decide)]
    have e1 : FloatKind.f32.decode a = .number s m i := h
    have e2 : FloatKind.f64.encode (.number s m i) = double.word s r := he
    have e3 : FloatKind.f64.decode (double.word s r) = .number s n j := hd s
    rw [e1]
    dsimp only
    rw [e2, e3]
    rfl
  have down : ∀ {r : Nat} {n : Nat} {j : Int} {q : Nat}, q < 2139095040 → (∀ t, double.read (double.word t r) = .number t n j) → single.nearest false n j = single.word false q → floatToFloatBits .f64 r .f32 = some q := by
    intro r n j q hq hd he
    unfold floatToFloatBits
    rw [if_neg (by decide)]
    have e1 : FloatKind.f64.decode r = .number false n j := hd false
    have e2 : FloatKind.f32.encode (.number false n j) = q := he
    have e3 : (FloatKind.f32.decode q).isInfinity = false := by
      have : single.read (single.word false q) = _ := read_word false (Nat.le_of_lt hq)
      show (single.read q).isInfinity = false
      rw [show single.word false q = q from rfl] at this
      rw [this]
      split
      · rfl
      · rfl
    rw [e1]
    dsimp only
    rw [e2, e3]
    rfl
  by_cases hm : m = 0
  · subst hm
    have hi : i = -149 := by omega
    subst hi
    have hd : ∀ t, double.read (double.word t 0) = .number t 0 (-1074) := fun t => by rw [read_word64 t (by omega)]; rfl
    refine ⟨0, by omega, up (by omega) (by unfold Format.nearest; rw [if_pos rfl]) hd, ⟨_, _, hd⟩, ?_⟩
    rw [hw]
    exact down (by omega) hd (by unfold Format.nearest; rw [if_pos rfl]; rfl)
  · have hL : m.log2 ≤ 23 := by
      have : m.log2 < 24 := (Nat.log2_lt hm).2 (by omega)
      omega
    have hlast : max (i + m.log2 - 23) (-149) = i := by
      rcases hc with ⟨h1, h2⟩ | ⟨h1, h2, h3, h4⟩
      · have : m.log2 < 23 := (Nat.log2_lt hm).2 (by omega)
        omega
      · have : 23 ≤ m.log2 := (Nat.le_log2 hm).2 (by omega)
        omega
    have hi1 : -149 ≤ i ∧ i ≤ 104 := by omega
    obtain ⟨k1, k2⟩ := shl52 hm (by omega)
    generalize hR : (i + m.log2 + 1022).toNat * 4503599627370496 + m <<< (52 - m.log2) = r
    have hr : r < 9218868437227405312 := by omega
    have hn := near64 s hm (p := i) (by omega) (by omega) (by omega)
    rw [hR] at hn
    have hd : ∀ t, double.read (double.word t r) = .number t (m <<< (52 - m.log2)) (i + m.log2 - 52) := by
      intro t
      rw [read_word64 t (by omega), if_neg (by omega), if_pos hr]
      congr 1 <;> omega
    refine ⟨r, hr, up hr hn hd, ⟨_, _, hd⟩, ?_⟩
    rw [hw]
    refine down (by omega) hd ?_
    have hM : m <<< (52 - m.log2) ≠ 0 := by omega
    have hML : (m <<< (52 - m.log2)).log2 = 52 := by
      have h1 : (m <<< (52 - m.log2)).log2 < 53 := (Nat.log2_lt hM).2 (by omega)
      have h2 : 52 ≤ (m <<< (52 - m.log2)).log2 := (Nat.le_log2 hM).2 (by omega)
      omega
    have hLo : lastOf (m <<< (52 - m.log2)) (i + m.log2 - 52) = i := by
      unfold lastOf
      rw [hML]
      omega
    rw [nearest_eq false hM]
    unfold keptOf
    rw [hLo, show (i + m.log2 - 52 - i).toNat = 0 by omega, Nat.shiftLeft_zero, show (i - (i + m.log2 - 52)).toNat = 52 - m.log2 by omega, cut_exact _ hm, Nat.min_eq_left (by omega)]
/-- a double's word without its sign -/
def absB (x : Nat) : Nat := (bits .andNot .u64 (x : Int) 9223372036854775808).toNat
theorem absB_eq (x : Nat) : absB x = x % 9223372036854775808 := by
  have e1 : BitVec.ofInt 64 (x : Int) = BitVec.ofNat 64 x := BitVec.ofInt_natCast 64 x
  have e2 : ~~~ BitVec.ofInt 64 9223372036854775808 = 9223372036854775807#64 := by decide
  have e3 : (BitVec.ofInt 64 (x : Int) &&& ~~~ BitVec.ofInt 64 9223372036854775808).toNat = x % 9223372036854775808 := by
    rw [e1, e2, BitVec.toNat_and, BitVec.toNat_ofNat]
    have := Nat.and_two_pow_sub_one_eq_mod (x % 2 ^ 64) 63
    rw [show (9223372036854775807#64).toNat = 2 ^ 63 - 1 from rfl, this]
    omega
  show (IntKind.wrap .u64 ((BitVec.ofInt 64 (x : Int) &&& ~~~ BitVec.ofInt 64 9223372036854775808).toNat : Int)).toNat = _
  rw [e3]
  have h1 : x % 9223372036854775808 < 9223372036854775808 := Nat.mod_lt _ (by decide)
  generalize x % 9223372036854775808 = y at *
  simp [IntKind.wrap, IntKind.signed, IntKind.bits]
  omega
theorem absB_nan {x : Nat} (h : (double.read x).isNaN = true) : (double.read (absB x)).isNaN = true := by
  have h1 := nan_read .f64 x
  have h2 := nan_read .f64 (absB x)
  rw [show FloatKind.f64.format = double from rfl, sgn64, inf64] at h1 h2
  rw [h1] at h
  rw [h2, absB_eq]
  rw [decide_eq_true_eq] at h ⊢
  omega
def cvU (a : Nat) : Nat := (floatToFloatBits .f32 a .f64).getD (qn .f64)
/-- the size, there and back -/
def sizeI (a : Nat) : Nat := (floatToFloatBits .f64 (absB (cvU a)) .f32).getD (qn .f32)
/-- the size, by a test -/
def sizeF (a : Nat) : Nat := if fcmp .lss .f32 a 0 = true then fneg .f32 a else a
theorem size_some (a : Nat) : (FloatKind.f64.decode (absB (cvU a))).isNaN = false → (floatToFloatBits .f64 (absB (cvU a)) .f32).isSome = true := by
  intro hn
  unfold cvU at *
  cases hd : single.read a with
  | number s m i =>
    obtain ⟨r, hr, h1, _, h2⟩ := up_num hd
    rw [h1, Option.getD_some, absB_eq, word_mod64 s (Nat.le_of_lt hr), h2]
    rfl
  | infinity s =>
    have e1 : floatToFloatBits .f32 a .f64 = some (double.word s 9218868437227405312) := by
      unfold floatToFloatBits
      rw [if_neg (by decide), show FloatKind.f32.decode a = .infinity s from hd]
      rfl
    rw [e1, Option.getD_some, absB_eq, word_mod64 s (Nat.le_refl _)]
    rfl
  | nan s t =>
    have e1 : floatToFloatBits .f32 a .f64 = none := by
      unfold floatToFloatBits
      rw [if_neg (by decide), show FloatKind.f32.decode a = .nan s t from hd]
    rw [e1, Option.getD_none] at hn
    rw [show (FloatKind.f64.decode (absB (qn .f64))).isNaN = true from absB_nan (nan_qn .f64)] at hn
    cases hn
theorem sizeI_eq (a : Nat) : sizeI a = if (single.read a).isNaN then qn .f32 else a % 2147483648 := by
  unfold sizeI cvU
  cases hd : single.read a with
  | number s m i =>
    obtain ⟨r, hr, h1, _, h2⟩ := up_num hd
    rw [h1, Option.getD_some, absB_eq, word_mod64 s (Nat.le_of_lt hr), h2]
    rfl
  | infinity s =>
    have e1 : floatToFloatBits .f32 a .f64 = some (double.word s 9218868437227405312) := by
      unfold floatToFloatBits
      rw [if_neg (by decide), show FloatKind.f32.decode a = .infinity s from hd]
      rfl
    rw [e1, Option.getD_some, absB_eq, word_mod64 s (Nat.le_refl _), (read_infw hd).1]
    rfl
  | nan s t =>
    have e1 : floatToFloatBits .f32 a .f64 = none := by
      unfold floatToFloatBits
      rw [if_neg (by decide), show FloatKind.f32.decode a = .nan s t from hd]
    have e2 : floatToFloatBits .f64 (absB (qn .f64)) .f32 = none := by
      obtain ⟨u, v, e⟩ := isNaN_iff (absB_nan (nan_qn .f64))
      unfold floatToFloatBits
      rw [if_neg (by decide), show FloatKind.f64.decode (absB (qn .f64)) = .nan u v from e]
    rw [e1, Option.getD_none, e2]
    rfl
theorem read_mod (a : Nat) : single.read (a % 2147483648) = match single.read a with
    | .number _ m i => .number false m i
    | .infinity _ => .infinity false
    | .nan _ t => .nan false t := by
  unfold Format.read
  simp only [sgn32, bin32, lp32, inf32, Nat.mod_mod]
  have : a % 2147483648 / 2147483648 % 2 = 0 := by omega
  rw [this]
  split
  · rfl
  · split
    · rfl
    · split <;> rfl
theorem read_neg (a : Nat) : single.read (Op.negFloat .f32 a) = (single.read a).opposite := by
  have e : Op.negFloat .f32 a = a ^^^ 2 ^ 31 := rfl
  have h1 : (a ^^^ 2 ^ 31) % 2147483648 = a % 2147483648 := by
    have := @Nat.xor_mod_two_pow a (2 ^ 31) 31
    rw [Nat.mod_self, Nat.xor_zero] at this
    exact this
  have h2 : (a ^^^ 2 ^ 31) / 2147483648 = (a / 2147483648) ^^^ 1 := by
    have := @Nat.xor_div_two_pow a (2 ^ 31) 31
    rw [Nat.div_self (by decide)] at this
    exact this
  have h3 : ((a / 2147483648) ^^^ 1) % 2 = 1 - a / 2147483648 % 2 := by
    have := @Nat.xor_mod_two_pow (a / 2147483648) 1 1
    rw [Nat.pow_one] at this
    rw [this]
    rcases Nat.mod_two_eq_zero_or_one (a / 2147483648) with h | h <;> rw [h] <;> rfl
  rw [e]
  unfold Format.read
  simp only [sgn32, bin32, lp32, inf32, h1, h2, h3]
  have h4 : (1 - a / 2147483648 % 2 == 1) = !(a / 2147483648 % 2 == 1) := by
    rcases Nat.mod_two_eq_zero_or_one (a / 2147483648) with h | h <;> rw [h] <;> rfl
  rw [h4]
  split
  · rfl
  · split
    · rfl
    · split <;> rfl
theorem fcmp_read {op : BinOp} {a b w : Nat} (h : single.read a = single.read b) : fcmp op .f32 a w = fcmp op .f32 b w := by
  unfold fcmp
  show (match op with | _ => _) = _
  simp only [Format.order, FloatKind.format, h]
theorem cmp_lt {a b : Int} (h : compare a b = .lt) : a < b := by
  simp only [compare, compareOfLessAndEq] at h
  split at h
  · assumption
  · split at h <;> cases h
theorem signed_zero (s t : Bool) (k : Nat) : signed s 0 k = signed t 0 k := by cases s <;> cases t <;> simp [signed]
theorem size_leq (a w : Nat) : fcmp .leq .f32 (sizeI a) w = fcmp .leq .f32 (sizeF a) w := by
  have r0 : single.read 0 = .number false 0 (-149) := by decide
  rw [sizeI_eq]
  unfold sizeF
  have lss : fcmp .lss .f32 a 0 = ((single.read a).order (.number false 0 (-149)) == some .lt) := by
    unfold fcmp
    simp only [Format.order, FloatKind.format, r0]
  rw [lss]
  have hm := read_mod a
  cases hd : single.read a with
  | nan s t =>
    have hn : (single.read a).isNaN = true := by rw [hd]; rfl
    show fcmp .leq .f32 (qn .f32) w = fcmp .leq .f32 a w
    unfold fcmp
    have e1 : FloatKind.f32.format.order (qn .f32) w = none := order_nanL (k := .f32) (nan_qn .f32)
    have e2 : FloatKind.f32.format.order a w = none := order_nanL (k := .f32) hn
    rw [e1, e2]
  | infinity s =>
    rw [hd] at hm
    have hn : (FloatKind.f32.format.read a).isNaN = false := by show (single.read a).isNaN = false; rw [hd]; rfl
    cases s with
    | false =>
      show fcmp .leq .f32 (a % 2147483648) w = fcmp .leq .f32 a w
      exact fcmp_read (by rw [hm]; exact hd.symm)
    | true =>
      show fcmp .leq .f32 (a % 2147483648) w = fcmp .leq .f32 (fneg .f32 a) w
      refine fcmp_read ?_
      unfold fneg
      rw [hn]
      show _ = single.read (Op.negFloat .f32 a)
      rw [hm, read_neg, hd]
      rfl
  | number s m i =>
    rw [hd] at hm
    have hn : (FloatKind.f32.format.read a).isNaN = false := by show (single.read a).isNaN = false; rw [hd]; rfl
    show fcmp .leq .f32 (a % 2147483648) w = _
    split
    · rename_i hl
      refine fcmp_read ?_
      unfold fneg
      rw [hn]
      show _ = single.read (Op.negFloat .f32 a)
      rw [hm, read_neg, hd]
      cases s with
      | true => rfl
      | false =>
        exfalso
        simp only [Datum.order, signed, beq_iff_eq, Option.some.injEq, Bool.false_eq_true, if_false, Nat.zero_shiftLeft] at hl
        have h1 := cmp_lt hl
        have h2 := Int.natCast_nonneg (m <<< (i - min i (-149)).toNat)
        omega
    · rename_i hl
      cases s with
      | false => exact fcmp_read (by rw [hm]; exact hd.symm)
      | true =>
        have hm0 : m = 0 := by
          rcases Nat.eq_zero_or_pos m with h | h
          · exact h
          · exfalso
            apply hl
            simp only [Datum.order, signed, beq_iff_eq, Option.some.injEq, Bool.false_eq_true, if_false, if_true, Nat.zero_shiftLeft]
            have h1 : 0 < m <<< (i - min i (-149)).toNat := by rw [Nat.shiftLeft_eq]; exact Nat.mul_pos h (Nat.two_pow_pos _)
            generalize m <<< (i - min i (-149)).toNat = q at h1
            simp only [compare, compareOfLessAndEq]
            rw [if_pos (by omega)]
        subst hm0
        unfold fcmp
        simp only [Format.order, FloatKind.format, hm, hd]
        cases single.read w with
        | nan _ _ => rfl
        | infinity _ => rfl
        | number t n j => simp only [Datum.order, signed_zero true false]

/-! ## the same number -/
theorem num_le {m n : Nat} {x y : Int} (hm : m < 16777216) (hn : n < 8388608 ∧ y = -149 ∨ 8388608 ≤ n) (hx : -149 ≤ x) (hxy : x ≤ y) (h : m = n <<< (y - x).toNat) : m = n ∧ x = y := by
  rw [Nat.shiftLeft_eq] at h
  by_cases e : x = y
  · subst e
    rw [Int.sub_self] at h
    simp at h
    exact ⟨h, rfl⟩
  · exfalso
    have hn : 8388608 ≤ n := by omega
    have h1 : 2 ^ 1 ≤ 2 ^ (y - x).toNat := Nat.pow_le_pow_right (by decide) (by omega)
    have h2 : 8388608 * 2 ≤ n * 2 ^ (y - x).toNat := Nat.mul_le_mul hn (by simpa using h1)
    omega
theorem num_inj {a b : Nat} {s : Bool} {m n : Nat} {i j : Int} (ha : single.read a = .number s m i) (hb : single.read b = .number s n j)
    (h : signed s m (i - min i j).toNat = signed s n (j - min i j).toNat) : a % 2147483648 = b % 2147483648 := by
  obtain ⟨ca, wa, _⟩ := read_canon ha
  obtain ⟨cb, wb, _⟩ := read_canon hb
  have h' : m <<< (i - min i j).toNat = n <<< (j - min i j).toNat := by
    unfold signed at h
    cases s
    · simp only [Bool.false_eq_true, if_false] at h; exact Int.ofNat.inj h
    · simp only [if_true] at h; exact Int.ofNat.inj (Int.neg_inj.1 h)
  rw [wa, wb]
  rcases Int.le_total i j with hij | hij
  · rw [show min i j = i by omega, Int.sub_self] at h'
    obtain ⟨e1, e2⟩ := num_le (m := m) (n := n) (by omega) (by omega) (by omega) hij (by simpa using h')
    rw [e1, e2]
  · rw [show min i j = j by omega, Int.sub_self] at h'
    obtain ⟨e1, e2⟩ := num_le (m := n) (n := m) (by omega) (by omega) (by omega) hij (by simpa using h'.symm)
    rw [e1, e2]
def isNan (a : Nat) : Bool := fcmp .neq .f32 a a
theorem order_self {d : Datum} (h : d.isNaN = false) : d.order d = some .eq := by
  cases d with
  | nan => simp [Datum.isNaN] at h
  | infinity s => simp [Datum.order]
  | number s m e => simp [Datum.order]
theorem isNan_eq (a : Nat) : isNan a = (single.read a).isNaN := by
  unfold isNan fcmp
  show ((single.read a).order (single.read a) != some .eq) = _
  cases h : (single.read a).isNaN with
  | true =>
    obtain ⟨u, v, e⟩ := isNaN_iff h
    rw [e]; rfl
  | false => rw [order_self h]; rfl
/-- the sign of a double -/
def sgnD (x : Nat) : Bool := x / 9223372036854775808 % 2 == 1
/-- the sign, by way of a double -/
theorem sgn_up {a : Nat} (h : isNan a = false) : sgnD (cvU a) = (a / 2147483648 % 2 == 1) := by
  rw [isNan_eq] at h
  unfold cvU sgnD
  cases hd : single.read a with
  | number s m i =>
    obtain ⟨r, hr, h1, _, h2⟩ := up_num hd
    rw [h1, Option.getD_some, word_neg64 s (Nat.le_of_lt hr)]
    exact (read_canon hd).2.2
  | infinity s =>
    have e1 : floatToFloatBits .f32 a .f64 = some (double.word s 9218868437227405312) := by
      unfold floatToFloatBits
      rw [if_neg (by decide), show FloatKind.f32.decode a = .infinity s from hd]
      rfl
    rw [e1, Option.getD_some, word_neg64 s (Nat.le_refl _)]
    exact (read_infw hd).2
  | nan s t => rw [hd] at h; simp [Datum.isNaN] at h
theorem nan_up {a : Nat} (h : isNan a = false) : (double.read (cvU a)).isNaN = false := by
  rw [isNan_eq] at h
  unfold cvU
  cases hd : single.read a with
  | number s m i =>
    obtain ⟨r, hr, h1, ⟨n, j, hn⟩, h2⟩ := up_num hd
    rw [h1, Option.getD_some, hn]
    rfl
  | infinity s =>
    have e1 : floatToFloatBits .f32 a .f64 = some (double.word s 9218868437227405312) := by
      unfold floatToFloatBits
      rw [if_neg (by decide), show FloatKind.f32.decode a = .infinity s from hd]
      rfl
    rw [e1, Option.getD_some, read_word64 s (Nat.le_refl _)]
    rfl
  | nan s t => rw [hd] at h; simp [Datum.isNaN] at h
/-- equal, and of one sign -/
def eqS (a b : Nat) : Bool := if isNan a || isNan b then isNan a && isNan b else fcmp .eql .f32 a b && (sgnD (cvU a) == sgnD (cvU b))
/-- the same word, or both none -/
def eqW (a b : Nat) : Bool := if isNan a || isNan b then isNan a && isNan b else decide (a = b)
theorem same_eq {a b : Nat} (ha : a < 4294967296) (hb : b < 4294967296) : eqS a b = eqW a b := by
  unfold eqS eqW
  by_cases hn : (isNan a || isNan b) = true
  · rw [if_pos hn, if_pos hn]
  · rw [if_neg hn, if_neg hn]
    simp only [Bool.or_eq_true, not_or, Bool.not_eq_true] at hn
    rw [sgn_up hn.1, sgn_up hn.2]
    have na := hn.1
    have nb := hn.2
    rw [isNan_eq] at na nb
    by_cases e : a = b
    · subst e
      have : fcmp .eql .f32 a a = true := by
        unfold fcmp
        show ((single.read a).order (single.read a) == some .eq) = _
        rw [order_self na]; rfl
      simp [this]
    · rw [decide_eq_false e]
      rw [Bool.and_eq_false_iff]
      by_cases hs : (a / 2147483648 % 2 == 1) = (b / 2147483648 % 2 == 1)
      · left
        have hs' : a / 2147483648 % 2 = b / 2147483648 % 2 := by
          rcases Nat.mod_two_eq_zero_or_one (a / 2147483648) with h | h <;> rcases Nat.mod_two_eq_zero_or_one (b / 2147483648) with k | k <;> rw [h, k] at hs ⊢ <;> simp at hs
        have key : a % 2147483648 ≠ b % 2147483648 := fun h => e (by omega)
        unfold fcmp
        show ((single.read a).order (single.read b) == some .eq) = false
        rw [beq_eq_false_iff_ne]
        intro ho
        apply key
        cases hda : single.read a with
        | nan s t => rw [hda] at na; simp [Datum.isNaN] at na
        | infinity s =>
          cases hdb : single.read b with
          | nan s t => rw [hdb] at nb; simp [Datum.isNaN] at nb
          | infinity t => rw [(read_infw hda).1, (read_infw hdb).1]
          | number t n j =>
            rw [hda, hdb] at ho
            cases s <;> simp [Datum.order] at ho
        | number s m i =>
          cases hdb : single.read b with
          | nan s t => rw [hdb] at nb; simp [Datum.isNaN] at nb
          | infinity t =>
            rw [hda, hdb] at ho
            cases t <;> simp [Datum.order] at ho
          | number t n j =>
            have h1 := (read_canon hda).2.2
            have h2 := (read_canon hdb).2.2
            rw [hs, ← h2] at h1
            subst h1
            rw [hda, hdb] at ho
            simp only [Datum.order, Option.some.injEq] at ho
            exact num_inj hda hdb (Int.le_antisymm (cmp_le (.inr ho)) (cmp_ge (.inr ho)))
      · right
        simpa using hs
open Go.RowKit
theorem e144a : Extern.findNext Try.f144 = none := by rfl
theorem e144b : Extern.find Try.f144 = some Extern.MathFloatBits.float64bits := by rfl
theorem e143a : Extern.findNext Try.f143 = none := by rfl
theorem e143b : Extern.find Try.f143 = some Extern.MathFloatBits.float64frombits := by rfl
theorem ext144 (b : Nat) (w : World) : (callFunc 144 #[.float .f64 b]).run Try.prog w = .ok (.value (.int .u64 b)) w := by
  rw [run_callFunc_extern Try.func144 (by rfl) (by rfl) e144a e144b]; rfl
theorem ext143 (n : Int) (w : World) : (callFunc 143 #[.int .u64 n]).run Try.prog w = .ok (.value (.float .f64 n.toNat)) w := by
  rw [run_callFunc_extern Try.func143 (by rfl) (by rfl) e143a e143b]; rfl
attribute [go_sem] ext144 ext143
set_option maxRecDepth 10000 in
set_option maxHeartbeats 400000 in
theorem abs_walk (b : Nat) (w : World) : Calls Try.prog 141 #[.float .f64 b] w fun e w' => e = .returned (.float .f64 (bits .andNot .u64 (b : Int) 9223372036854775808).toNat) ∧ w' = w := by
  go_enter Try.func141, Try.ntmps141
  go_wp2
  go_ret
  exact ⟨rfl, rfl⟩
theorem fn141 : FnOk Try.prog 141 Try.f141 (bodyOf Try.f141) := ⟨Try.func141, rfl, by rfl⟩
def s141 : Spec := fun args H => match args with
  | [.c (.f .f64 e)] => some (.c (.f .f64 fun _ => absB (e ())), H, [])
  | _ => none
theorem ok141 : Ok Try.prog 141 s141 := by
  intro args H v H' o hs ho μ W w vs hW hH hr
  unfold s141 at hs
  split at hs
  · rename_i e
    cases hs
    match vs, hr with
    | [x], hr =>
      obtain ⟨⟨b, rfl, hb⟩, _⟩ := hr
      refine .inl ⟨callFunc_run fn141 _ _, (abs_walk b w).mono ?_⟩
      rintro e' w' ⟨rfl, rfl⟩
      refine ⟨_, rfl, μ, agree.refl _ _, Nat.le_refl _, hH, ⟨_, rfl, ?_⟩, Fr.refl _ _⟩
      rcases hb with rfl | ⟨h1, h2⟩
      · exact .inl rfl
      · exact .inr ⟨absB_nan h1, absB_nan h2⟩
  · cases hs
theorem fn137 : FnOk Try.prog 137 Try.f137 (bodyOf Try.f137) := ⟨Try.func137, rfl, by rfl⟩
def s137 : Spec := hspec fun args H => match args, H with
  | [.c (.f .f32 a)], [] => some (F (sizeI (a ())), [], [])
  | _, _ => none
def E137 : Env := fun g => envGetL [(141, ⟨true, s141, none⟩)] g
theorem E137ok : EnvOk Try.prog E137 := envOk_cons ok141 (envOk_nil _)
theorem ok137 : Ok Try.prog 137 (s137) := ok_of_wpaH (E := E137) mixed tts E137ok fn137 fun args H v H' o hs ho => by
  split at hs
  · rename_i a
    cases hs
    refine ⟨_, HLe.nil, ?_⟩
    cbv
    repeat' first
      | (refine alt_t (by assumption) ?_; cbv)
      | (refine alt_f (by assumption) ?_; cbv)
      | (refine alt_b (fun h => ?_) (fun h => ?_) <;> cbv)
      | (refine Br.mk (fun h => ?_) (fun h => ?_) <;> cbv)
      | (refine Ob.mk ?_ ?_; rotate_left; cbv)
      | (refine Lex.mk (by kernel_rfl) ?_; cbv)
    all_goals (try simp only [Unit.unit, Int.ofNat_lt, Int.ofNat_le, BE.val, IE.val, NE.val, ltB_iff, ltB_no, leB_iff, leB_no, Int.toNat_natCast, Nat.zero_add, Nat.add_zero, Nat.mul_one, forced, beq_iff_eq, beq_eq_false_iff_ne, bne_iff_ne, bne_eq_false_iff_eq] at *)
    all_goals first | with_reducible rfl | exact size_some _ | rfl | (simp_all [sizeI, cvU]; done)
  · cases hs
theorem fn112 : FnOk Try.prog 112 Try.f112 (bodyOf Try.f112) := ⟨Try.func112, rfl, by rfl⟩
def s112 : Spec := hspec fun args H => match args, H with
  | [.c (.f .f32 a)], [] => some (F (sizeF (a ())), [], [])
  | _, _ => none
theorem ok112 : Ok Try.prog 112 (s112) := ok_of_wpaH (E := envGetL []) mixed tts (envOk_nil _) fn112 fun args H v H' o hs ho => by
  split at hs
  · rename_i a
    cases hs
    refine ⟨_, HLe.nil, ?_⟩
    cbv
    repeat' first
      | (refine alt_t (by assumption) ?_; cbv)
      | (refine alt_f (by assumption) ?_; cbv)
      | (refine alt_b (fun h => ?_) (fun h => ?_) <;> cbv)
      | (refine Br.mk (fun h => ?_) (fun h => ?_) <;> cbv)
      | (refine Ob.mk ?_ ?_; rotate_left; cbv)
      | (refine Lex.mk (by kernel_rfl) ?_; cbv)
    all_goals (try simp only [Unit.unit, Int.ofNat_lt, Int.ofNat_le, BE.val, IE.val, NE.val, ltB_iff, ltB_no, leB_iff, leB_no, Int.toNat_natCast, Nat.zero_add, Nat.add_zero, Nat.mul_one, forced, beq_iff_eq, beq_eq_false_iff_ne, bne_iff_ne, bne_eq_false_iff_eq] at *)
    all_goals first | with_reducible rfl | (simp_all [sizeF]; done) | grind [sizeF]
  · cases hs
/-- the size of a rate is not above something -/
def stillI (st sp fd : Nat) (l : List Nat) (w : Nat) (i : Nat) : Bool := fcmp .leq .f32 (sizeF (rateW st sp fd l i)) w
def stillW (st sp fd : Nat) (l : List Nat) (n w : Nat) : Bool := allI (stillI st sp fd l w) n
theorem still_no {st sp fd : Nat} {l : List Nat} {n w i : Nat} (hi : i < n) (h : fcmp .leq .f32 (sizeF (rateW st sp fd l i)) w = false) : stillW st sp fd l n w = false := allI_no hi h
theorem still_noI {st sp fd : Nat} {l : List Nat} {n w i : Nat} (hi : i < n) (h : fcmp .leq .f32 (sizeI (rateW st sp fd l i)) w = false) : stillW st sp fd l n w = false := still_no hi (by rw [← size_leq]; exact h)
theorem still_go {st sp fd : Nat} {l : List Nat} {w i : Nat} (hi : allI (stillI st sp fd l w) i = true) (h : fcmp .leq .f32 (sizeF (rateW st sp fd l i)) w = true) : allI (stillI st sp fd l w) (i + 1) = true := by
  simp only [allI, hi, Bool.true_and]; exact h
theorem still_goI {st sp fd : Nat} {l : List Nat} {w i : Nat} (hi : allI (stillI st sp fd l w) i = true) (h : fcmp .leq .f32 (sizeI (rateW st sp fd l i)) w = true) : allI (stillI st sp fd l w) (i + 1) = true := still_go hi (by rw [← size_leq]; exact h)
theorem fn104 : FnOk Try.prog 104 Try.f104 (bodyOf Try.f104) := ⟨Try.func104, rfl, by rfl⟩
def s104 : Spec := hspec fun args H => match args, H with
  | [.a [.f .f32 st, .f .f32 sp, .f .f32 fd, .sl 0 (.x o) (.x n)], .c (.f .f32 w)], [some ⟨false, 0, x⟩] => match x.toFl with
    | some l => some (vB (stillW (st ()) (sp ()) (fd ()) (l ()) (n ()) (w ())), [none], [fun _ => o () = 0 ∧ (l ()).length = 3 * n () ∧ n () ≤ 1048576])
    | _ => none
  | _, _ => none
def E104 : Env := fun g => envGetL [(111, ⟨true, s111, none⟩), (137, ⟨true, s137, none⟩)] g
theorem E104ok : EnvOk Try.prog E104 := envOk_cons ok111 (envOk_cons ok137 (envOk_nil _))
set_option maxRecDepth 100000 in
set_option maxHeartbeats 1000000 in
theorem ok104 : Ok Try.prog 104 (s104) := ok_of_wpaH (E := E104) mixed tts E104ok fn104 fun args H v H' o hs ho => by
  split at hs
  · rename_i st sp fd o n w x
    split at hs
    · rename_i l hl
      cases hs
      obtain ⟨ho0, hlen, hbig⟩ := ho.one
      try simp only [Unit.unit] at ho0 hlen hbig
      refine ⟨_, HLe.cons (BLe.fl hl) HLe.nil, ?_⟩
      cbv
      refine loop_rule (α := Unit → Nat) (c := ⟨tt, E104, 1⟩)
          (fun i => fr 19 [(1, .c (.f .f32 w)), (2, .c (.p 1 (.l 0))), (8, .c (.i .i64 (.x fun _ => n ()))), (9, .c (.i .i64 (.x fun _ => i ())))]) (fun i => [some ⟨false, 0, .fl l⟩, some ⟨true, 0, .lit [.f .f32 st, .f .f32 sp, .f .f32 fd, .sl 0 (.x o) (.x n)]⟩])
          (fun i => i () ≤ n () ∧ allI (stillI (st ()) (sp ()) (fd ()) (l ()) (w ())) (i ()) = true) (fun i => n () - i ()) (fun _ => n () + 1) ?_ ?_
      · refine .mk (fun _ => 0) ⟨Nat.zero_le _, rfl⟩ (by dsimp only; omega) ?_
        cbv
        repeat' (refine Ob.mk ?_ ?_; rotate_left)
        all_goals (try simp only [Unit.unit, Int.ofNat_lt, Int.ofNat_le, BE.val, IE.val, NE.val, ltB_iff, ltB_no, leB_iff, leB_no, Int.toNat_natCast, Nat.zero_add, Nat.add_zero, Nat.mul_one, forced, beq_iff_eq, beq_eq_false_iff_ne, bne_iff_ne, bne_eq_false_iff_eq] at *)
        all_goals first | with_reducible rfl | trivial | rfl
      · intro i hi
        cbv
        repeat' first
          | (refine alt_t (by assumption) ?_; cbv)
          | (refine alt_f (by assumption) ?_; cbv)
          | (refine alt_b (fun h => ?_) (fun h => ?_) <;> cbv)
          | (refine Br.mk (fun h => ?_) (fun h => ?_) <;> cbv)
          | (refine Ob.mk ?_ ?_; rotate_left; cbv)
          | (refine Lex.mk (by kernel_rfl) ?_; cbv)
          | (refine Next.mk (fun _ => i () + 1) ?_ ?_ ?_)
        all_goals (try simp only [Unit.unit, Int.ofNat_lt, Int.ofNat_le, BE.val, IE.val, NE.val, ltB_iff, ltB_no, leB_iff, leB_no, Int.toNat_natCast, Nat.zero_add, Nat.add_zero, Nat.mul_one, forced, beq_iff_eq, beq_eq_false_iff_ne, bne_iff_ne, bne_eq_false_iff_eq] at *)
        all_goals (try simp only [ho0, Nat.zero_add] at *)
        all_goals first | with_reducible rfl | omega | exact wrap64_nat (by omega) | (refine ⟨Int.natCast_nonneg _, ?_⟩; omega) | exact ⟨ho0, hlen, hbig⟩ | exact ⟨by trivial, hlen, hbig⟩ | exact ⟨Int.natCast_nonneg _, by simpa using (by omega)⟩ | exact (still_noI (by omega) (not_t (by assumption))).symm | exact still_noI (by omega) (not_t (by assumption)) | exact ⟨by omega, still_goI hi.2 (not_f (by assumption))⟩ | (rw [show i ⟨⟩ = n ⟨⟩ by omega] at hi; exact hi.2.symm) | (rw [show i ⟨⟩ = n ⟨⟩ by omega] at hi; exact hi.2) | (rw [still_noI (by omega) (not_t (by assumption))]; done)
    · cases hs
  · cases hs
theorem fn108 : FnOk Try.prog 108 Try.f108 (bodyOf Try.f108) := ⟨Try.func108, rfl, by rfl⟩
def s108 : Spec := hspec fun args H => match args, H with
  | [.c (.p 0 (.l 0)), .c (.f .f32 w)], [some ⟨false, 0, .lit [.f .f32 st, .f .f32 sp, .f .f32 fd, .sl 1 (.x o) (.x n)]⟩, some ⟨false, 0, x⟩] => match x.toFl with
    | some l => some (vB (stillW (st ()) (sp ()) (fd ()) (l ()) (n ()) (w ())), [none, none], [fun _ => o () = 0 ∧ (l ()).length = 3 * n () ∧ n () ≤ 1048576])
    | _ => none
  | _, _ => none
def E108 : Env := fun g => envGetL [(122, ⟨true, s122, none⟩), (112, ⟨true, s112, none⟩)] g
theorem E108ok : EnvOk Try.prog E108 := envOk_cons ok122 (envOk_cons ok112 (envOk_nil _))
set_option maxRecDepth 100000 in
set_option maxHeartbeats 1000000 in
theorem ok108 : Ok Try.prog 108 (s108) := ok_of_wpaH (E := E108) mixed tts E108ok fn108 fun args H v H' o hs ho => by
  split at hs
  · rename_i w st sp fd o n x
    split at hs
    · rename_i l hl
      cases hs
      obtain ⟨ho0, hlen, hbig⟩ := ho.one
      try simp only [Unit.unit] at ho0 hlen hbig
      refine ⟨_, HLe.cons (BLe.refl _) (HLe.cons (BLe.fl hl) HLe.nil), ?_⟩
      cbv
      refine loop_rule (α := Unit → Nat) (c := ⟨tt, E108, 2⟩)
          (fun i => fr 22 [(0, .c (.p 0 (.l 0))), (1, .c (.f .f32 w)), (5, .c (.i .i64 (.x fun _ => i ())))]) (fun i => [some ⟨false, 0, .lit [.f .f32 st, .f .f32 sp, .f .f32 fd, .sl 1 (.x o) (.x n)]⟩, some ⟨false, 0, .fl l⟩])
          (fun i => i () ≤ n () ∧ allI (stillI (st ()) (sp ()) (fd ()) (l ()) (w ())) (i ()) = true) (fun i => n () - i ()) (fun _ => n () + 1) ?_ ?_
      · refine .mk (fun _ => 0) ⟨Nat.zero_le _, rfl⟩ (by dsimp only; omega) ?_
        cbv
        repeat' (refine Ob.mk ?_ ?_; rotate_left)
        all_goals (try simp only [Unit.unit, Int.ofNat_lt, Int.ofNat_le, BE.val, IE.val, NE.val, ltB_iff, ltB_no, leB_iff, leB_no, Int.toNat_natCast, Nat.zero_add, Nat.add_zero, Nat.mul_one, forced, beq_iff_eq, beq_eq_false_iff_ne, bne_iff_ne, bne_eq_false_iff_eq] at *)
        all_goals first | with_reducible rfl | trivial | rfl
      · intro i hi
        cbv
        repeat' first
          | (refine alt_t (by assumption) ?_; cbv)
          | (refine alt_f (by assumption) ?_; cbv)
          | (refine alt_b (fun h => ?_) (fun h => ?_) <;> cbv)
          | (refine Br.mk (fun h => ?_) (fun h => ?_) <;> cbv)
          | (refine Ob.mk ?_ ?_; rotate_left; cbv)
          | (refine Lex.mk (by kernel_rfl) ?_; cbv)
          | (refine Next.mk (fun _ => i () + 1) ?_ ?_ ?_)
        all_goals (try simp only [Unit.unit, Int.ofNat_lt, Int.ofNat_le, BE.val, IE.val, NE.val, ltB_iff, ltB_no, leB_iff, leB_no, Int.toNat_natCast, Nat.zero_add, Nat.add_zero, Nat.mul_one, forced, beq_iff_eq, beq_eq_false_iff_ne, bne_iff_ne, bne_eq_false_iff_eq] at *)
        all_goals (try simp only [ho0, Nat.zero_add] at *)
        all_goals first | with_reducible rfl | omega | exact wrap64_nat (by omega) | (refine ⟨Int.natCast_nonneg _, ?_⟩; omega) | exact ⟨ho0, hlen, hbig⟩ | exact ⟨by trivial, hlen, hbig⟩ | exact ⟨Int.natCast_nonneg _, by simpa using (by omega)⟩ | exact (still_no (by omega) (not_t (by assumption))).symm | exact still_no (by omega) (not_t (by assumption)) | exact ⟨by omega, still_go hi.2 (not_f (by assumption))⟩ | (rw [show i ⟨⟩ = n ⟨⟩ by omega] at hi; exact hi.2.symm) | (rw [show i ⟨⟩ = n ⟨⟩ by omega] at hi; exact hi.2) | (rw [still_no (by omega) (not_t (by assumption))]; done)
    · cases hs
  · cases hs
def settleK (st sp fd tm n w : Nat) : Nat → Nat → List Nat → Int × Nat
  | 0, k, l => if stillW st sp fd l n w then (0, k) else (7, 0)
  | m + 1, k, l => if stillW st sp fd l n w then (0, k) else
    if webOk st sp fd (stepW st sp fd tm l n) n then settleK st sp fd tm n w m (k + 1) (stepW st sp fd tm l n) else (4, 0)
def settleC (st sp fd : Nat) (l : List Nat) (n tm w : Nat) (most : Int) : Int × Nat :=
  if webOk st sp fd l n then if isTime tm && isFilm w && isCount most then settleK st sp fd tm n w most.toNat 0 l else (2, 0) else (1, 0)
section
variable {st sp fd tm n w : Nat} {l L : List Nat} {k m : Nat} {most : Int}
theorem sk_hit (h : stillW st sp fd L n w = true) : settleK st sp fd tm n w m k L = (0, k) := by cases m <;> simp [settleK, h]
theorem sk_end (h : stillW st sp fd L n w = false) : settleK st sp fd tm n w 0 k L = (7, 0) := by simp [settleK, h]
theorem sk_next (h : stillW st sp fd L n w = false) (hw : webOk st sp fd (stepW st sp fd tm L n) n = true) : settleK st sp fd tm n w (m + 1) k L = settleK st sp fd tm n w m (k + 1) (stepW st sp fd tm L n) := by simp [settleK, h, hw]
theorem sk_stop (h : stillW st sp fd L n w = false) (hw : webOk st sp fd (stepW st sp fd tm L n) n = false) : settleK st sp fd tm n w (m + 1) k L = (4, 0) := by simp [settleK, h, hw]
theorem settle_1 (h : webOk st sp fd l n = false) : settleC st sp fd l n tm w most = (1, 0) := by simp [settleC, h]
theorem settle_2 (h : webOk st sp fd l n = true) (h2 : (isTime tm && isFilm w && isCount most) = false) : settleC st sp fd l n tm w most = (2, 0) := by unfold settleC; rw [if_pos h, h2]; rfl
theorem settle_go (h : webOk st sp fd l n = true) (h2 : (isTime tm && isFilm w && isCount most) = true) : settleC st sp fd l n tm w most = settleK st sp fd tm n w most.toNat 0 l := by unfold settleC; rw [if_pos h, if_pos h2]
theorem settle_g (h : ¬ (webOk st sp fd l n = true ∧ (isTime tm && isFilm w && isCount most) = true)) : settleC st sp fd l n tm w most = (givenC (webOk st sp fd l n) (isTime tm && isFilm w && isCount most), 0) := by
  unfold settleC givenC
  split
  · rename_i ha
    split
    · rename_i hb; exact absurd ⟨ha, hb⟩ h
    · rfl
  · rfl
theorem settle_ok (h : ((settleC st sp fd l n tm w most).1 == 0) = true) : webOk st sp fd l n = true ∧ (isTime tm && isFilm w && isCount most) = true := by
  rw [beq_iff_eq] at h
  unfold settleC at h
  split at h
  · rename_i h1
    split at h
    · rename_i h2; exact ⟨h1, h2⟩
    · cases h
  · cases h
theorem fineS (h : (isTime tm && isFilm w && isCount most) = true) : isTime tm = true ∧ isFilm w = true ∧ isCount most = true := by
  simp only [Bool.and_eq_true] at h; exact ⟨h.1.1, h.1.2, h.2⟩
theorem film_of (h1 : fcmp .geq .f32 w 0 = true) (h2 : isPlain w = true) : isFilm w = true := by
  unfold isPlain isIn at h2
  simp only [Bool.and_eq_true] at h2
  unfold isFilm isIn
  rw [h1, h2.2]; rfl
theorem film_lo (h : isFilm w = true) : fcmp .geq .f32 w 0 = true := by
  unfold isFilm isIn at h
  simp only [Bool.and_eq_true] at h
  exact h.1
end
theorem fn44 : FnOk Try.prog 44 Try.f44 (bodyOf Try.f44) := ⟨Try.func44, rfl, by rfl⟩
def s44T : Spec := hspec fun args H => match args, H with
  | [.a [.f .f32 st, .f .f32 sp, .f .f32 fd, .sl 0 (.x o) (.x n)], .c (.f .f32 tm), .c (.f .f32 w), .c (.i .i64 (.x q))], [some ⟨false, 0, x⟩] => match x.toFl with
    | some l => some (.t [.a [.f .f32 st, .f .f32 sp, .f .f32 fd, .sl 1 (.l 0) (.x n)], vI ((settleC (st ()) (sp ()) (fd ()) (l ()) (n ()) (tm ()) (w ()) (q ())).2 : Nat), vI 0], [none, some ⟨true, 3, .fl fun _ => runW (st ()) (sp ()) (fd ()) (tm ()) (n ()) (l ()) (settleC (st ()) (sp ()) (fd ()) (l ()) (n ()) (tm ()) (w ()) (q ())).2⟩], [fun _ => ((settleC (st ()) (sp ()) (fd ()) (l ()) (n ()) (tm ()) (w ()) (q ())).1 == 0) = true, fun _ => o () = 0 ∧ (l ()).length = 3 * n () ∧ n () ≤ 1048576])
    | _ => none
  | _, _ => none
def E44T : Env := fun g => envGetL [(51, ⟨true, s51, none⟩), (101, ⟨true, s101, none⟩), (102, ⟨true, s102, none⟩), (103, ⟨true, s103, none⟩), (88, ⟨true, s88, none⟩), (104, ⟨true, s104, none⟩), (105, ⟨true, s105, none⟩)] g
theorem E44Tok : EnvOk Try.prog E44T := envOk_cons ok51 (envOk_cons ok101 (envOk_cons ok102 (envOk_cons ok103 (envOk_cons ok88 (envOk_cons ok104 (envOk_cons ok105 (envOk_nil _)))))))
set_option maxRecDepth 100000 in
set_option maxHeartbeats 4000000 in
theorem ok44T : Ok Try.prog 44 (s44T) := ok_of_wpaH (E := E44T) mixed tts E44Tok fn44 fun args H v H' o hs ho => by
  split at hs
  · rename_i st sp fd o n tm w q x
    split at hs
    · rename_i l hl
      cases hs
      obtain ⟨hc, ⟨ho0, hlen, hbig⟩⟩ := ho.two
      try simp only [Unit.unit] at hc ho0 hlen hbig
      refine ⟨_, HLe.cons (BLe.fl hl) HLe.nil, ?_⟩
      cbv
      refine Ob.mk ⟨ho0, hlen, hbig⟩ ?_
      cbv
      refine Br.mk (fun hv => ?_) (fun hv => ?_)
      · have hbw := settle_1 (tm := tm ⟨⟩) (w := w ⟨⟩) (most := q ⟨⟩) (not_t hv : webOk (st ⟨⟩) (sp ⟨⟩) (fd ⟨⟩) (l ⟨⟩) (n ⟨⟩) = false)
        exact absurd hc (by rw [hbw]; simp)
      have hv' : webOk (st ⟨⟩) (sp ⟨⟩) (fd ⟨⟩) (l ⟨⟩) (n ⟨⟩) = true := not_f hv
      clear hv
      cbv
      by_cases hf : (isTime (tm ⟨⟩) && isFilm (w ⟨⟩) && isCount (q ⟨⟩)) = true
      rotate_left
      · have hbw := settle_2 hv' (by simpa using hf : (isTime (tm ⟨⟩) && isFilm (w ⟨⟩) && isCount (q ⟨⟩)) = false)
        exact absurd hc (by rw [hbw]; simp)
      obtain ⟨hf1, hf2, hf3⟩ := fineS hf
      have hq2 : 0 ≤ q ⟨⟩ ∧ q ⟨⟩ ≤ 1000 := count_le hf3
      have hgo := settle_go hv' hf
      repeat' first
        | (refine Br.mk (fun h => ?_) (fun h => ?_) <;> cbv)
      all_goals try (first | (exfalso; simp_all; done) | (exfalso; simp only [Unit.unit, Int.ofNat_lt, Int.ofNat_le, BE.val, IE.val, NE.val, ltB_iff, ltB_no, leB_iff, leB_no, Int.toNat_natCast, Nat.zero_add, Nat.add_zero, Nat.mul_one, forced, beq_iff_eq, beq_eq_false_iff_ne, bne_iff_ne, bne_eq_false_iff_eq] at *; simp_all; done))
      refine Ob.mk ⟨ho0, hlen, hbig⟩ ?_
      cbv
      repeat' (refine Ob.mk ?_ ?_; rotate_left; cbv)
      all_goals try (first | exact ⟨ho0, hlen, hbig⟩ | with_reducible rfl)
      refine loop_rule (α := Unit → Nat) (c := ⟨tt, E44T, 1⟩)
          (fun k => fr 58 [(1, .c (.f .f32 tm)), (2, .c (.f .f32 w)), (3, .c (.i .i64 (.x q))), (8, .c (.p 2 (.l 0))), (11, .c (.p 4 (.l 0))), (12, .c (.i .i64 (.x fun _ => k ())))]) (fun k => [some ⟨false, 0, .fl l⟩, none, some ⟨true, 0, .lit [.f .f32 fun _ => 0, .f .f32 fun _ => 0, .f .f32 fun _ => 0, .sn]⟩, some ⟨true, 3, .fl fun _ => runW (st ()) (sp ()) (fd ()) (tm ()) (n ()) (l ()) (k ())⟩, some ⟨true, 0, .lit [.f .f32 st, .f .f32 sp, .f .f32 fd, .sl 3 (.l 0) (.x n)]⟩])
          (fun k => k () ≤ (q ()).toNat ∧ settleC (st ()) (sp ()) (fd ()) (l ()) (n ()) (tm ()) (w ()) (q ()) = settleK (st ()) (sp ()) (fd ()) (tm ()) (n ()) (w ()) ((q ()).toNat - k ()) (k ()) (runW (st ()) (sp ()) (fd ()) (tm ()) (n ()) (l ()) (k ()))) (fun k => (q ()).toNat - k ()) (fun _ => (q ()).toNat + 1) ?_ ?_
      · refine .mk (fun _ => 0) ⟨Nat.zero_le _, hgo⟩ (by dsimp only; omega) ?_
        cbv
        repeat' (refine Ob.mk ?_ ?_; rotate_left)
        all_goals (try simp only [Unit.unit, Int.ofNat_lt, Int.ofNat_le, BE.val, IE.val, NE.val, ltB_iff, ltB_no, leB_iff, leB_no, Int.toNat_natCast, Nat.zero_add, Nat.add_zero, Nat.mul_one, forced, beq_iff_eq, beq_eq_false_iff_ne, bne_iff_ne, bne_eq_false_iff_eq] at *)
        all_goals first | with_reducible rfl | trivial | (simp only [ho0, List.nil_append, seg_all hlen]; done) | rfl
      · intro k hi
        have hLx : (runW (st ⟨⟩) (sp ⟨⟩) (fd ⟨⟩) (tm ⟨⟩) (n ⟨⟩) (l ⟨⟩) (k ⟨⟩)).length = 3 * n ⟨⟩ := runW_len (st ⟨⟩) (sp ⟨⟩) (fd ⟨⟩) (tm ⟨⟩) (n ⟨⟩) (l ⟨⟩) hlen (k ⟨⟩)
        have hkq : k ⟨⟩ ≤ (q ⟨⟩).toNat := hi.1
        have hbw : settleC (st ⟨⟩) (sp ⟨⟩) (fd ⟨⟩) (l ⟨⟩) (n ⟨⟩) (tm ⟨⟩) (w ⟨⟩) (q ⟨⟩) = settleK (st ⟨⟩) (sp ⟨⟩) (fd ⟨⟩) (tm ⟨⟩) (n ⟨⟩) (w ⟨⟩) ((q ⟨⟩).toNat - k ⟨⟩) (k ⟨⟩) (runW (st ⟨⟩) (sp ⟨⟩) (fd ⟨⟩) (tm ⟨⟩) (n ⟨⟩) (l ⟨⟩) (k ⟨⟩)) := hi.2
        cbv
        refine Ob.mk ⟨by trivial, hLx, hbig⟩ ?_
        cbv
        refine Br.mk (fun hst => ?_) (fun hst => ?_)
        · have hst : stillW (st ⟨⟩) (sp ⟨⟩) (fd ⟨⟩) (runW (st ⟨⟩) (sp ⟨⟩) (fd ⟨⟩) (tm ⟨⟩) (n ⟨⟩) (l ⟨⟩) (k ⟨⟩)) (n ⟨⟩) (w ⟨⟩) = true := hst
          rw [sk_hit hst] at hbw
          cbv
          repeat' (refine Ob.mk ?_ ?_; rotate_left; cbv)
          all_goals (try simp only [Unit.unit, Int.ofNat_lt, Int.ofNat_le, BE.val, IE.val, NE.val, ltB_iff, ltB_no, leB_iff, leB_no, Int.toNat_natCast, Nat.zero_add, Nat.add_zero, Nat.mul_one, forced, beq_iff_eq, beq_eq_false_iff_ne, bne_iff_ne, bne_eq_false_iff_eq] at *)
          all_goals (try simp only [ho0, Nat.zero_add] at *)
          all_goals first | with_reducible rfl | rfl | (rw [hbw]; done) | (rw [hbw]; rfl) | exact ⟨by trivial, hLx, hbig⟩ | exact ⟨rfl, hLx, hbig⟩ | omega | exact wrap64_nat (by omega)
        · have hst : stillW (st ⟨⟩) (sp ⟨⟩) (fd ⟨⟩) (runW (st ⟨⟩) (sp ⟨⟩) (fd ⟨⟩) (tm ⟨⟩) (n ⟨⟩) (l ⟨⟩) (k ⟨⟩)) (n ⟨⟩) (w ⟨⟩) = false := hst
          cbv
          refine Br.mk (fun hm => ?_) (fun hm => ?_)
          · have hz := eq_most (k := k ⟨⟩) hq2.1 (beq_iff_eq.1 hm)
            rw [hz, sk_end hst] at hbw
            exact absurd hc (by rw [hbw]; simp)
          · obtain ⟨hk1, hk2⟩ := ne_most (k := k ⟨⟩) hq2.1 hkq (beq_eq_false_iff_ne.1 hm)
            rw [hk2] at hbw
            clear hm
            cbv
            refine Ob.mk ⟨by trivial, hLx, hbig⟩ ?_
            cbv
            refine Br.mk (fun h => ?_) (fun h => ?_)
            · rw [sk_stop hst (not_t h)] at hbw
              exact absurd hc (by rw [hbw]; simp)
            · rw [sk_next hst (not_f h)] at hbw
              cbv
              repeat' first | (refine Ob.mk ?_ ?_; rotate_left; cbv) | (refine Next.ren [1, 2, 5, 4] (fun _ => k () + 1) ?_ ?_ ?_)
              all_goals (try simp only [Unit.unit, Int.ofNat_lt, Int.ofNat_le, BE.val, IE.val, NE.val, ltB_iff, ltB_no, leB_iff, leB_no, Int.toNat_natCast, Nat.zero_add, Nat.add_zero, Nat.mul_one, forced, beq_iff_eq, beq_eq_false_iff_ne, bne_iff_ne, bne_eq_false_iff_eq] at *)
              all_goals (try simp only [ho0, Nat.zero_add] at *)
              all_goals first | with_reducible rfl | omega | exact wrap64_nat (by omega) | exact ⟨by omega, hbw⟩ | rfl | exact ⟨rfl, hLx, hbig⟩
    · cases hs
  · cases hs
def s44F : Spec := hspec fun args H => match args, H with
  | [.a [.f .f32 st, .f .f32 sp, .f .f32 fd, .sl 0 (.x o) (.x n)], .c (.f .f32 tm), .c (.f .f32 w), .c (.i .i64 (.x q))], [some ⟨false, 0, x⟩] => match x.toFl with
    | some l => some (.t [.a [.f .f32 fun _ => 0, .f .f32 fun _ => 0, .f .f32 fun _ => 0, .sn], vI 0, vI (settleC (st ()) (sp ()) (fd ()) (l ()) (n ()) (tm ()) (w ()) (q ())).1], [none], [fun _ => ((settleC (st ()) (sp ()) (fd ()) (l ()) (n ()) (tm ()) (w ()) (q ())).1 == 0) = false, fun _ => o () = 0 ∧ (l ()).length = 3 * n () ∧ n () ≤ 1048576])
    | _ => none
  | _, _ => none
def E44F : Env := fun g => envGetL [(51, ⟨true, s51, none⟩), (101, ⟨true, s101, none⟩), (102, ⟨true, s102, none⟩), (103, ⟨true, s103, none⟩), (88, ⟨true, s88, none⟩), (104, ⟨true, s104, none⟩), (105, ⟨true, s105, none⟩)] g
theorem E44Fok : EnvOk Try.prog E44F := envOk_cons ok51 (envOk_cons ok101 (envOk_cons ok102 (envOk_cons ok103 (envOk_cons ok88 (envOk_cons ok104 (envOk_cons ok105 (envOk_nil _)))))))
set_option maxRecDepth 100000 in
set_option maxHeartbeats 4000000 in
theorem ok44F : Ok Try.prog 44 (s44F) := ok_of_wpaH (E := E44F) mixed tts E44Fok fn44 fun args H v H' o hs ho => by
  split at hs
  · rename_i st sp fd o n tm w q x
    split at hs
    · rename_i l hl
      cases hs
      obtain ⟨hc, ⟨ho0, hlen, hbig⟩⟩ := ho.two
      try simp only [Unit.unit] at hc ho0 hlen hbig
      refine ⟨_, HLe.cons (BLe.fl hl) HLe.nil, ?_⟩
      cbv
      refine Ob.mk ⟨ho0, hlen, hbig⟩ ?_
      cbv
      refine Br.mk (fun hv => ?_) (fun hv => ?_)
      · have hbw := settle_1 (tm := tm ⟨⟩) (w := w ⟨⟩) (most := q ⟨⟩) (not_t hv : webOk (st ⟨⟩) (sp ⟨⟩) (fd ⟨⟩) (l ⟨⟩) (n ⟨⟩) = false)
        cbv
        repeat' (refine Ob.mk ?_ ?_; rotate_left; cbv)
        all_goals (try simp only [Unit.unit, Int.ofNat_lt, Int.ofNat_le, BE.val, IE.val, NE.val, ltB_iff, ltB_no, leB_iff, leB_no, Int.toNat_natCast, Nat.zero_add, Nat.add_zero, Nat.mul_one, forced, beq_iff_eq, beq_eq_false_iff_ne, bne_iff_ne, bne_eq_false_iff_eq] at *)
        all_goals (try simp only [ho0, Nat.zero_add] at *)
        all_goals first | with_reducible rfl | rfl | (rw [hbw]; done) | (rw [hbw]; rfl) | exact ⟨by trivial, hLx, hbig⟩ | exact ⟨rfl, hLx, hbig⟩ | omega | exact wrap64_nat (by omega)
      have hv' : webOk (st ⟨⟩) (sp ⟨⟩) (fd ⟨⟩) (l ⟨⟩) (n ⟨⟩) = true := not_f hv
      clear hv
      cbv
      by_cases hf : (isTime (tm ⟨⟩) && isFilm (w ⟨⟩) && isCount (q ⟨⟩)) = true
      rotate_left
      · have hbw := settle_2 hv' (by simpa using hf : (isTime (tm ⟨⟩) && isFilm (w ⟨⟩) && isCount (q ⟨⟩)) = false)
        repeat' first
          | (refine Br.mk (fun h => ?_) (fun h => ?_) <;> cbv)
          | (refine Ob.mk ?_ ?_; rotate_left; cbv)
        all_goals (try simp only [Unit.unit, Int.ofNat_lt, Int.ofNat_le, BE.val, IE.val, NE.val, ltB_iff, ltB_no, leB_iff, leB_no, Int.toNat_natCast, Nat.zero_add, Nat.add_zero, Nat.mul_one, forced, beq_iff_eq, beq_eq_false_iff_ne, bne_iff_ne, bne_eq_false_iff_eq] at *)
        all_goals first | with_reducible rfl | (rw [hbw]; done) | (exfalso; simp_all; done)
      obtain ⟨hf1, hf2, hf3⟩ := fineS hf
      have hq2 : 0 ≤ q ⟨⟩ ∧ q ⟨⟩ ≤ 1000 := count_le hf3
      have hgo := settle_go hv' hf
      repeat' first
        | (refine Br.mk (fun h => ?_) (fun h => ?_) <;> cbv)
      all_goals try (first | (exfalso; simp_all; done) | (exfalso; simp only [Unit.unit, Int.ofNat_lt, Int.ofNat_le, BE.val, IE.val, NE.val, ltB_iff, ltB_no, leB_iff, leB_no, Int.toNat_natCast, Nat.zero_add, Nat.add_zero, Nat.mul_one, forced, beq_iff_eq, beq_eq_false_iff_ne, bne_iff_ne, bne_eq_false_iff_eq] at *; simp_all; done))
      refine Ob.mk ⟨ho0, hlen, hbig⟩ ?_
      cbv
      repeat' (refine Ob.mk ?_ ?_; rotate_left; cbv)
      all_goals try (first | exact ⟨ho0, hlen, hbig⟩ | with_reducible rfl)
      refine loop_rule (α := Unit → Nat) (c := ⟨tt, E44F, 1⟩)
          (fun k => fr 58 [(1, .c (.f .f32 tm)), (2, .c (.f .f32 w)), (3, .c (.i .i64 (.x q))), (8, .c (.p 2 (.l 0))), (11, .c (.p 4 (.l 0))), (12, .c (.i .i64 (.x fun _ => k ())))]) (fun k => [some ⟨false, 0, .fl l⟩, none, some ⟨true, 0, .lit [.f .f32 fun _ => 0, .f .f32 fun _ => 0, .f .f32 fun _ => 0, .sn]⟩, some ⟨true, 3, .fl fun _ => runW (st ()) (sp ()) (fd ()) (tm ()) (n ()) (l ()) (k ())⟩, some ⟨true, 0, .lit [.f .f32 st, .f .f32 sp, .f .f32 fd, .sl 3 (.l 0) (.x n)]⟩])
          (fun k => k () ≤ (q ()).toNat ∧ settleC (st ()) (sp ()) (fd ()) (l ()) (n ()) (tm ()) (w ()) (q ()) = settleK (st ()) (sp ()) (fd ()) (tm ()) (n ()) (w ()) ((q ()).toNat - k ()) (k ()) (runW (st ()) (sp ()) (fd ()) (tm ()) (n ()) (l ()) (k ()))) (fun k => (q ()).toNat - k ()) (fun _ => (q ()).toNat + 1) ?_ ?_
      · refine .mk (fun _ => 0) ⟨Nat.zero_le _, hgo⟩ (by dsimp only; omega) ?_
        cbv
        repeat' (refine Ob.mk ?_ ?_; rotate_left)
        all_goals (try simp only [Unit.unit, Int.ofNat_lt, Int.ofNat_le, BE.val, IE.val, NE.val, ltB_iff, ltB_no, leB_iff, leB_no, Int.toNat_natCast, Nat.zero_add, Nat.add_zero, Nat.mul_one, forced, beq_iff_eq, beq_eq_false_iff_ne, bne_iff_ne, bne_eq_false_iff_eq] at *)
        all_goals first | with_reducible rfl | trivial | (simp only [ho0, List.nil_append, seg_all hlen]; done) | rfl
      · intro k hi
        have hLx : (runW (st ⟨⟩) (sp ⟨⟩) (fd ⟨⟩) (tm ⟨⟩) (n ⟨⟩) (l ⟨⟩) (k ⟨⟩)).length = 3 * n ⟨⟩ := runW_len (st ⟨⟩) (sp ⟨⟩) (fd ⟨⟩) (tm ⟨⟩) (n ⟨⟩) (l ⟨⟩) hlen (k ⟨⟩)
        have hkq : k ⟨⟩ ≤ (q ⟨⟩).toNat := hi.1
        have hbw : settleC (st ⟨⟩) (sp ⟨⟩) (fd ⟨⟩) (l ⟨⟩) (n ⟨⟩) (tm ⟨⟩) (w ⟨⟩) (q ⟨⟩) = settleK (st ⟨⟩) (sp ⟨⟩) (fd ⟨⟩) (tm ⟨⟩) (n ⟨⟩) (w ⟨⟩) ((q ⟨⟩).toNat - k ⟨⟩) (k ⟨⟩) (runW (st ⟨⟩) (sp ⟨⟩) (fd ⟨⟩) (tm ⟨⟩) (n ⟨⟩) (l ⟨⟩) (k ⟨⟩)) := hi.2
        cbv
        refine Ob.mk ⟨by trivial, hLx, hbig⟩ ?_
        cbv
        refine Br.mk (fun hst => ?_) (fun hst => ?_)
        · have hst : stillW (st ⟨⟩) (sp ⟨⟩) (fd ⟨⟩) (runW (st ⟨⟩) (sp ⟨⟩) (fd ⟨⟩) (tm ⟨⟩) (n ⟨⟩) (l ⟨⟩) (k ⟨⟩)) (n ⟨⟩) (w ⟨⟩) = true := hst
          rw [sk_hit hst] at hbw
          exact absurd hc (by rw [hbw]; simp)
        · have hst : stillW (st ⟨⟩) (sp ⟨⟩) (fd ⟨⟩) (runW (st ⟨⟩) (sp ⟨⟩) (fd ⟨⟩) (tm ⟨⟩) (n ⟨⟩) (l ⟨⟩) (k ⟨⟩)) (n ⟨⟩) (w ⟨⟩) = false := hst
          cbv
          refine Br.mk (fun hm => ?_) (fun hm => ?_)
          · have hz := eq_most (k := k ⟨⟩) hq2.1 (beq_iff_eq.1 hm)
            rw [hz, sk_end hst] at hbw
            cbv
            repeat' (refine Ob.mk ?_ ?_; rotate_left; cbv)
            all_goals (try simp only [Unit.unit, Int.ofNat_lt, Int.ofNat_le, BE.val, IE.val, NE.val, ltB_iff, ltB_no, leB_iff, leB_no, Int.toNat_natCast, Nat.zero_add, Nat.add_zero, Nat.mul_one, forced, beq_iff_eq, beq_eq_false_iff_ne, bne_iff_ne, bne_eq_false_iff_eq] at *)
            all_goals (try simp only [ho0, Nat.zero_add] at *)
            all_goals first | with_reducible rfl | rfl | (rw [hbw]; done) | (rw [hbw]; rfl) | exact ⟨by trivial, hLx, hbig⟩ | exact ⟨rfl, hLx, hbig⟩ | omega | exact wrap64_nat (by omega)
          · obtain ⟨hk1, hk2⟩ := ne_most (k := k ⟨⟩) hq2.1 hkq (beq_eq_false_iff_ne.1 hm)
            rw [hk2] at hbw
            clear hm
            cbv
            refine Ob.mk ⟨by trivial, hLx, hbig⟩ ?_
            cbv
            refine Br.mk (fun h => ?_) (fun h => ?_)
            · rw [sk_stop hst (not_t h)] at hbw
              cbv
              repeat' (refine Ob.mk ?_ ?_; rotate_left; cbv)
              all_goals (try simp only [Unit.unit, Int.ofNat_lt, Int.ofNat_le, BE.val, IE.val, NE.val, ltB_iff, ltB_no, leB_iff, leB_no, Int.toNat_natCast, Nat.zero_add, Nat.add_zero, Nat.mul_one, forced, beq_iff_eq, beq_eq_false_iff_ne, bne_iff_ne, bne_eq_false_iff_eq] at *)
              all_goals (try simp only [ho0, Nat.zero_add] at *)
              all_goals first | with_reducible rfl | rfl | (rw [hbw]; done) | (rw [hbw]; rfl) | exact ⟨by trivial, hLx, hbig⟩ | exact ⟨rfl, hLx, hbig⟩ | omega | exact wrap64_nat (by omega)
            · rw [sk_next hst (not_f h)] at hbw
              cbv
              repeat' first | (refine Ob.mk ?_ ?_; rotate_left; cbv) | (refine Next.ren [1, 2, 5, 4] (fun _ => k () + 1) ?_ ?_ ?_)
              all_goals (try simp only [Unit.unit, Int.ofNat_lt, Int.ofNat_le, BE.val, IE.val, NE.val, ltB_iff, ltB_no, leB_iff, leB_no, Int.toNat_natCast, Nat.zero_add, Nat.add_zero, Nat.mul_one, forced, beq_iff_eq, beq_eq_false_iff_ne, bne_iff_ne, bne_eq_false_iff_eq] at *)
              all_goals (try simp only [ho0, Nat.zero_add] at *)
              all_goals first | with_reducible rfl | omega | exact wrap64_nat (by omega) | exact ⟨by omega, hbw⟩ | rfl | exact ⟨rfl, hLx, hbig⟩
    · cases hs
  · cases hs
theorem cmp_geq {a b : Int} (h : b ≤ a) : (some (compare a b) == some Ordering.gt || some (compare a b) == some Ordering.eq) = true := by
  simp only [compare, compareOfLessAndEq]
  rw [if_neg (by omega)]
  split <;> rfl
theorem film_plain {w : Nat} (h : isFilm w = true) : isPlain w = true := by
  unfold isFilm isIn at h
  obtain ⟨s, m, i, hr, hs, _⟩ := isIn_num (c := 1233125376) (j := -3) (by decide) h
  simp only [Bool.and_eq_true] at h
  unfold isPlain isIn
  rw [h.2, Bool.and_true]
  have e : Ieee.single.read 3380609024 = .number true 8388608 (-3) := by decide
  unfold fcmp
  simp only [Ieee.Format.order, FloatKind.format, hr, e, Ieee.Datum.order]
  refine cmp_geq ?_
  have h1 : Ieee.signed true 8388608 (-3 - min i (-3)).toNat ≤ 0 := by
    unfold Ieee.signed
    rw [if_pos rfl]
    exact Int.neg_nonpos_of_nonneg (Int.natCast_nonneg _)
  have h2 : 0 ≤ Ieee.signed s m (i - min i (-3)).toNat := by
    unfold Ieee.signed
    cases s with
    | true => rw [hs rfl, if_pos rfl, Nat.zero_shiftLeft]; exact Int.le_refl _
    | false => rw [if_neg (by decide)]; exact Int.natCast_nonneg _
  exact Int.le_trans h1 h2
theorem film_np {w : Nat} (h : isPlain w = false) : isFilm w = false := by
  cases e : isFilm w
  · rfl
  · rw [film_plain e] at h; cases h
theorem film_ng {w : Nat} (h : fcmp .geq .f32 w 0 = false) : isFilm w = false := by
  unfold isFilm isIn; rw [h]; rfl
theorem fn45 : FnOk Try.prog 45 Try.f45 (bodyOf Try.f45) := ⟨Try.func45, rfl, by rfl⟩
def s45T : Spec := hspec fun args H => match args, H with
  | [.a [.f .f32 st, .f .f32 sp, .f .f32 fd, .sl 0 (.x o) (.x n)], .c (.f .f32 tm), .c (.f .f32 w), .c (.i .i64 (.x q))], [some ⟨false, 0, x⟩] => match x.toFl with
    | some l => some (.t [.a [.f .f32 st, .f .f32 sp, .f .f32 fd, .sl 1 (.l 0) (.x n)], vI ((settleC (st ()) (sp ()) (fd ()) (l ()) (n ()) (tm ()) (w ()) (q ())).2 : Nat), vI 0], [none, some ⟨true, 3, .fl fun _ => runW (st ()) (sp ()) (fd ()) (tm ()) (n ()) (l ()) (settleC (st ()) (sp ()) (fd ()) (l ()) (n ()) (tm ()) (w ()) (q ())).2⟩], [fun _ => ((settleC (st ()) (sp ()) (fd ()) (l ()) (n ()) (tm ()) (w ()) (q ())).1 == 0) = true, fun _ => o () = 0 ∧ (l ()).length = 3 * n () ∧ n () ≤ 1048576])
    | _ => none
  | _, _ => none
def E45T : Env := fun g => envGetL [(106, ⟨true, s106, none⟩), (93, ⟨true, s93, none⟩), (107, ⟨true, s107, none⟩), (92, ⟨true, s92, none⟩), (89, ⟨true, s89, none⟩), (108, ⟨true, s108, none⟩), (109, ⟨true, sNo, some (s109T, s109F)⟩)] g
theorem E45Tok : EnvOk Try.prog E45T := envOk_cons ok106 (envOk_cons ok93 (envOk_cons ok107 (envOk_cons ok92 (envOk_cons ok89 (envOk_cons ok108 (envOk_alt ok109T ok109F (envOk_nil _)))))))
set_option maxRecDepth 100000 in
set_option maxHeartbeats 4000000 in
theorem ok45T : Ok Try.prog 45 (s45T) := ok_of_wpaH (E := E45T) mixed tts E45Tok fn45 fun args H v H' o hs ho => by
  split at hs
  · rename_i st sp fd o n tm w q x
    split at hs
    · rename_i l hl
      cases hs
      obtain ⟨hc, ⟨ho0, hlen, hbig⟩⟩ := ho.two
      try simp only [Unit.unit] at hc ho0 hlen hbig
      obtain ⟨hv', hf⟩ := settle_ok hc
      refine ⟨_, HLe.cons (BLe.fl hl) HLe.nil, ?_⟩
      obtain ⟨hf1, hf2, hf3⟩ := fineS hf
      have hf4 := film_lo hf2
      have hf5 := film_plain hf2
      have hq2 : 0 ≤ q ⟨⟩ ∧ q ⟨⟩ ≤ 1000 := count_le hf3
      have hgo := settle_go hv' hf
      cbv
      repeat' first
        | (refine Br.mk (fun h => ?_) (fun h => ?_) <;> cbv)
        | (refine Ob.mk ?_ ?_; rotate_left; cbv)
      all_goals try (first | exact ⟨ho0, hlen, hbig⟩ | with_reducible rfl | (exfalso; simp_all; done))
      refine loop_rule (α := (Unit → Nat) ⊕ (Unit → Int)) (c := ⟨tt, E45T, 1⟩)
          (fun a => match a with | .inl k => fr 50 [(1, .c (.f .f32 tm)), (2, .c (.f .f32 w)), (3, .c (.i .i64 (.x q))), (8, .c (.p 2 (.l 0))), (12, .c (.i .i64 (.l 0))), (13, .c (.p 4 (.l 0))), (14, .c (.i .i64 (.x fun _ => k ())))] | .inr c => fr 50 [(8, .c (.p 2 (.l 0))), (12, .c (.i .i64 (.x fun _ => c ())))]) (fun a => match a with | .inl k => [some ⟨false, 0, .fl l⟩, none, some ⟨true, 0, .lit [.f .f32 fun _ => 0, .f .f32 fun _ => 0, .f .f32 fun _ => 0, .sn]⟩, some ⟨true, 3, .fl fun _ => runW (st ()) (sp ()) (fd ()) (tm ()) (n ()) (l ()) (k ())⟩, some ⟨true, 0, .lit [.f .f32 st, .f .f32 sp, .f .f32 fd, .sl 3 (.l 0) (.x n)]⟩] | .inr c => [some ⟨false, 0, .fl l⟩, none, some ⟨true, 0, .lit [.f .f32 fun _ => 0, .f .f32 fun _ => 0, .f .f32 fun _ => 0, .sn]⟩])
          (fun a => match a with | .inl k => k () ≤ (q ()).toNat ∧ settleC (st ()) (sp ()) (fd ()) (l ()) (n ()) (tm ()) (w ()) (q ()) = settleK (st ()) (sp ()) (fd ()) (tm ()) (n ()) (w ()) ((q ()).toNat - k ()) (k ()) (runW (st ()) (sp ()) (fd ()) (tm ()) (n ()) (l ()) (k ())) | .inr c => c () ≠ 0 ∧ settleC (st ()) (sp ()) (fd ()) (l ()) (n ()) (tm ()) (w ()) (q ()) = (c (), 0)) (fun a => match a with | .inl k => (q ()).toNat - k () + 1 | .inr c => 0) (fun _ => (q ()).toNat + 2) ?_ ?_
      · refine .mk (.inl fun _ => 0) ⟨Nat.zero_le _, hgo⟩ (by dsimp only; omega) ?_
        cbv
        repeat' (refine Ob.mk ?_ ?_; rotate_left)
        all_goals (try simp only [Unit.unit, Int.ofNat_lt, Int.ofNat_le, BE.val, IE.val, NE.val, ltB_iff, ltB_no, leB_iff, leB_no, Int.toNat_natCast, Nat.zero_add, Nat.add_zero, Nat.mul_one, forced, beq_iff_eq, beq_eq_false_iff_ne, bne_iff_ne, bne_eq_false_iff_eq] at *)
        all_goals first | with_reducible rfl | trivial | exact given_0 ⟨by simp_all, by simp_all⟩ | (rw [given_0 ⟨by simp_all, by simp_all⟩]; done) | (simp only [ho0, List.nil_append, seg_all hlen]; done) | rfl
      · rintro (k | c) hi
        · have hLx : (runW (st ⟨⟩) (sp ⟨⟩) (fd ⟨⟩) (tm ⟨⟩) (n ⟨⟩) (l ⟨⟩) (k ⟨⟩)).length = 3 * n ⟨⟩ := runW_len (st ⟨⟩) (sp ⟨⟩) (fd ⟨⟩) (tm ⟨⟩) (n ⟨⟩) (l ⟨⟩) hlen (k ⟨⟩)
          have hkq : k ⟨⟩ ≤ (q ⟨⟩).toNat := hi.1
          have hbw : settleC (st ⟨⟩) (sp ⟨⟩) (fd ⟨⟩) (l ⟨⟩) (n ⟨⟩) (tm ⟨⟩) (w ⟨⟩) (q ⟨⟩) = settleK (st ⟨⟩) (sp ⟨⟩) (fd ⟨⟩) (tm ⟨⟩) (n ⟨⟩) (w ⟨⟩) ((q ⟨⟩).toNat - k ⟨⟩) (k ⟨⟩) (runW (st ⟨⟩) (sp ⟨⟩) (fd ⟨⟩) (tm ⟨⟩) (n ⟨⟩) (l ⟨⟩) (k ⟨⟩)) := hi.2
          cbv
          refine Ob.mk ⟨by trivial, hLx, hbig⟩ ?_
          cbv
          refine Br.mk (fun hst => ?_) (fun hst => ?_)
          · have hst : stillW (st ⟨⟩) (sp ⟨⟩) (fd ⟨⟩) (runW (st ⟨⟩) (sp ⟨⟩) (fd ⟨⟩) (tm ⟨⟩) (n ⟨⟩) (l ⟨⟩) (k ⟨⟩)) (n ⟨⟩) (w ⟨⟩) = true := hst
            rw [sk_hit hst] at hbw
            cbv
            repeat' (refine Ob.mk ?_ ?_; rotate_left; cbv)
            all_goals (try simp only [Unit.unit, Int.ofNat_lt, Int.ofNat_le, BE.val, IE.val, NE.val, ltB_iff, ltB_no, leB_iff, leB_no, Int.toNat_natCast, Nat.zero_add, Nat.add_zero, Nat.mul_one, forced, beq_iff_eq, beq_eq_false_iff_ne, bne_iff_ne, bne_eq_false_iff_eq] at *)
            all_goals (try simp only [ho0, Nat.zero_add] at *)
            all_goals first | with_reducible rfl | rfl | (rw [hbw]; done) | (rw [hbw]; rfl) | exact ⟨by trivial, hLx, hbig⟩ | exact ⟨rfl, hLx, hbig⟩ | omega | exact wrap64_nat (by omega)
          · have hst : stillW (st ⟨⟩) (sp ⟨⟩) (fd ⟨⟩) (runW (st ⟨⟩) (sp ⟨⟩) (fd ⟨⟩) (tm ⟨⟩) (n ⟨⟩) (l ⟨⟩) (k ⟨⟩)) (n ⟨⟩) (w ⟨⟩) = false := hst
            cbv
            refine Br.mk (fun hm => ?_) (fun hm => ?_)
            · have hz := eq_most (k := k ⟨⟩) hq2.1 (beq_iff_eq.1 hm)
              rw [hz, sk_end hst] at hbw
              cbv
              refine Next.mk (.inr fun _ => 7) ⟨by decide, hbw⟩ (by dsimp only; omega) ?_
              cbv
              repeat' (refine Ob.mk ?_ ?_; rotate_left; cbv)
              all_goals (try simp only [Unit.unit, Int.ofNat_lt, Int.ofNat_le, BE.val, IE.val, NE.val, ltB_iff, ltB_no, leB_iff, leB_no, Int.toNat_natCast, Nat.zero_add, Nat.add_zero, Nat.mul_one, forced, beq_iff_eq, beq_eq_false_iff_ne, bne_iff_ne, bne_eq_false_iff_eq] at *)
              all_goals (try simp only [ho0, Nat.zero_add] at *)
              all_goals first | with_reducible rfl | rfl | trivial
            · obtain ⟨hk1, hk2⟩ := ne_most (k := k ⟨⟩) hq2.1 hkq (beq_eq_false_iff_ne.1 hm)
              rw [hk2] at hbw
              clear hm
              cbv
              refine alt_b (fun h => ?_) (fun h => ?_)
              · rw [sk_next hst h] at hbw
                cbv
                repeat' first | (refine Ob.mk ?_ ?_; rotate_left; cbv) | (refine Next.ren [1, 2, 5, 4] (.inl fun _ => k () + 1) ?_ ?_ ?_)
                all_goals (try simp only [Unit.unit, Int.ofNat_lt, Int.ofNat_le, BE.val, IE.val, NE.val, ltB_iff, ltB_no, leB_iff, leB_no, Int.toNat_natCast, Nat.zero_add, Nat.add_zero, Nat.mul_one, forced, beq_iff_eq, beq_eq_false_iff_ne, bne_iff_ne, bne_eq_false_iff_eq] at *)
                all_goals (try simp only [ho0, Nat.zero_add] at *)
                all_goals first | with_reducible rfl | omega | exact wrap64_nat (by omega) | exact ⟨by omega, hbw⟩ | rfl | exact ⟨by trivial, hLx, hbig⟩ | trivial
              · rw [sk_stop hst h] at hbw
                cbv
                repeat' first | (refine Ob.mk ?_ ?_; rotate_left; cbv) | (refine Next.mk (.inr fun _ => 4) ?_ ?_ ?_)
                all_goals (try simp only [Unit.unit, Int.ofNat_lt, Int.ofNat_le, BE.val, IE.val, NE.val, ltB_iff, ltB_no, leB_iff, leB_no, Int.toNat_natCast, Nat.zero_add, Nat.add_zero, Nat.mul_one, forced, beq_iff_eq, beq_eq_false_iff_ne, bne_iff_ne, bne_eq_false_iff_eq] at *)
                all_goals (try simp only [ho0, Nat.zero_add] at *)
                all_goals first | with_reducible rfl | omega | exact ⟨by decide, hbw⟩ | rfl | exact ⟨by trivial, hLx, hbig⟩ | trivial
        · have hc1 : c ⟨⟩ ≠ 0 := hi.1
          have hbw : settleC (st ⟨⟩) (sp ⟨⟩) (fd ⟨⟩) (l ⟨⟩) (n ⟨⟩) (tm ⟨⟩) (w ⟨⟩) (q ⟨⟩) = (c ⟨⟩, 0) := hi.2
          exact absurd (beq_iff_eq.1 hc) (by rw [hbw]; exact hc1)
    · cases hs
  · cases hs
def s45F : Spec := hspec fun args H => match args, H with
  | [.a [.f .f32 st, .f .f32 sp, .f .f32 fd, .sl 0 (.x o) (.x n)], .c (.f .f32 tm), .c (.f .f32 w), .c (.i .i64 (.x q))], [some ⟨false, 0, x⟩] => match x.toFl with
    | some l => some (.t [.a [.f .f32 fun _ => 0, .f .f32 fun _ => 0, .f .f32 fun _ => 0, .sn], vI 0, vI (settleC (st ()) (sp ()) (fd ()) (l ()) (n ()) (tm ()) (w ()) (q ())).1], [none], [fun _ => ((settleC (st ()) (sp ()) (fd ()) (l ()) (n ()) (tm ()) (w ()) (q ())).1 == 0) = false, fun _ => o () = 0 ∧ (l ()).length = 3 * n () ∧ n () ≤ 1048576])
    | _ => none
  | _, _ => none
def E45F : Env := fun g => envGetL [(106, ⟨true, s106, none⟩), (93, ⟨true, s93, none⟩), (107, ⟨true, s107, none⟩), (92, ⟨true, s92, none⟩), (89, ⟨true, s89, none⟩), (108, ⟨true, s108, none⟩), (109, ⟨true, sNo, some (s109T, s109F)⟩)] g
theorem E45Fok : EnvOk Try.prog E45F := envOk_cons ok106 (envOk_cons ok93 (envOk_cons ok107 (envOk_cons ok92 (envOk_cons ok89 (envOk_cons ok108 (envOk_alt ok109T ok109F (envOk_nil _)))))))
set_option maxRecDepth 100000 in
set_option maxHeartbeats 4000000 in
theorem ok45F : Ok Try.prog 45 (s45F) := ok_of_wpaH (E := E45F) mixed tts E45Fok fn45 fun args H v H' o hs ho => by
  split at hs
  · rename_i st sp fd o n tm w q x
    split at hs
    · rename_i l hl
      cases hs
      obtain ⟨hc, ⟨ho0, hlen, hbig⟩⟩ := ho.two
      try simp only [Unit.unit] at hc ho0 hlen hbig
      refine ⟨_, HLe.cons (BLe.fl hl) HLe.nil, ?_⟩
      by_cases hg : webOk (st ⟨⟩) (sp ⟨⟩) (fd ⟨⟩) (l ⟨⟩) (n ⟨⟩) = true ∧ (isTime (tm ⟨⟩) && isFilm (w ⟨⟩) && isCount (q ⟨⟩)) = true
      rotate_left
      · have hbw := settle_g hg
        have hgn := given_no hg
        have fS : isTime (tm ⟨⟩) = true → isPlain (w ⟨⟩) = true → fcmp .geq .f32 (w ⟨⟩) 0 = true → (isTime (tm ⟨⟩) && isFilm (w ⟨⟩) && isCount (q ⟨⟩)) = isCount (q ⟨⟩) := fun h1 h2 h3 => by rw [h1, film_of h3 h2]; rfl
        have fA : isTime (tm ⟨⟩) = false → (isTime (tm ⟨⟩) && isFilm (w ⟨⟩) && isCount (q ⟨⟩)) = false := fun h1 => by rw [h1]; rfl
        have fB : isPlain (w ⟨⟩) = false → (isTime (tm ⟨⟩) && isFilm (w ⟨⟩) && isCount (q ⟨⟩)) = false := fun h1 => by rw [film_np h1]; simp
        have fC : fcmp .geq .f32 (w ⟨⟩) 0 = false → (isTime (tm ⟨⟩) && isFilm (w ⟨⟩) && isCount (q ⟨⟩)) = false := fun h1 => by rw [film_ng h1]; simp
        cbv
        repeat' first
          | (refine Br.mk (fun h => ?_) (fun h => ?_) <;> cbv)
          | (refine Ob.mk ?_ ?_; rotate_left; cbv)
        all_goals try (first | exact ⟨ho0, hlen, hbig⟩ | with_reducible rfl)
        all_goals
          refine Loop.mk 1 ?_
          cbv
          refine Gen.same ?_
          cbv
          first | rw [fS (by assumption) (by assumption) (by assumption)] at hbw hgn | rw [fA (by assumption)] at hbw hgn | rw [fB (by assumption)] at hbw hgn | rw [fC (by assumption)] at hbw hgn
          refine Br.mk (fun hz => ?_) (fun hz => ?_)
          · exact absurd (beq_iff_eq.1 hz) hgn
          · clear hz
            cbv
            repeat' (refine Ob.mk ?_ ?_; rotate_left; cbv)
            all_goals (try simp only [Unit.unit, BE.val, IE.val, NE.val] at *)
            all_goals first | with_reducible rfl | (rw [hbw]; done) | (rw [hbw]; rfl)
      obtain ⟨hv', hf⟩ := hg
      obtain ⟨hf1, hf2, hf3⟩ := fineS hf
      have hf4 := film_lo hf2
      have hf5 := film_plain hf2
      have hq2 : 0 ≤ q ⟨⟩ ∧ q ⟨⟩ ≤ 1000 := count_le hf3
      have hgo := settle_go hv' hf
      cbv
      repeat' first
        | (refine Br.mk (fun h => ?_) (fun h => ?_) <;> cbv)
        | (refine Ob.mk ?_ ?_; rotate_left; cbv)
      all_goals try (first | exact ⟨ho0, hlen, hbig⟩ | with_reducible rfl | (exfalso; simp_all; done))
      refine loop_rule (α := (Unit → Nat) ⊕ (Unit → Int)) (c := ⟨tt, E45F, 1⟩)
          (fun a => match a with | .inl k => fr 50 [(1, .c (.f .f32 tm)), (2, .c (.f .f32 w)), (3, .c (.i .i64 (.x q))), (8, .c (.p 2 (.l 0))), (12, .c (.i .i64 (.l 0))), (13, .c (.p 4 (.l 0))), (14, .c (.i .i64 (.x fun _ => k ())))] | .inr c => fr 50 [(8, .c (.p 2 (.l 0))), (12, .c (.i .i64 (.x fun _ => c ())))]) (fun a => match a with | .inl k => [some ⟨false, 0, .fl l⟩, none, some ⟨true, 0, .lit [.f .f32 fun _ => 0, .f .f32 fun _ => 0, .f .f32 fun _ => 0, .sn]⟩, some ⟨true, 3, .fl fun _ => runW (st ()) (sp ()) (fd ()) (tm ()) (n ()) (l ()) (k ())⟩, some ⟨true, 0, .lit [.f .f32 st, .f .f32 sp, .f .f32 fd, .sl 3 (.l 0) (.x n)]⟩] | .inr c => [some ⟨false, 0, .fl l⟩, none, some ⟨true, 0, .lit [.f .f32 fun _ => 0, .f .f32 fun _ => 0, .f .f32 fun _ => 0, .sn]⟩])
          (fun a => match a with | .inl k => k () ≤ (q ()).toNat ∧ settleC (st ()) (sp ()) (fd ()) (l ()) (n ()) (tm ()) (w ()) (q ()) = settleK (st ()) (sp ()) (fd ()) (tm ()) (n ()) (w ()) ((q ()).toNat - k ()) (k ()) (runW (st ()) (sp ()) (fd ()) (tm ()) (n ()) (l ()) (k ())) | .inr c => c () ≠ 0 ∧ settleC (st ()) (sp ()) (fd ()) (l ()) (n ()) (tm ()) (w ()) (q ()) = (c (), 0)) (fun a => match a with | .inl k => (q ()).toNat - k () + 1 | .inr c => 0) (fun _ => (q ()).toNat + 2) ?_ ?_
      · refine .mk (.inl fun _ => 0) ⟨Nat.zero_le _, hgo⟩ (by dsimp only; omega) ?_
        cbv
        repeat' (refine Ob.mk ?_ ?_; rotate_left)
        all_goals (try simp only [Unit.unit, Int.ofNat_lt, Int.ofNat_le, BE.val, IE.val, NE.val, ltB_iff, ltB_no, leB_iff, leB_no, Int.toNat_natCast, Nat.zero_add, Nat.add_zero, Nat.mul_one, forced, beq_iff_eq, beq_eq_false_iff_ne, bne_iff_ne, bne_eq_false_iff_eq] at *)
        all_goals first | with_reducible rfl | trivial | exact given_0 ⟨by simp_all, by simp_all⟩ | (rw [given_0 ⟨by simp_all, by simp_all⟩]; done) | (simp only [ho0, List.nil_append, seg_all hlen]; done) | rfl
      · rintro (k | c) hi
        · have hLx : (runW (st ⟨⟩) (sp ⟨⟩) (fd ⟨⟩) (tm ⟨⟩) (n ⟨⟩) (l ⟨⟩) (k ⟨⟩)).length = 3 * n ⟨⟩ := runW_len (st ⟨⟩) (sp ⟨⟩) (fd ⟨⟩) (tm ⟨⟩) (n ⟨⟩) (l ⟨⟩) hlen (k ⟨⟩)
          have hkq : k ⟨⟩ ≤ (q ⟨⟩).toNat := hi.1
          have hbw : settleC (st ⟨⟩) (sp ⟨⟩) (fd ⟨⟩) (l ⟨⟩) (n ⟨⟩) (tm ⟨⟩) (w ⟨⟩) (q ⟨⟩) = settleK (st ⟨⟩) (sp ⟨⟩) (fd ⟨⟩) (tm ⟨⟩) (n ⟨⟩) (w ⟨⟩) ((q ⟨⟩).toNat - k ⟨⟩) (k ⟨⟩) (runW (st ⟨⟩) (sp ⟨⟩) (fd ⟨⟩) (tm ⟨⟩) (n ⟨⟩) (l ⟨⟩) (k ⟨⟩)) := hi.2
          cbv
          refine Ob.mk ⟨by trivial, hLx, hbig⟩ ?_
          cbv
          refine Br.mk (fun hst => ?_) (fun hst => ?_)
          · have hst : stillW (st ⟨⟩) (sp ⟨⟩) (fd ⟨⟩) (runW (st ⟨⟩) (sp ⟨⟩) (fd ⟨⟩) (tm ⟨⟩) (n ⟨⟩) (l ⟨⟩) (k ⟨⟩)) (n ⟨⟩) (w ⟨⟩) = true := hst
            rw [sk_hit hst] at hbw
            exact absurd hc (by rw [hbw]; simp)
          · have hst : stillW (st ⟨⟩) (sp ⟨⟩) (fd ⟨⟩) (runW (st ⟨⟩) (sp ⟨⟩) (fd ⟨⟩) (tm ⟨⟩) (n ⟨⟩) (l ⟨⟩) (k ⟨⟩)) (n ⟨⟩) (w ⟨⟩) = false := hst
            cbv
            refine Br.mk (fun hm => ?_) (fun hm => ?_)
            · have hz := eq_most (k := k ⟨⟩) hq2.1 (beq_iff_eq.1 hm)
              rw [hz, sk_end hst] at hbw
              cbv
              refine Next.mk (.inr fun _ => 7) ⟨by decide, hbw⟩ (by dsimp only; omega) ?_
              cbv
              repeat' (refine Ob.mk ?_ ?_; rotate_left; cbv)
              all_goals (try simp only [Unit.unit, Int.ofNat_lt, Int.ofNat_le, BE.val, IE.val, NE.val, ltB_iff, ltB_no, leB_iff, leB_no, Int.toNat_natCast, Nat.zero_add, Nat.add_zero, Nat.mul_one, forced, beq_iff_eq, beq_eq_false_iff_ne, bne_iff_ne, bne_eq_false_iff_eq] at *)
              all_goals (try simp only [ho0, Nat.zero_add] at *)
              all_goals first | with_reducible rfl | rfl | trivial
            · obtain ⟨hk1, hk2⟩ := ne_most (k := k ⟨⟩) hq2.1 hkq (beq_eq_false_iff_ne.1 hm)
              rw [hk2] at hbw
              clear hm
              cbv
              refine alt_b (fun h => ?_) (fun h => ?_)
              · rw [sk_next hst h] at hbw
                cbv
                repeat' first | (refine Ob.mk ?_ ?_; rotate_left; cbv) | (refine Next.ren [1, 2, 5, 4] (.inl fun _ => k () + 1) ?_ ?_ ?_)
                all_goals (try simp only [Unit.unit, Int.ofNat_lt, Int.ofNat_le, BE.val, IE.val, NE.val, ltB_iff, ltB_no, leB_iff, leB_no, Int.toNat_natCast, Nat.zero_add, Nat.add_zero, Nat.mul_one, forced, beq_iff_eq, beq_eq_false_iff_ne, bne_iff_ne, bne_eq_false_iff_eq] at *)
                all_goals (try simp only [ho0, Nat.zero_add] at *)
                all_goals first | with_reducible rfl | omega | exact wrap64_nat (by omega) | exact ⟨by omega, hbw⟩ | rfl | exact ⟨by trivial, hLx, hbig⟩ | trivial
              · rw [sk_stop hst h] at hbw
                cbv
                repeat' first | (refine Ob.mk ?_ ?_; rotate_left; cbv) | (refine Next.mk (.inr fun _ => 4) ?_ ?_ ?_)
                all_goals (try simp only [Unit.unit, Int.ofNat_lt, Int.ofNat_le, BE.val, IE.val, NE.val, ltB_iff, ltB_no, leB_iff, leB_no, Int.toNat_natCast, Nat.zero_add, Nat.add_zero, Nat.mul_one, forced, beq_iff_eq, beq_eq_false_iff_ne, bne_iff_ne, bne_eq_false_iff_eq] at *)
                all_goals (try simp only [ho0, Nat.zero_add] at *)
                all_goals first | with_reducible rfl | omega | exact ⟨by decide, hbw⟩ | rfl | exact ⟨by trivial, hLx, hbig⟩ | trivial
        · have hc1 : c ⟨⟩ ≠ 0 := hi.1
          have hbw : settleC (st ⟨⟩) (sp ⟨⟩) (fd ⟨⟩) (l ⟨⟩) (n ⟨⟩) (tm ⟨⟩) (w ⟨⟩) (q ⟨⟩) = (c ⟨⟩, 0) := hi.2
          cbv
          refine Br.mk (fun h => ?_) (fun h => ?_)
          · exact absurd (beq_iff_eq.1 h) hc1
          · clear h
            cbv
            repeat' (refine Ob.mk ?_ ?_; rotate_left; cbv)
            all_goals (try simp only [Unit.unit, Int.ofNat_lt, Int.ofNat_le, BE.val, IE.val, NE.val, ltB_iff, ltB_no, leB_iff, leB_no, Int.toNat_natCast, Nat.zero_add, Nat.add_zero, Nat.mul_one, forced, beq_iff_eq, beq_eq_false_iff_ne, bne_iff_ne, bne_eq_false_iff_eq] at *)
            all_goals (try simp only [ho0, Nat.zero_add] at *)
            all_goals first | with_reducible rfl | rfl | (rw [hbw]; done) | (rw [hbw]; rfl) | exact ⟨by trivial, hLx, hbig⟩ | exact ⟨rfl, hLx, hbig⟩ | omega | exact wrap64_nat (by omega)
    · cases hs
  · cases hs
end Go.Proofs.Ythkjlbggipocdaa.Sh
