/- Sizes of numbers of single precision: what dries stays a number. No condition. -/
import Derived.Test.YtljemkijpbfcaaaShB
set_option linter.unusedVariables false
set_option linter.unusedSimpArgs false
namespace Go.Proofs.Ytljemkijpbfcaaa.Sh
open Go Ieee
/-! ## sizes of words of single precision -/
theorem bin32 : single.binade = 8388608 := by decide
theorem lp32 : single.leastPlace = -149 := by decide
theorem fb32 : (single.fractionBits : Int) = 23 := by decide
theorem cut_up (neg : Bool) {n d k : Nat} (h : n < 2 ^ (k + d)) : Toward.even.cut neg n d ≤ 2 ^ k := by
  unfold Toward.cut
  dsimp only
  have hb : ∀ b : Bool, b.toNat ≤ 1 := fun b => by cases b <;> decide
  have hlow : n / 1 <<< min d (n.log2 + 2) < 2 ^ k := by
    rw [Nat.one_shiftLeft]
    by_cases hd : d ≤ n.log2 + 2
    · rw [Nat.min_eq_left hd]
      exact Nat.div_lt_of_lt_mul (by rw [Nat.pow_add, Nat.mul_comm] at h; exact h)
    · rw [Nat.min_eq_right (by omega)]
      have : n < 2 ^ (n.log2 + 2) := Nat.lt_of_lt_of_le Nat.lt_log2_self (Nat.pow_le_pow_right (by decide) (by omega))
      rw [Nat.div_eq_of_lt this]
      exact Nat.two_pow_pos k
  exact Nat.le_trans (Nat.add_le_add_left (hb _) _) hlow
theorem cut_low (neg : Bool) {n d k : Nat} (h : 2 ^ (k + d) ≤ n) : 2 ^ k ≤ Toward.even.cut neg n d := by
  unfold Toward.cut
  dsimp only
  refine Nat.le_trans ?_ (Nat.le_add_right _ _)
  rw [Nat.one_shiftLeft, Nat.le_div_iff_mul_le (Nat.two_pow_pos _)]
  refine Nat.le_trans (Nat.mul_le_mul_left _ (Nat.pow_le_pow_right (by decide) (Nat.min_le_left d _))) ?_
  rw [← Nat.pow_add]; exact h
/-- the place of the last digit that is kept, and what is kept -/
def lastOf (m : Nat) (p : Int) : Int := max (p + m.log2 - 23) (-149)
def keptOf (s : Bool) (m : Nat) (p : Int) : Nat := Toward.even.cut s (m <<< (p - lastOf m p).toNat) (lastOf m p - p).toNat
theorem nearest_eq (s : Bool) {m : Nat} (hm : m ≠ 0) (p : Int) : single.nearest s m p = single.word s (min ((lastOf m p + 149).toNat * 8388608 + keptOf s m p) 2139095040) := by
  unfold Format.nearest
  rw [if_neg hm]
  simp only [bin32, lp32, inf32, fb32]
  rfl
theorem kept_up (s : Bool) {m : Nat} (p : Int) : keptOf s m p ≤ 16777216 := by
  unfold keptOf
  refine cut_up (k := 24) s ?_
  rw [Nat.shiftLeft_eq]
  have h1 : m < 2 ^ (m.log2 + 1) := Nat.lt_log2_self
  have h2 : m.log2 + 1 + (p - lastOf m p).toNat ≤ 24 + (lastOf m p - p).toNat := by unfold lastOf; omega
  refine Nat.lt_of_lt_of_le (Nat.mul_lt_mul_of_pos_right h1 (Nat.two_pow_pos _)) ?_
  rw [← Nat.pow_add]
  exact Nat.pow_le_pow_right (by decide) h2
theorem kept_low (s : Bool) {m : Nat} (hm : m ≠ 0) {p : Int} (h : -126 ≤ p + m.log2) : 8388608 ≤ keptOf s m p := by
  unfold keptOf
  refine cut_low (k := 23) s ?_
  rw [Nat.shiftLeft_eq]
  have h1 : 2 ^ m.log2 ≤ m := Nat.log2_self_le hm
  have h2 : 23 + (lastOf m p - p).toNat ≤ m.log2 + (p - lastOf m p).toNat := by unfold lastOf; omega
  refine Nat.le_trans (Nat.pow_le_pow_right (by decide) h2) ?_
  rw [Nat.pow_add]
  exact Nat.mul_le_mul_right _ h1
theorem word_mod (s : Bool) {r : Nat} (h : r ≤ 2139095040) : single.word s r % 2147483648 = r := by
  unfold Format.word
  rw [sgn32]
  cases s
  · simp only [Bool.false_eq_true, if_false]; exact Nat.mod_eq_of_lt (by omega)
  · simp only [if_true]; rw [Nat.add_mod_left]; exact Nat.mod_eq_of_lt (by omega)
theorem word_neg (s : Bool) {r : Nat} (h : r ≤ 2139095040) : (single.word s r / 2147483648 % 2 == 1) = s := by
  unfold Format.word
  rw [sgn32]
  cases s
  · simp only [Bool.false_eq_true, if_false]; rw [Nat.div_eq_of_lt (by omega)]; rfl
  · simp only [if_true]; rw [show (2147483648 + r) / 2147483648 = 1 by omega]; rfl
/-- what a word stands for -/
theorem read_word (s : Bool) {r : Nat} (h : r ≤ 2139095040) : single.read (single.word s r) =
    if r < 8388608 then .number s r (-149) else if r < 2139095040 then .number s (8388608 + r % 8388608) (-149 + (r / 8388608 - 1 : Nat)) else .infinity s := by
  unfold Format.read
  simp only [sgn32, bin32, lp32, inf32, word_mod s h, word_neg s h]
  split
  · rfl
  · split
    · rfl
    · rw [if_pos (by omega)]
/-- a number that is not too great stays one -/
theorem read_near (s : Bool) {m : Nat} {p : Int} (h : m = 0 ∨ p + m.log2 ≤ 120) : ∃ n j, single.read (single.nearest s m p) = .number s n j ∧ (m = 0 → n = 0) := by
  by_cases hm : m = 0
  · subst hm
    unfold Format.nearest
    rw [if_pos rfl, read_word s (by decide)]
    exact ⟨_, _, rfl, fun _ => rfl⟩
  · have hk := kept_up s (m := m) p
    have hl : lastOf m p + 149 ≤ 246 := by unfold lastOf; omega
    have hr : (lastOf m p + 149).toNat * 8388608 + keptOf s m p < 2139095040 := by omega
    rw [nearest_eq s hm, Nat.min_eq_left (Nat.le_of_lt hr), read_word s (Nat.le_of_lt hr)]
    split
    · exact ⟨_, _, rfl, fun h => absurd h hm⟩
    · exact ⟨_, _, rfl, fun h => absurd h hm⟩
/-- a number of 1 or more stays one, or is infinity -/
theorem read_great (s : Bool) {m : Nat} (hm : m ≠ 0) {p : Int} (h : 0 ≤ p + m.log2) : single.read (single.nearest s m p) = .infinity s ∨ ∃ n j, single.read (single.nearest s m p) = .number s n j ∧ n ≠ 0 ∧ 0 ≤ j + n.log2 := by
  have hk := kept_low s hm (p := p) (by omega)
  have hl : 126 ≤ lastOf m p + 149 := by unfold lastOf; omega
  rw [nearest_eq s hm]
  generalize hR : (lastOf m p + 149).toNat * 8388608 + keptOf s m p = R
  have hR1 : 1065353216 ≤ R := by omega
  rw [read_word s (Nat.min_le_right _ _)]
  rw [if_neg (by omega)]
  split
  · rename_i h1
    right
    rw [Nat.min_eq_left (by omega)] at h1 ⊢
    refine ⟨_, _, rfl, by omega, ?_⟩
    have : 23 ≤ (8388608 + R % 8388608).log2 := by
      rw [Nat.le_log2 (by omega)]
      omega
    omega
  · exact .inl rfl
/-- a number, and how great it is at most -/
theorem read_num {w : Nat} {s : Bool} {m : Nat} {i : Int} (h : single.read w = .number s m i) : m < 16777216 ∧ -149 ≤ i := by
  unfold Format.read at h
  simp only [sgn32, bin32, lp32, inf32] at h
  split at h
  · cases h; omega
  · split at h
    · cases h; omega
    · split at h <;> cases h
theorem cmp_le {a b : Int} (h : compare a b = .lt ∨ compare a b = .eq) : a ≤ b := by
  simp only [compare, compareOfLessAndEq] at h
  repeat' split at h
  all_goals simp at h
  all_goals omega
theorem cmp_ge {a b : Int} (h : compare a b = .gt ∨ compare a b = .eq) : b ≤ a := by
  simp only [compare, compareOfLessAndEq] at h
  repeat' split at h
  all_goals simp at h
  all_goals omega
/-- from 0 up to 2 to the k -/
theorem isIn_num {w c : Nat} {j : Int} (hc : single.read c = .number false 8388608 j) (h : (fcmp .geq .f32 w 0 && fcmp .leq .f32 w c) = true) :
    ∃ s m i, single.read w = .number s m i ∧ (s = true → m = 0) ∧ (m = 0 ∨ i + m.log2 ≤ j + 23) := by
  have h0 : single.read 0 = .number false 0 (-149) := by decide
  simp only [fcmp, Bool.and_eq_true, Bool.or_eq_true, beq_iff_eq] at h
  obtain ⟨g1, g2⟩ := h
  have g1 : (single.read w).order (single.read 0) = some .gt ∨ (single.read w).order (single.read 0) = some .eq := g1
  have g2 : (single.read w).order (single.read c) = some .lt ∨ (single.read w).order (single.read c) = some .eq := g2
  rw [h0] at g1
  rw [hc] at g2
  cases hw : single.read w with
  | nan s t => rw [hw] at g1; simp [Datum.order] at g1
  | infinity s => rw [hw] at g1 g2; cases s <;> simp [Datum.order] at g1 g2
  | number s m i =>
    rw [hw] at g1 g2
    simp only [Datum.order, Option.some.injEq] at g1 g2
    have k1 := cmp_ge g1
    have k2 := cmp_le g2
    refine ⟨s, m, i, rfl, fun hs => ?_, ?_⟩
    · subst hs
      simp only [signed, if_true, Bool.false_eq_true, if_false, Nat.shiftLeft_eq, Nat.zero_mul] at k1
      have : 0 < 2 ^ (i - min i (-149)).toNat := Nat.two_pow_pos _
      rcases Nat.eq_zero_or_pos m with h | h
      · exact h
      · have := Nat.mul_pos h this
        omega
    · by_cases hm : m = 0
      · exact .inl hm
      · right
        cases s with
        | true =>
          simp only [signed, if_true, Bool.false_eq_true, if_false, Nat.shiftLeft_eq, Nat.zero_mul] at k1
          have := Nat.mul_pos (Nat.pos_of_ne_zero hm) (Nat.two_pow_pos (i - min i (-149)).toNat)
          omega
        | false =>
          simp only [signed, Bool.false_eq_true, if_false, Nat.shiftLeft_eq] at k2
          have k2 : m * 2 ^ (i - min i j).toNat ≤ 8388608 * 2 ^ (j - min i j).toNat := by omega
          have hlog := Nat.log2_self_le hm
          have h3 : 2 ^ (m.log2 + (i - min i j).toNat) ≤ 2 ^ (23 + (j - min i j).toNat) := by
            rw [Nat.pow_add, Nat.pow_add]
            exact Nat.le_trans (Nat.mul_le_mul_right _ hlog) k2
          have h4 := (Nat.pow_le_pow_iff_right (a := 2) (by decide)).1 h3
          omega
theorem fop_mul_num {a b : Nat} {s t : Bool} {m n : Nat} {i j : Int} (ha : single.read a = .number s m i) (hb : single.read b = .number t n j) : fop .mul .f32 a b = single.nearest (s ^^ t) (m * n) (i + j) := by
  unfold fop
  show (Option.map single.write ((single.read a).product (single.read b))).getD _ = _
  rw [ha, hb]; rfl
theorem fop_add_num {a b : Nat} {s t : Bool} {m n : Nat} {i j : Int} (ha : single.read a = .number s m i) (hb : single.read b = .number t n j) : fop .add .f32 a b = single.write ((Datum.number s m i).sum (.number t n j) |>.getD (.infinity s)) := by
  unfold fop
  show (Option.map single.write ((single.read a).sum (single.read b))).getD _ = _
  rw [ha, hb]; rfl
/-- a film that dries stays a number -/
theorem dry_num {w r t d : Nat} {sw sr st : Bool} {mw mr mt : Nat} {iw ir it : Int} (hw : single.read w = .number sw mw iw) (bw : mw = 0 ∨ iw + mw.log2 ≤ 40)
    (hr : single.read r = .number sr mr ir) (nr : sr = true → mr = 0) (br : mr = 0 ∨ ir + mr.log2 ≤ 40) (ht : single.read t = .number st mt it) (nt : st = true → mt = 0) (bt : mt = 0 ∨ it + mt.log2 ≤ 40)
    (hd : d = fop .quo .f32 w (fop .add .f32 1065353216 (fop .mul .f32 r t))) : ∃ s m i, single.read d = .number s m i := by
  have hb : mr * mt = 0 ∨ ir + it + (mr * mt).log2 ≤ 120 := by
    by_cases h0 : mr * mt = 0
    · exact .inl h0
    · right
      have h1 : mr ≠ 0 := fun e => h0 (by rw [e, Nat.zero_mul])
      have h2 : mt ≠ 0 := fun e => h0 (by rw [e, Nat.mul_zero])
      have l1 : mr < 2 ^ (mr.log2 + 1) := Nat.lt_log2_self
      have l2 : mt < 2 ^ (mt.log2 + 1) := Nat.lt_log2_self
      have l3 : mr * mt < 2 ^ (mr.log2 + 1 + (mt.log2 + 1)) := by
        rw [Nat.pow_add]
        exact Nat.mul_lt_mul'' l1 l2
      have := (Nat.log2_lt h0).2 l3
      omega
  obtain ⟨p, k, hx, hp⟩ := read_near (sr ^^ st) hb
  rw [← fop_mul_num hr ht] at hx
  have h1 : single.read 1065353216 = .number false 8388608 (-23) := by decide
  have hp0 : (sr ^^ st) = true → p = 0 := fun h => hp (by
    cases sr with
    | true => rw [nr rfl, Nat.zero_mul]
    | false =>
      cases st with
      | true => rw [nt rfl, Nat.mul_zero]
      | false => cases h)
  have hsum : ∃ m : Nat, m ≠ 0 ∧ 0 ≤ min (-23) k + (m.log2 : Int) ∧ fop .add .f32 1065353216 (fop .mul .f32 r t) = single.nearest false m (min (-23) k) := by
    rw [fop_add_num h1 hx]
    have hs : 0 ≤ signed (sr ^^ st) p (k - min (-23) k).toNat := by
      unfold signed
      split
      · rename_i h; rw [hp0 h]; simp
      · exact Int.natCast_nonneg _
    have h2 : (2 ^ (-min (-23) k).toNat : Nat) ≤ 8388608 <<< (-23 - min (-23) k).toNat := by
      rw [Nat.shiftLeft_eq, show (8388608 : Nat) = 2 ^ 23 from rfl, ← Nat.pow_add]
      exact Nat.pow_le_pow_right (by decide) (by omega)
    have hpos : 0 < 2 ^ (-min (-23) k).toNat := Nat.two_pow_pos _
    have ht : signed false 8388608 (-23 - min (-23) k).toNat = ((8388608 <<< (-23 - min (-23) k).toNat : Nat) : Int) := rfl
    refine ⟨(signed false 8388608 (-23 - min (-23) k).toNat + signed (sr ^^ st) p (k - min (-23) k).toNat).natAbs, by omega, ?_, ?_⟩
    · have : (-min (-23) k).toNat ≤ (signed false 8388608 (-23 - min (-23) k).toNat + signed (sr ^^ st) p (k - min (-23) k).toNat).natAbs.log2 := by
        rw [Nat.le_log2 (by omega)]
        omega
      omega
    · simp only [Datum.sum, Option.getD_some, Format.write]
      rw [if_neg (by omega)]
      congr 1
      exact decide_eq_false (by omega)
  obtain ⟨n, hn, hl, hq⟩ := hsum
  rw [hq] at hd
  subst hd
  have hquo : ∀ x : Datum, ∀ y, single.read y = x → fop .quo .f32 w y = (((Datum.number sw mw iw).quotient 25 x).map single.write).getD (qn .f32) := fun x y e => by
    unfold fop
    show (Option.map single.write ((single.read w).quotient 25 (single.read y))).getD _ = _
    rw [hw, e]
  rcases read_great false hn hl with h | ⟨n', j, h, hn', hl'⟩
  · rw [hquo _ _ h]
    simp only [Datum.quotient, Option.map_some, Option.getD_some, Format.write]
    obtain ⟨a, b, e, _⟩ := read_near (sw ^^ false) (m := 0) (p := 0) (.inl rfl)
    exact ⟨_, _, _, e⟩
  · rw [hquo _ _ h]
    simp only [Datum.quotient, if_neg hn', Option.map_some, Option.getD_some, Format.write]
    have hwm := (read_num hw).1
    obtain ⟨a, b, e, _⟩ := read_near (sw ^^ false) (m := 2 * (mw <<< (25 + n'.log2 - mw.log2) / n') + (mw <<< (25 + n'.log2 - mw.log2) % n' != 0).toNat) (p := iw - j - (25 + n'.log2 - mw.log2 : Nat) - 1) (by
      by_cases h0 : mw = 0
      · left; subst h0; simp
      · right
        have hm23 : mw.log2 ≤ 23 := by
          have := (Nat.log2_lt h0).2 (show mw < 2 ^ 24 from hwm)
          omega
        have hD : mw <<< (25 + n'.log2 - mw.log2) / n' < 67108864 := by
          refine Nat.div_lt_of_lt_mul ?_
          rw [Nat.shiftLeft_eq]
          have l1 : mw < 2 ^ (mw.log2 + 1) := Nat.lt_log2_self
          have l2 : 2 ^ n'.log2 ≤ n' := Nat.log2_self_le hn'
          refine Nat.lt_of_lt_of_le (Nat.mul_lt_mul_of_pos_right l1 (Nat.two_pow_pos _)) ?_
          rw [← Nat.pow_add, show mw.log2 + 1 + (25 + n'.log2 - mw.log2) = n'.log2 + 26 by omega, Nat.pow_add]
          exact Nat.mul_le_mul_right _ l2
        have hb1 : (mw <<< (25 + n'.log2 - mw.log2) % n' != 0).toNat ≤ 1 := by cases (mw <<< (25 + n'.log2 - mw.log2) % n' != 0) <;> decide
        have hQ : (2 * (mw <<< (25 + n'.log2 - mw.log2) / n') + (mw <<< (25 + n'.log2 - mw.log2) % n' != 0).toNat).log2 ≤ 26 := by
          by_cases hz : 2 * (mw <<< (25 + n'.log2 - mw.log2) / n') + (mw <<< (25 + n'.log2 - mw.log2) % n' != 0).toNat = 0
          · rw [hz]; decide
          · have := (Nat.log2_lt hz).2 (show _ < 2 ^ 27 by omega)
            omega
        omega)
    exact ⟨_, _, _, e⟩
/-- a part of what dries is no NaN -/
theorem back_num {w r t p : Nat} (hw : (fcmp .geq .f32 w 0 && fcmp .leq .f32 w 1149239296) = true) (hr : (fcmp .geq .f32 r 0 && fcmp .leq .f32 r 1233125376) = true) (ht : (fcmp .geq .f32 t 0 && fcmp .leq .f32 t 1233125376) = true) (hp : (fcmp .geq .f32 p 0 && fcmp .leq .f32 p 1065353216) = true) :
    (single.read (fop .mul .f32 (fop .quo .f32 w (fop .add .f32 1065353216 (fop .mul .f32 r t))) p)).isNaN = false := by
  obtain ⟨s1, m1, i1, a1, b1, c1⟩ := isIn_num (j := -13) (by decide) hw
  obtain ⟨s2, m2, i2, a2, b2, c2⟩ := isIn_num (j := -3) (by decide) hr
  obtain ⟨s3, m3, i3, a3, b3, c3⟩ := isIn_num (j := -3) (by decide) ht
  obtain ⟨s4, m4, i4, a4, b4, c4⟩ := isIn_num (j := -23) (by decide) hp
  obtain ⟨s, m, i, h⟩ := dry_num a1 (by omega) a2 b2 (by omega) a3 b3 (by omega) rfl
  rw [fop_mul_num h a4]
  exact nan_nearest .f32 _ _ _
/-- two words that are no NaNs stand to each other -/
theorem gtr_leq {a b : Nat} (ha : (single.read a).isNaN = false) (hb : (single.read b).isNaN = false) : fcmp .gtr .f32 a b = !fcmp .leq .f32 a b := by
  simp only [fcmp]
  show ((single.read a).order (single.read b) == some .gt) = !((single.read a).order (single.read b) == some .lt || (single.read a).order (single.read b) == some .eq)
  have : ∃ o, (single.read a).order (single.read b) = some o := by
    cases hx : single.read a <;> cases hy : single.read b <;> rw [hx] at ha <;> rw [hy] at hb <;> simp [Datum.isNaN] at ha hb <;> exact ⟨_, rfl⟩
  obtain ⟨o, e⟩ := this
  rw [e]
  cases o <;> rfl
end Go.Proofs.Ytljemkijpbfcaaa.Sh
