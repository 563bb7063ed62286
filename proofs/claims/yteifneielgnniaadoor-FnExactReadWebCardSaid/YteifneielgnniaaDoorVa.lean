/- Sizes of numbers; digits. No condition. -/
import Derived.Test.YteifneielgnniaaDoorShB
import Derived.Test.YteifneielgnniaaDoorProg
import Derived.KernelRfl
set_option linter.unusedVariables false
set_option linter.unusedSimpArgs false
set_option linter.unusedSectionVars false
section
namespace Go.Proofs.YteifneielgnniaaDoor.Sh
open Go Ieee

/-! ## sizes of words of single precision -/
theorem bin32 : single.binade = 8388608 := by decide
theorem lp32 : single.leastPlace = -149 := by decide
theorem fb32 : (single.fractionBits : Int) = 23 := by decide
theorem cut_up (neg : Bool) {n d k : Nat} (h : n < 2 ^ (k + d)) : Toward.even.cut neg n d ≤ 2 ^ k := by
  unfold Toward.cut
  dsimp only
  have hb : ∀ b : Bool, b.toNat ≤ 1 := fun b => by cases b <;> decide
  have hlow : n / 1 <<< min d (n.log2 + 2) < 2 ^ k := by
    rw [Nat.one_shiftLeft]
    by_cases hd : d ≤ n.log2 + 2
    · rw [Nat.min_eq_left hd]
      exact Nat.div_lt_of_lt_mul (by rw [Nat.pow_add, Nat.mul_comm] at h; exact h)
    · rw [Nat.min_eq_right (by omega)]
      have : n < 2 ^ (n.log2 + 2) := Nat.lt_of_lt_of_le Nat.lt_log2_self (Nat.pow_le_pow_right (by decide) (by omega))
      rw [Nat.div_eq_of_lt this]
      exact Nat.two_pow_pos k
  exact Nat.le_trans (Nat.add_le_add_left (hb _) _) hlow
theorem cut_low (neg : Bool) {n d k : Nat} (h : 2 ^ (k + d) ≤ n) : 2 ^ k ≤ Toward.even.cut neg n d := by
  unfold Toward.cut
  dsimp only
  refine Nat.le_trans ?_ (Nat.le_add_right _ _)
  rw [Nat.one_shiftLeft, Nat.le_div_iff_mul_le (Nat.two_pow_pos _)]
  refine Nat.le_trans (Nat.mul_le_mul_left _ (Nat.pow_le_pow_right (by decide) (Nat.min_le_left d _))) ?_
  rw [← Nat.pow_add]; exact h
/-- the place of the last digit that is kept, and what is kept -/
def lastOf (m : Nat) (p : Int) : Int := max (p + m.log2 - 23) (-149)
def keptOf (s : Bool) (m : Nat) (p : Int) : Nat := Toward.even.cut s (m <<< (p - lastOf m p).toNat) (lastOf m p - p).toNat
theorem nearest_eq (s : Bool) {m : Nat} (hm : m ≠ 0) (p : Int) : single.nearest s m p = single.word s (min ((lastOf m p + 149).toNat * 8388608 + keptOf s m p) 2139095040) := by
  unfold Format.nearest
  rw [if_neg hm]
  simp only [bin32, lp32, inf32, fb32]
  rfl
theorem kept_up (s : Bool) {m : Nat} (p : Int) : keptOf s m p ≤ 16777216 := by
  unfold keptOf
  refine cut_up (k := 24) s ?_
  rw [Nat.shiftLeft_eq]
  have h1 : m < 2 ^ (m.log2 + 1) := Nat.lt_log2_self
  have h2 : m.log2 + 1 + (p - lastOf m p).toNat ≤ 24 + (lastOf m p - p).toNat := by unfold lastOf; omega
  refine Nat.lt_of_lt_of_le (Nat.mul_lt_mul_of_pos_right h1 (Nat.two_pow_pos _)) ?_
  rw [← Nat.pow_add]
  exact Nat.pow_le_pow_right (by decide) h2
theorem kept_low (s : Bool) {m : Nat} (hm : m ≠ 0) {p : Int} (h : -126 ≤ p + m.log2) : 8388608 ≤ keptOf s m p := by
  unfold keptOf
  refine cut_low (k := 23) s ?_
  rw [Nat.shiftLeft_eq]
  have h1 : 2 ^ m.log2 ≤ m := Nat.log2_self_le hm
  have h2 : 23 + (lastOf m p - p).toNat ≤ m.log2 + (p - lastOf m p).toNat := by unfold lastOf; omega
  refine Nat.le_trans (Nat.pow_le_pow_right (by decide) h2) ?_
  rw [Nat.pow_add]
  exact Nat.mul_le_mul_right _ h1
theorem word_mod (s : Bool) {r : Nat} (h : r ≤ 2139095040) : single.word s r % 2147483648 = r := by
  unfold Format.word
  rw [sgn32]
  cases s
  · simp only [Bool.false_eq_true, if_false]; exact Nat.mod_eq_of_lt (by omega)
  · simp only [if_true]; rw [Nat.add_mod_left]; exact Nat.mod_eq_of_lt (by omega)
theorem word_neg (s : Bool) {r : Nat} (h : r ≤ 2139095040) : (single.word s r / 2147483648 % 2 == 1) = s := by
  unfold Format.word
  rw [sgn32]
  cases s
  · simp only [Bool.false_eq_true, if_false]; rw [Nat.div_eq_of_lt (by omega)]; rfl
  · simp only [if_true]; rw [show (2147483648 + r) / 2147483648 = 1 by omega]; rfl
/-- what a word stands for -/
theorem read_word (s : Bool) {r : Nat} (h : r ≤ 2139095040) : single.read (single.word s r) =
    if r < 8388608 then .number s r (-149) else if r < 2139095040 then .number s (8388608 + r % 8388608) (-149 + (r / 8388608 - 1 : Nat)) else .infinity s := by
  unfold Format.read
  simp only [sgn32, bin32, lp32, inf32, word_mod s h, word_neg s h]
  split
  · rfl
  · split
    · rfl
    · rw [if_pos (by omega)]
/-- a number that is not too great stays one -/
theorem read_near (s : Bool) {m : Nat} {p : Int} (h : m = 0 ∨ p + m.log2 ≤ 120) : ∃ n j, single.read (single.nearest s m p) = .number s n j ∧ (m = 0 → n = 0) := by
  by_cases hm : m = 0
  · subst hm
    unfold Format.nearest
    rw [if_pos rfl, read_word s (by decide)]
    exact ⟨_, _, rfl, fun _ => rfl⟩
  · have hk := kept_up s (m := m) p
    have hl : lastOf m p + 149 ≤ 246 := by unfold lastOf; omega
    have hr : (lastOf m p + 149).toNat * 8388608 + keptOf s m p < 2139095040 := by omega
    rw [nearest_eq s hm, Nat.min_eq_left (Nat.le_of_lt hr), read_word s (Nat.le_of_lt hr)]
    split
    · exact ⟨_, _, rfl, fun h => absurd h hm⟩
    · exact ⟨_, _, rfl, fun h => absurd h hm⟩
/-- a number of 1 or more stays one, or is infinity -/
theorem read_great (s : Bool) {m : Nat} (hm : m ≠ 0) {p : Int} (h : 0 ≤ p + m.log2) : single.read (single.nearest s m p) = .infinity s ∨ ∃ n j, single.read (single.nearest s m p) = .number s n j ∧ n ≠ 0 ∧ 0 ≤ j + n.log2 := by
  have hk := kept_low s hm (p := p) (by omega)
  have hl : 126 ≤ lastOf m p + 149 := by unfold lastOf; omega
  rw [nearest_eq s hm]
  generalize hR : (lastOf m p + 149).toNat * 8388608 + keptOf s m p = R
  have hR1 : 1065353216 ≤ R := by omega
  rw [read_word s (Nat.min_le_right _ _)]
  rw [if_neg (by omega)]
  split
  · rename_i h1
    right
    rw [Nat.min_eq_left (by omega)] at h1 ⊢
    refine ⟨_, _, rfl, by omega, ?_⟩
    have : 23 ≤ (8388608 + R % 8388608).log2 := by
      rw [Nat.le_log2 (by omega)]
      omega
    omega
  · exact .inl rfl
/-- a number, and how great it is at most -/
theorem read_num {w : Nat} {s : Bool} {m : Nat} {i : Int} (h : single.read w = .number s m i) : m < 16777216 ∧ -149 ≤ i := by
  unfold Format.read at h
  simp only [sgn32, bin32, lp32, inf32] at h
  split at h
  · cases h; omega
  · split at h
    · cases h; omega
    · split at h <;> cases h
theorem cmp_le {a b : Int} (h : compare a b = .lt ∨ compare a b = .eq) : a ≤ b := by
  simp only [compare, compareOfLessAndEq] at h
  repeat' split at h
  all_goals simp at h
  all_goals omega
theorem cmp_ge {a b : Int} (h : compare a b = .gt ∨ compare a b = .eq) : b ≤ a := by
  simp only [compare, compareOfLessAndEq] at h
  repeat' split at h
  all_goals simp at h
  all_goals omega
/-- from 0 up to 2 to the k -/
theorem isIn_num {w c : Nat} {j : Int} (hc : single.read c = .number false 8388608 j) (h : (fcmp .geq .f32 w 0 && fcmp .leq .f32 w c) = true) :
    ∃ s m i, single.read w = .number s m i ∧ (s = true → m = 0) ∧ (m = 0 ∨ i + m.log2 ≤ j + 23) := by
  have h0 : single.read 0 = .number false 0 (-149) := by decide
  simp only [fcmp, Bool.and_eq_true, Bool.or_eq_true, beq_iff_eq] at h
  obtain ⟨g1, g2⟩ := h
  have g1 : (single.read w).order (single.read 0) = some .gt ∨ (single.read w).order (single.read 0) = some .eq := g1
  have g2 : (single.read w).order (single.read c) = some .lt ∨ (single.read w).order (single.read c) = some .eq := g2
  rw [h0] at g1
  rw [hc] at g2
  cases hw : single.read w with
  | nan s t => rw [hw] at g1; simp [Datum.order] at g1
  | infinity s => rw [hw] at g1 g2; cases s <;> simp [Datum.order] at g1 g2
  | number s m i =>
    rw [hw] at g1 g2
    simp only [Datum.order, Option.some.injEq] at g1 g2
    have k1 := cmp_ge g1
    have k2 := cmp_le g2
    refine ⟨s, m, i, rfl, fun hs => ?_, ?_⟩
    · subst hs
      simp only [signed, if_true, Bool.false_eq_true, if_false, Nat.shiftLeft_eq, Nat.zero_mul] at k1
      have : 0 < 2 ^ (i - min i (-149)).toNat := Nat.two_pow_pos _
      rcases Nat.eq_zero_or_pos m with h | h
      · exact h
      · have := Nat.mul_pos h this
        omega
    · by_cases hm : m = 0
      · exact .inl hm
      · right
        cases s with
        | true =>
          simp only [signed, if_true, Bool.false_eq_true, if_false, Nat.shiftLeft_eq, Nat.zero_mul] at k1
          have := Nat.mul_pos (Nat.pos_of_ne_zero hm) (Nat.two_pow_pos (i - min i (-149)).toNat)
          omega
        | false =>
          simp only [signed, Bool.false_eq_true, if_false, Nat.shiftLeft_eq] at k2
          have k2 : m * 2 ^ (i - min i j).toNat ≤ 8388608 * 2 ^ (j - min i j).toNat := by omega
          have hlog := Nat.log2_self_le hm
          have h3 : 2 ^ (m.log2 + (i - min i j).toNat) ≤ 2 ^ (23 + (j - min i j).toNat) := by
            rw [Nat.pow_add, Nat.pow_add]
            exact Nat.le_trans (Nat.mul_le_mul_right _ hlog) k2
          have h4 := (Nat.pow_le_pow_iff_right (a := 2) (by decide)).1 h3
          omega
theorem fop_mul_num {a b : Nat} {s t : Bool} {m n : Nat} {i j : Int} (ha : single.read a = .number s m i) (hb : single.read b = .number t n j) : fop .mul .f32 a b = single.nearest (s ^^ t) (m * n) (i + j) := by
  unfold fop
  show (Option.map single.write ((single.read a).product (single.read b))).getD _ = _
  rw [ha, hb]; rfl
theorem fop_add_num {a b : Nat} {s t : Bool} {m n : Nat} {i j : Int} (ha : single.read a = .number s m i) (hb : single.read b = .number t n j) : fop .add .f32 a b = single.write ((Datum.number s m i).sum (.number t n j) |>.getD (.infinity s)) := by
  unfold fop
  show (Option.map single.write ((single.read a).sum (single.read b))).getD _ = _
  rw [ha, hb]; rfl
/-- a film that dries stays a number -/
theorem dry_num {w r t d : Nat} {sw sr st : Bool} {mw mr mt : Nat} {iw ir it : Int} (hw : single.read w = .number sw mw iw) (bw : mw = 0 ∨ iw + mw.log2 ≤ 40)
    (hr : single.read r = .number sr mr ir) (nr : sr = true → mr = 0) (br : mr = 0 ∨ ir + mr.log2 ≤ 40) (ht : single.read t = .number st mt it) (nt : st = true → mt = 0) (bt : mt = 0 ∨ it + mt.log2 ≤ 40)
    (hd : d = fop .quo .f32 w (fop .add .f32 1065353216 (fop .mul .f32 r t))) : ∃ s m i, single.read d = .number s m i := by
  have hb : mr * mt = 0 ∨ ir + it + (mr * mt).log2 ≤ 120 := by
    by_cases h0 : mr * mt = 0
    · exact .inl h0
    · right
      have h1 : mr ≠ 0 := fun e => h0 (by rw [e, Nat.zero_mul])
      have h2 : mt ≠ 0 := fun e => h0 (by rw [e, Nat.mul_zero])
      have l1 : mr < 2 ^ (mr.log2 + 1) := Nat.lt_log2_self
      have l2 : mt < 2 ^ (mt.log2 + 1) := Nat.lt_log2_self
      have l3 : mr * mt < 2 ^ (mr.log2 + 1 + (mt.log2 + 1)) := by
        rw [Nat.pow_add]
        exact Nat.mul_lt_mul'' l1 l2
      have := (Nat.log2_lt h0).2 l3
      omega
  obtain ⟨p, k, hx, hp⟩ := read_near (sr ^^ st) hb
  rw [← fop_mul_num hr ht] at hx
  have h1 : single.read 1065353216 = .number false 8388608 (-23) := by decide
  have hp0 : (sr ^^ st) = true → p = 0 := fun h => hp (by
    cases sr with
    | true => rw [nr rfl, Nat.zero_mul]
    | false =>
      cases st with
      | true => rw [nt rfl, Nat.mul_zero]
      | false => cases h)
  have hsum : ∃ m : Nat, m ≠ 0 ∧ 0 ≤ min (-23) k + (m.log2 : Int) ∧ fop .add .f32 1065353216 (fop .mul .f32 r t) = single.nearest false m (min (-23) k) := by
    rw [fop_add_num h1 hx]
    have hs : 0 ≤ signed (sr ^^ st) p (k - min (-23) k).toNat := by
      unfold signed
      split
      · rename_i h; rw [hp0 h]; simp
      · exact Int.natCast_nonneg _
    have h2 : (2 ^ (-min (-23) k).toNat : Nat) ≤ 8388608 <<< (-23 - min (-23) k).toNat := by
      rw [Nat.shiftLeft_eq, show (8388608 : Nat) = 2 ^ 23 from rfl, ← Nat.pow_add]
      exact Nat.pow_le_pow_right (by decide) (by omega)
    have hpos : 0 < 2 ^ (-min (-23) k).toNat := Nat.two_pow_pos _
    have ht : signed false 8388608 (-23 - min (-23) k).toNat = ((8388608 <<< (-23 - min (-23) k).toNat : Nat) : Int) := rfl
    refine ⟨(signed false 8388608 (-23 - min (-23) k).toNat + signed (sr ^^ st) p (k - min (-23) k).toNat).natAbs, by omega, ?_, ?_⟩
    · have : (-min (-23) k).toNat ≤ (signed false 8388608 (-23 - min (-23) k).toNat + signed (sr ^^ st) p (k - min (-23) k).toNat).natAbs.log2 := by
        rw [Nat.le_log2 (by omega)]
        omega
      omega
    · simp only [Datum.sum, Option.getD_some, Format.write]
      rw [if_neg (by omega)]
      congr 1
      exact decide_eq_false (by omega)
  obtain ⟨n, hn, hl, hq⟩ := hsum
  rw [hq] at hd
  subst hd
  have hquo : ∀ x : Datum, ∀ y, single.read y = x → fop .quo .f32 w y = (((Datum.number sw mw iw).quotient 25 x).map single.write).getD (qn .f32) := fun x y e => by
    unfold fop
    show (Option.map single.write ((single.read w).quotient 25 (single.read y))).getD _ = _
    rw [hw, e]
  rcases read_great false hn hl with h | ⟨n', j, h, hn', hl'⟩
  · rw [hquo _ _ h]
    simp only [Datum.quotient, Option.map_some, Option.getD_some, Format.write]
    obtain ⟨a, b, e, _⟩ := read_near (sw ^^ false) (m := 0) (p := 0) (.inl rfl)
    exact ⟨_, _, _, e⟩
  · rw [hquo _ _ h]
    simp only [Datum.quotient, if_neg hn', Option.map_some, Option.getD_some, Format.write]
    have hwm := (read_num hw).1
    obtain ⟨a, b, e, _⟩ := read_near (sw ^^ false) (m := 2 * (mw <<< (25 + n'.log2 - mw.log2) / n') + (mw <<< (25 + n'.log2 - mw.log2) % n' != 0).toNat) (p := iw - j - (25 + n'.log2 - mw.log2 : Nat) - 1) (by
      by_cases h0 : mw = 0
      · left; subst h0; simp
      · right
        have hm23 : mw.log2 ≤ 23 := by
          have := (Nat.log2_lt h0).2 (show mw < 2 ^ 24 from hwm)
          omega
        have hD : mw <<< (25 + n'.log2 - mw.log2) / n' < 67108864 := by
          refine Nat.div_lt_of_lt_mul ?_
          rw [Nat.shiftLeft_eq]
          have l1 : mw < 2 ^ (mw.log2 + 1) := Nat.lt_log2_self
          have l2 : 2 ^ n'.log2 ≤ n' := Nat.log2_self_le hn'
          refine Nat.lt_of_lt_of_le (Nat.mul_lt_mul_of_pos_right l1 (Nat.two_pow_pos _)) ?_
          rw [← Nat.pow_add, show mw.log2 + 1 + (25 + n'.log2 - mw.log2) = n'.log2 + 26 by omega, Nat.pow_add]
          exact Nat.mul_le_mul_right _ l2
        have hb1 : (mw <<< (25 + n'.log2 - mw.log2) % n' != 0).toNat ≤ 1 := by cases (mw <<< (25 + n'.log2 - mw.log2) % n' != 0) <;> decide
        have hQ : (2 * (mw <<< (25 + n'.log2 - mw.log2) / n') + (mw <<< (25 + n'.log2 - mw.log2) % n' != 0).toNat).log2 ≤ 26 := by
          by_cases hz : 2 * (mw <<< (25 + n'.log2 - mw.log2) / n') + (mw <<< (25 + n'.log2 - mw.log2) % n' != 0).toNat = 0
          · rw [hz]; decide
          · have := (Nat.log2_lt hz).2 (show _ < 2 ^ 27 by omega)
            omega
        omega)
    exact ⟨_, _, _, e⟩
/-- a part of what dries is no NaN -/
theorem back_num {w r t p : Nat} (hw : (fcmp .geq .f32 w 0 && fcmp .leq .f32 w 1149239296) = true) (hr : (fcmp .geq .f32 r 0 && fcmp .leq .f32 r 1233125376) = true) (ht : (fcmp .geq .f32 t 0 && fcmp .leq .f32 t 1233125376) = true) (hp : (fcmp .geq .f32 p 0 && fcmp .leq .f32 p 1065353216) = true) :
    (single.read (fop .mul .f32 (fop .quo .f32 w (fop .add .f32 1065353216 (fop .mul .f32 r t))) p)).isNaN = false := by
  obtain ⟨s1, m1, i1, a1, b1, c1⟩ := isIn_num (j := -13) (by decide) hw
  obtain ⟨s2, m2, i2, a2, b2, c2⟩ := isIn_num (j := -3) (by decide) hr
  obtain ⟨s3, m3, i3, a3, b3, c3⟩ := isIn_num (j := -3) (by decide) ht
  obtain ⟨s4, m4, i4, a4, b4, c4⟩ := isIn_num (j := -23) (by decide) hp
  obtain ⟨s, m, i, h⟩ := dry_num a1 (by omega) a2 b2 (by omega) a3 b3 (by omega) rfl
  rw [fop_mul_num h a4]
  exact nan_nearest .f32 _ _ _
/-- two words that are no NaNs stand to each other -/
theorem gtr_leq {a b : Nat} (ha : (single.read a).isNaN = false) (hb : (single.read b).isNaN = false) : fcmp .gtr .f32 a b = !fcmp .leq .f32 a b := by
  simp only [fcmp]
  show ((single.read a).order (single.read b) == some .gt) = !((single.read a).order (single.read b) == some .lt || (single.read a).order (single.read b) == some .eq)
  have : ∃ o, (single.read a).order (single.read b) = some o := by
    cases hx : single.read a <;> cases hy : single.read b <;> rw [hx] at ha <;> rw [hy] at hb <;> simp [Datum.isNaN] at ha hb <;> exact ⟨_, rfl⟩
  obtain ⟨o, e⟩ := this
  rw [e]
  cases o <;> rfl
end Go.Proofs.YteifneielgnniaaDoor.Sh
end
section
namespace Go.Proofs.YteifneielgnniaaDoor.Sh
open Go Ieee

/-! ## a wider word and back -/
theorem bin64 : double.binade = 4503599627370496 := by decide
theorem lp64 : double.leastPlace = -1074 := by decide
theorem fb64 : (double.fractionBits : Int) = 52 := by decide
theorem cut_exact (neg : Bool) {m k : Nat} (hm : m ≠ 0) : Toward.even.cut neg (m <<< k) k = m := by
  unfold Toward.cut
  dsimp only
  have hl : k ≤ (m <<< k).log2 + 2 := by
    have : k ≤ (m <<< k).log2 := by
      rw [Nat.le_log2 (by rw [Nat.shiftLeft_eq]; exact Nat.mul_ne_zero hm (Nat.ne_of_gt (Nat.two_pow_pos k)))]
      rw [Nat.shiftLeft_eq]
      exact Nat.le_mul_of_pos_left _ (Nat.pos_of_ne_zero hm)
    omega
  rw [Nat.min_eq_left hl, Nat.one_shiftLeft, Nat.shiftLeft_eq, Nat.mul_div_cancel _ (Nat.two_pow_pos k), Nat.mul_mod_left]
  have := Nat.two_pow_pos k
  have h1 : decide (2 ^ k < 2 * 0) = false := decide_eq_false (by omega)
  have h2 : ((2 ^ k == 2 * 0) = false) := by rw [beq_eq_false_iff_ne]; omega
  rw [h1, h2]
  rfl
theorem read_canon {w : Nat} {s : Bool} {m : Nat} {i : Int} (h : single.read w = .number s m i) :
    (m < 8388608 ∧ i = -149 ∨ 8388608 ≤ m ∧ m < 16777216 ∧ -149 ≤ i ∧ i ≤ 104) ∧ w % 2147483648 = (i + 149).toNat * 8388608 + m ∧ s = (w / 2147483648 % 2 == 1) := by
  unfold Format.read at h
  simp only [sgn32, bin32, lp32, inf32] at h
  split at h
  · cases h; exact ⟨.inl ⟨by omega, rfl⟩, by simp, rfl⟩
  · split at h
    · cases h; refine ⟨.inr ⟨by omega, by omega, by omega, by omega⟩, by omega, rfl⟩
    · split at h <;> cases h
theorem read_infw {w : Nat} {s : Bool} (h : single.read w = .infinity s) : w % 2147483648 = 2139095040 ∧ s = (w / 2147483648 % 2 == 1) := by
  unfold Format.read at h
  simp only [sgn32, bin32, lp32, inf32] at h
  split at h
  · cases h
  · split at h
    · cases h
    · split at h
      · cases h; exact ⟨by assumption, rfl⟩
      · cases h
theorem shl52 {m : Nat} (hm : m ≠ 0) (hl : m.log2 ≤ 52) : 4503599627370496 ≤ m <<< (52 - m.log2) ∧ m <<< (52 - m.log2) < 9007199254740992 := by
  rw [Nat.shiftLeft_eq]
  have h1 := Nat.log2_self_le hm
  have h2 : m < 2 ^ (m.log2 + 1) := Nat.lt_log2_self
  constructor
  · have e : 2 ^ m.log2 * 2 ^ (52 - m.log2) = 4503599627370496 := by rw [← Nat.pow_add, show m.log2 + (52 - m.log2) = 52 by omega]
    rw [← e]
    exact Nat.mul_le_mul_right _ h1
  · have e : 2 ^ (m.log2 + 1) * 2 ^ (52 - m.log2) = 9007199254740992 := by rw [← Nat.pow_add, show m.log2 + 1 + (52 - m.log2) = 53 by omega]
    rw [← e]
    exact Nat.mul_lt_mul_of_pos_right h2 (Nat.two_pow_pos _)
theorem near64 (s : Bool) {m : Nat} {p : Int} (hm : m ≠ 0) (hl : m.log2 ≤ 52) (h1 : -1022 ≤ p + m.log2) (h2 : p + m.log2 ≤ 900) :
    double.nearest s m p = double.word s ((p + m.log2 + 1022).toNat * 4503599627370496 + m <<< (52 - m.log2)) := by
  obtain ⟨_, hb⟩ := shl52 hm hl
  unfold Format.nearest
  rw [if_neg hm]
  simp only [bin64, lp64, inf64, fb64]
  have e : max (p + m.log2 - 52) (-1074) = p + m.log2 - 52 := by omega
  rw [e, show (p + m.log2 - 52 - p).toNat = 0 by omega, cut_zero, show (p - (p + m.log2 - 52)).toNat = 52 - m.log2 by omega, show (p + m.log2 - 52 - -1074).toNat = (p + m.log2 + 1022).toNat by omega,
    Nat.min_eq_left (by omega)]
theorem word_mod64 (s : Bool) {r : Nat} (h : r ≤ 9218868437227405312) : double.word s r % 9223372036854775808 = r := by
  unfold Format.word
  rw [sgn64]
  cases s
  · simp only [Bool.false_eq_true, if_false]; exact Nat.mod_eq_of_lt (by omega)
  · simp only [if_true]; rw [Nat.add_mod_left]; exact Nat.mod_eq_of_lt (by omega)
theorem word_neg64 (s : Bool) {r : Nat} (h : r ≤ 9218868437227405312) : (double.word s r / 9223372036854775808 % 2 == 1) = s := by
  unfold Format.word
  rw [sgn64]
  cases s
  · simp only [Bool.false_eq_true, if_false]; rw [Nat.div_eq_of_lt (by omega)]; rfl
  · simp only [if_true]; rw [show (9223372036854775808 + r) / 9223372036854775808 = 1 by omega]; rfl
theorem read_word64 (s : Bool) {r : Nat} (h : r ≤ 9218868437227405312) : double.read (double.word s r) =
    if r < 4503599627370496 then .number s r (-1074) else if r < 9218868437227405312 then .number s (4503599627370496 + r % 4503599627370496) (-1074 + (r / 4503599627370496 - 1 : Nat)) else .infinity s := by
  unfold Format.read
  simp only [sgn64, bin64, lp64, inf64, word_mod64 s h, word_neg64 s h]
  split
  · rfl
  · split
    · rfl
    · rw [if_pos (by omega)]
/-- a word of single precision among those of double precision: its rung there, and back -/
theorem up_num {a : Nat} {s : Bool} {m : Nat} {i : Int} (h : single.read a = .number s m i) :
    ∃ r, r < 9218868437227405312 ∧ floatToFloatBits .f32 a .f64 = some (double.word s r) ∧ (∃ n j, ∀ t, double.read (double.word t r) = .number t n j) ∧ floatToFloatBits .f64 r .f32 = some (a % 2147483648) := by
  obtain ⟨hc, hw, _⟩ := read_canon h
  have up : ∀ {r : Nat} {n : Nat} {j : Int}, r < 9218868437227405312 → double.nearest s m i = double.word s r → (∀ t, double.read (double.word t r) = .number t n j) → floatToFloatBits .f32 a .f64 = some (double.word s r) := by
    intro r n j hr he hd
    unfold floatToFloatBits
    rw [if_neg (by decide)]
    have e1 : FloatKind.f32.decode a = .number s m i := h
    have e2 : FloatKind.f64.encode (.number s m i) = double.word s r := he
    have e3 : FloatKind.f64.decode (double.word s r) = .number s n j := hd s
    rw [e1]
    dsimp only
    rw [e2, e3]
    rfl
  have down : ∀ {r : Nat} {n : Nat} {j : Int} {q : Nat}, q < 2139095040 → (∀ t, double.read (double.word t r) = .number t n j) → single.nearest false n j = single.word false q → floatToFloatBits .f64 r .f32 = some q := by
    intro r n j q hq hd he
    unfold floatToFloatBits
    rw [if_neg (by decide)]
    have e1 : FloatKind.f64.decode r = .number false n j := hd false
    have e2 : FloatKind.f32.encode (.number false n j) = q := he
    have e3 : (FloatKind.f32.decode q).isInfinity = false := by
      have : single.read (single.word false q) = _ := read_word false (Nat.le_of_lt hq)
      show (single.read q).isInfinity = false
      rw [show single.word false q = q from rfl] at this
      rw [this]
      split
      · rfl
      · rfl
    rw [e1]
    dsimp only
    rw [e2, e3]
    rfl
  by_cases hm : m = 0
  · subst hm
    have hi : i = -149 := by omega
    subst hi
    have hd : ∀ t, double.read (double.word t 0) = .number t 0 (-1074) := fun t => by rw [read_word64 t (by omega)]; rfl
    refine ⟨0, by omega, up (by omega) (by unfold Format.nearest; rw [if_pos rfl]) hd, ⟨_, _, hd⟩, ?_⟩
    rw [hw]
    exact down (by omega) hd (by unfold Format.nearest; rw [if_pos rfl]; rfl)
  · have hL : m.log2 ≤ 23 := by
      have : m.log2 < 24 := (Nat.log2_lt hm).2 (by omega)
      omega
    have hlast : max (i + m.log2 - 23) (-149) = i := by
      rcases hc with ⟨h1, h2⟩ | ⟨h1, h2, h3, h4⟩
      · have : m.log2 < 23 := (Nat.log2_lt hm).2 (by omega)
        omega
      · have : 23 ≤ m.log2 := (Nat.le_log2 hm).2 (by omega)
        omega
    have hi1 : -149 ≤ i ∧ i ≤ 104 := by omega
    obtain ⟨k1, k2⟩ := shl52 hm (by omega)
    generalize hR : (i + m.log2 + 1022).toNat * 4503599627370496 + m <<< (52 - m.log2) = r
    have hr : r < 9218868437227405312 := by omega
    have hn := near64 s hm (p := i) (by omega) (by omega) (by omega)
    rw [hR] at hn
    have hd : ∀ t, double.read (double.word t r) = .number t (m <<< (52 - m.log2)) (i + m.log2 - 52) := by
      intro t
      rw [read_word64 t (by omega), if_neg (by omega), if_pos hr]
      congr 1 <;> omega
    refine ⟨r, hr, up hr hn hd, ⟨_, _, hd⟩, ?_⟩
    rw [hw]
    refine down (by omega) hd ?_
    have hM : m <<< (52 - m.log2) ≠ 0 := by omega
    have hML : (m <<< (52 - m.log2)).log2 = 52 := by
      have h1 : (m <<< (52 - m.log2)).log2 < 53 := (Nat.log2_lt hM).2 (by omega)
      have h2 : 52 ≤ (m <<< (52 - m.log2)).log2 := (Nat.le_log2 hM).2 (by omega)
      omega
    have hLo : lastOf (m <<< (52 - m.log2)) (i + m.log2 - 52) = i := by
      unfold lastOf
      rw [hML]
      omega
    rw [nearest_eq false hM]
    unfold keptOf
    rw [hLo, show (i + m.log2 - 52 - i).toNat = 0 by omega, Nat.shiftLeft_zero, show (i - (i + m.log2 - 52)).toNat = 52 - m.log2 by omega, cut_exact _ hm, Nat.min_eq_left (by omega)]
/-- a double's word without its sign -/
def absB (x : Nat) : Nat := (bits .andNot .u64 (x : Int) 9223372036854775808).toNat
theorem absB_eq (x : Nat) : absB x = x % 9223372036854775808 := by
  have e1 : BitVec.ofInt 64 (x : Int) = BitVec.ofNat 64 x := BitVec.ofInt_natCast 64 x
  have e2 : ~~~ BitVec.ofInt 64 9223372036854775808 = 9223372036854775807#64 := by decide
  have e3 : (BitVec.ofInt 64 (x : Int) &&& ~~~ BitVec.ofInt 64 9223372036854775808).toNat = x % 9223372036854775808 := by
    rw [e1, e2, BitVec.toNat_and, BitVec.toNat_ofNat]
    have := Nat.and_two_pow_sub_one_eq_mod (x % 2 ^ 64) 63
    rw [show (9223372036854775807#64).toNat = 2 ^ 63 - 1 from rfl, this]
    omega
  show (IntKind.wrap .u64 ((BitVec.ofInt 64 (x : Int) &&& ~~~ BitVec.ofInt 64 9223372036854775808).toNat : Int)).toNat = _
  rw [e3]
  have h1 : x % 9223372036854775808 < 9223372036854775808 := Nat.mod_lt _ (by decide)
  generalize x % 9223372036854775808 = y at *
  simp [IntKind.wrap, IntKind.signed, IntKind.bits]
  omega
theorem absB_nan {x : Nat} (h : (double.read x).isNaN = true) : (double.read (absB x)).isNaN = true := by
  have h1 := nan_read .f64 x
  have h2 := nan_read .f64 (absB x)
  rw [show FloatKind.f64.format = double from rfl, sgn64, inf64] at h1 h2
  rw [h1] at h
  rw [h2, absB_eq]
  rw [decide_eq_true_eq] at h ⊢
  omega
def cvU (a : Nat) : Nat := (floatToFloatBits .f32 a .f64).getD (qn .f64)
/-- the size, there and back -/
def sizeI (a : Nat) : Nat := (floatToFloatBits .f64 (absB (cvU a)) .f32).getD (qn .f32)
/-- the size, by a test -/
def sizeF (a : Nat) : Nat := if fcmp .lss .f32 a 0 = true then fneg .f32 a else a
theorem size_some (a : Nat) : (FloatKind.f64.decode (absB (cvU a))).isNaN = false → (floatToFloatBits .f64 (absB (cvU a)) .f32).isSome = true := by
  intro hn
  unfold cvU at *
  cases hd : single.read a with
  | number s m i =>
    obtain ⟨r, hr, h1, _, h2⟩ := up_num hd
    rw [h1, Option.getD_some, absB_eq, word_mod64 s (Nat.le_of_lt hr), h2]
    rfl
  | infinity s =>
    have e1 : floatToFloatBits .f32 a .f64 = some (double.word s 9218868437227405312) := by
      unfold floatToFloatBits
      rw [if_neg (by decide), show FloatKind.f32.decode a = .infinity s from hd]
      rfl
    rw [e1, Option.getD_some, absB_eq, word_mod64 s (Nat.le_refl _)]
    rfl
  | nan s t =>
    have e1 : floatToFloatBits .f32 a .f64 = none := by
      unfold floatToFloatBits
      rw [if_neg (by decide), show FloatKind.f32.decode a = .nan s t from hd]
    rw [e1, Option.getD_none] at hn
    rw [show (FloatKind.f64.decode (absB (qn .f64))).isNaN = true from absB_nan (nan_qn .f64)] at hn
    cases hn
theorem sizeI_eq (a : Nat) : sizeI a = if (single.read a).isNaN then qn .f32 else a % 2147483648 := by
  unfold sizeI cvU
  cases hd : single.read a with
  | number s m i =>
    obtain ⟨r, hr, h1, _, h2⟩ := up_num hd
    rw [h1, Option.getD_some, absB_eq, word_mod64 s (Nat.le_of_lt hr), h2]
    rfl
  | infinity s =>
    have e1 : floatToFloatBits .f32 a .f64 = some (double.word s 9218868437227405312) := by
      unfold floatToFloatBits
      rw [if_neg (by decide), show FloatKind.f32.decode a = .infinity s from hd]
      rfl
    rw [e1, Option.getD_some, absB_eq, word_mod64 s (Nat.le_refl _), (read_infw hd).1]
    rfl
  | nan s t =>
    have e1 : floatToFloatBits .f32 a .f64 = none := by
      unfold floatToFloatBits
      rw [if_neg (by decide), show FloatKind.f32.decode a = .nan s t from hd]
    have e2 : floatToFloatBits .f64 (absB (qn .f64)) .f32 = none := by
      obtain ⟨u, v, e⟩ := isNaN_iff (absB_nan (nan_qn .f64))
      unfold floatToFloatBits
      rw [if_neg (by decide), show FloatKind.f64.decode (absB (qn .f64)) = .nan u v from e]
    rw [e1, Option.getD_none, e2]
    rfl
theorem read_mod (a : Nat) : single.read (a % 2147483648) = match single.read a with
    | .number _ m i => .number false m i
    | .infinity _ => .infinity false
    | .nan _ t => .nan false t := by
  unfold Format.read
  simp only [sgn32, bin32, lp32, inf32, Nat.mod_mod]
  have : a % 2147483648 / 2147483648 % 2 = 0 := by omega
  rw [this]
  split
  · rfl
  · split
    · rfl
    · split <;> rfl
theorem read_neg (a : Nat) : single.read (Op.negFloat .f32 a) = (single.read a).opposite := by
  have e : Op.negFloat .f32 a = a ^^^ 2 ^ 31 := rfl
  have h1 : (a ^^^ 2 ^ 31) % 2147483648 = a % 2147483648 := by
    have := @Nat.xor_mod_two_pow a (2 ^ 31) 31
    rw [Nat.mod_self, Nat.xor_zero] at this
    exact this
  have h2 : (a ^^^ 2 ^ 31) / 2147483648 = (a / 2147483648) ^^^ 1 := by
    have := @Nat.xor_div_two_pow a (2 ^ 31) 31
    rw [Nat.div_self (by decide)] at this
    exact this
  have h3 : ((a / 2147483648) ^^^ 1) % 2 = 1 - a / 2147483648 % 2 := by
    have := @Nat.xor_mod_two_pow (a / 2147483648) 1 1
    rw [Nat.pow_one] at this
    rw [this]
    rcases Nat.mod_two_eq_zero_or_one (a / 2147483648) with h | h <;> rw [h] <;> rfl
  rw [e]
  unfold Format.read
  simp only [sgn32, bin32, lp32, inf32, h1, h2, h3]
  have h4 : (1 - a / 2147483648 % 2 == 1) = !(a / 2147483648 % 2 == 1) := by
    rcases Nat.mod_two_eq_zero_or_one (a / 2147483648) with h | h <;> rw [h] <;> rfl
  rw [h4]
  split
  · rfl
  · split
    · rfl
    · split <;> rfl
theorem fcmp_read {op : BinOp} {a b w : Nat} (h : single.read a = single.read b) : fcmp op .f32 a w = fcmp op .f32 b w := by
  unfold fcmp
  show (match op with | _ => _) = _
  simp only [Format.order, FloatKind.format, h]
theorem cmp_lt {a b : Int} (h : compare a b = .lt) : a < b := by
  simp only [compare, compareOfLessAndEq] at h
  split at h
  · assumption
  · split at h <;> cases h
theorem signed_zero (s t : Bool) (k : Nat) : signed s 0 k = signed t 0 k := by cases s <;> cases t <;> simp [signed]
theorem size_leq (a w : Nat) : fcmp .leq .f32 (sizeI a) w = fcmp .leq .f32 (sizeF a) w := by
  have r0 : single.read 0 = .number false 0 (-149) := by decide
  rw [sizeI_eq]
  unfold sizeF
  have lss : fcmp .lss .f32 a 0 = ((single.read a).order (.number false 0 (-149)) == some .lt) := by
    unfold fcmp
    simp only [Format.order, FloatKind.format, r0]
  rw [lss]
  have hm := read_mod a
  cases hd : single.read a with
  | nan s t =>
    have hn : (single.read a).isNaN = true := by rw [hd]; rfl
    show fcmp .leq .f32 (qn .f32) w = fcmp .leq .f32 a w
    unfold fcmp
    have e1 : FloatKind.f32.format.order (qn .f32) w = none := order_nanL (k := .f32) (nan_qn .f32)
    have e2 : FloatKind.f32.format.order a w = none := order_nanL (k := .f32) hn
    rw [e1, e2]
  | infinity s =>
    rw [hd] at hm
    have hn : (FloatKind.f32.format.read a).isNaN = false := by show (single.read a).isNaN = false; rw [hd]; rfl
    cases s with
    | false =>
      show fcmp .leq .f32 (a % 2147483648) w = fcmp .leq .f32 a w
      exact fcmp_read (by rw [hm]; exact hd.symm)
    | true =>
      show fcmp .leq .f32 (a % 2147483648) w = fcmp .leq .f32 (fneg .f32 a) w
      refine fcmp_read ?_
      unfold fneg
      rw [hn]
      show _ = single.read (Op.negFloat .f32 a)
      rw [hm, read_neg, hd]
      rfl
  | number s m i =>
    rw [hd] at hm
    have hn : (FloatKind.f32.format.read a).isNaN = false := by show (single.read a).isNaN = false; rw [hd]; rfl
    show fcmp .leq .f32 (a % 2147483648) w = _
    split
    · rename_i hl
      refine fcmp_read ?_
      unfold fneg
      rw [hn]
      show _ = single.read (Op.negFloat .f32 a)
      rw [hm, read_neg, hd]
      cases s with
      | true => rfl
      | false =>
        exfalso
        simp only [Datum.order, signed, beq_iff_eq, Option.some.injEq, Bool.false_eq_true, if_false, Nat.zero_shiftLeft] at hl
        have h1 := cmp_lt hl
        have h2 := Int.natCast_nonneg (m <<< (i - min i (-149)).toNat)
        omega
    · rename_i hl
      cases s with
      | false => exact fcmp_read (by rw [hm]; exact hd.symm)
      | true =>
        have hm0 : m = 0 := by
          rcases Nat.eq_zero_or_pos m with h | h
          · exact h
          · exfalso
            apply hl
            simp only [Datum.order, signed, beq_iff_eq, Option.some.injEq, Bool.false_eq_true, if_false, if_true, Nat.zero_shiftLeft]
            have h1 : 0 < m <<< (i - min i (-149)).toNat := by rw [Nat.shiftLeft_eq]; exact Nat.mul_pos h (Nat.two_pow_pos _)
            generalize m <<< (i - min i (-149)).toNat = q at h1
            simp only [compare, compareOfLessAndEq]
            rw [if_pos (by omega)]
        subst hm0
        unfold fcmp
        simp only [Format.order, FloatKind.format, hm, hd]
        cases single.read w with
        | nan _ _ => rfl
        | infinity _ => rfl
        | number t n j => simp only [Datum.order, signed_zero true false]

/-! ## the same number -/
theorem num_le {m n : Nat} {x y : Int} (hm : m < 16777216) (hn : n < 8388608 ∧ y = -149 ∨ 8388608 ≤ n) (hx : -149 ≤ x) (hxy : x ≤ y) (h : m = n <<< (y - x).toNat) : m = n ∧ x = y := by
  rw [Nat.shiftLeft_eq] at h
  by_cases e : x = y
  · subst e
    rw [Int.sub_self] at h
    simp at h
    exact ⟨h, rfl⟩
  · exfalso
    have hn : 8388608 ≤ n := by omega
    have h1 : 2 ^ 1 ≤ 2 ^ (y - x).toNat := Nat.pow_le_pow_right (by decide) (by omega)
    have h2 : 8388608 * 2 ≤ n * 2 ^ (y - x).toNat := Nat.mul_le_mul hn (by simpa using h1)
    omega
theorem num_inj {a b : Nat} {s : Bool} {m n : Nat} {i j : Int} (ha : single.read a = .number s m i) (hb : single.read b = .number s n j)
    (h : signed s m (i - min i j).toNat = signed s n (j - min i j).toNat) : a % 2147483648 = b % 2147483648 := by
  obtain ⟨ca, wa, _⟩ := read_canon ha
  obtain ⟨cb, wb, _⟩ := read_canon hb
  have h' : m <<< (i - min i j).toNat = n <<< (j - min i j).toNat := by
    unfold signed at h
    cases s
    · simp only [Bool.false_eq_true, if_false] at h; exact Int.ofNat.inj h
    · simp only [if_true] at h; exact Int.ofNat.inj (Int.neg_inj.1 h)
  rw [wa, wb]
  rcases Int.le_total i j with hij | hij
  · rw [show min i j = i by omega, Int.sub_self] at h'
    obtain ⟨e1, e2⟩ := num_le (m := m) (n := n) (by omega) (by omega) (by omega) hij (by simpa using h')
    rw [e1, e2]
  · rw [show min i j = j by omega, Int.sub_self] at h'
    obtain ⟨e1, e2⟩ := num_le (m := n) (n := m) (by omega) (by omega) (by omega) hij (by simpa using h'.symm)
    rw [e1, e2]
def isNan (a : Nat) : Bool := fcmp .neq .f32 a a
theorem order_self {d : Datum} (h : d.isNaN = false) : d.order d = some .eq := by
  cases d with
  | nan => simp [Datum.isNaN] at h
  | infinity s => simp [Datum.order]
  | number s m e => simp [Datum.order]
theorem isNan_eq (a : Nat) : isNan a = (single.read a).isNaN := by
  unfold isNan fcmp
  show ((single.read a).order (single.read a) != some .eq) = _
  cases h : (single.read a).isNaN with
  | true =>
    obtain ⟨u, v, e⟩ := isNaN_iff h
    rw [e]; rfl
  | false => rw [order_self h]; rfl
/-- the sign of a double -/
def sgnD (x : Nat) : Bool := x / 9223372036854775808 % 2 == 1
/-- the sign, by way of a double -/
theorem sgn_up {a : Nat} (h : isNan a = false) : sgnD (cvU a) = (a / 2147483648 % 2 == 1) := by
  rw [isNan_eq] at h
  unfold cvU sgnD
  cases hd : single.read a with
  | number s m i =>
    obtain ⟨r, hr, h1, _, h2⟩ := up_num hd
    rw [h1, Option.getD_some, word_neg64 s (Nat.le_of_lt hr)]
    exact (read_canon hd).2.2
  | infinity s =>
    have e1 : floatToFloatBits .f32 a .f64 = some (double.word s 9218868437227405312) := by
      unfold floatToFloatBits
      rw [if_neg (by decide), show FloatKind.f32.decode a = .infinity s from hd]
      rfl
    rw [e1, Option.getD_some, word_neg64 s (Nat.le_refl _)]
    exact (read_infw hd).2
  | nan s t => rw [hd] at h; simp [Datum.isNaN] at h
theorem nan_up {a : Nat} (h : isNan a = false) : (double.read (cvU a)).isNaN = false := by
  rw [isNan_eq] at h
  unfold cvU
  cases hd : single.read a with
  | number s m i =>
    obtain ⟨r, hr, h1, ⟨n, j, hn⟩, h2⟩ := up_num hd
    rw [h1, Option.getD_some, hn]
    rfl
  | infinity s =>
    have e1 : floatToFloatBits .f32 a .f64 = some (double.word s 9218868437227405312) := by
      unfold floatToFloatBits
      rw [if_neg (by decide), show FloatKind.f32.decode a = .infinity s from hd]
      rfl
    rw [e1, Option.getD_some, read_word64 s (Nat.le_refl _)]
    rfl
  | nan s t => rw [hd] at h; simp [Datum.isNaN] at h
/-- equal, and of one sign -/
def eqS (a b : Nat) : Bool := if isNan a || isNan b then isNan a && isNan b else fcmp .eql .f32 a b && (sgnD (cvU a) == sgnD (cvU b))
/-- the same word, or both none -/
def eqW (a b : Nat) : Bool := if isNan a || isNan b then isNan a && isNan b else decide (a = b)
theorem same_eq {a b : Nat} (ha : a < 4294967296) (hb : b < 4294967296) : eqS a b = eqW a b := by
  unfold eqS eqW
  by_cases hn : (isNan a || isNan b) = true
  · rw [if_pos hn, if_pos hn]
  · rw [if_neg hn, if_neg hn]
    simp only [Bool.or_eq_true, not_or, Bool.not_eq_true] at hn
    rw [sgn_up hn.1, sgn_up hn.2]
    have na := hn.1
    have nb := hn.2
    rw [isNan_eq] at na nb
    by_cases e : a = b
    · subst e
      have : fcmp .eql .f32 a a = true := by
        unfold fcmp
        show ((single.read a).order (single.read a) == some .eq) = _
        rw [order_self na]; rfl
      simp [this]
    · rw [decide_eq_false e]
      rw [Bool.and_eq_false_iff]
      by_cases hs : (a / 2147483648 % 2 == 1) = (b / 2147483648 % 2 == 1)
      · left
        have hs' : a / 2147483648 % 2 = b / 2147483648 % 2 := by
          rcases Nat.mod_two_eq_zero_or_one (a / 2147483648) with h | h <;> rcases Nat.mod_two_eq_zero_or_one (b / 2147483648) with k | k <;> rw [h, k] at hs ⊢ <;> simp at hs
        have key : a % 2147483648 ≠ b % 2147483648 := fun h => e (by omega)
        unfold fcmp
        show ((single.read a).order (single.read b) == some .eq) = false
        rw [beq_eq_false_iff_ne]
        intro ho
        apply key
        cases hda : single.read a with
        | nan s t => rw [hda] at na; simp [Datum.isNaN] at na
        | infinity s =>
          cases hdb : single.read b with
          | nan s t => rw [hdb] at nb; simp [Datum.isNaN] at nb
          | infinity t => rw [(read_infw hda).1, (read_infw hdb).1]
          | number t n j =>
            rw [hda, hdb] at ho
            cases s <;> simp [Datum.order] at ho
        | number s m i =>
          cases hdb : single.read b with
          | nan s t => rw [hdb] at nb; simp [Datum.isNaN] at nb
          | infinity t =>
            rw [hda, hdb] at ho
            cases t <;> simp [Datum.order] at ho
          | number t n j =>
            have h1 := (read_canon hda).2.2
            have h2 := (read_canon hdb).2.2
            rw [hs, ← h2] at h1
            subst h1
            rw [hda, hdb] at ho
            simp only [Datum.order, Option.some.injEq] at ho
            exact num_inj hda hdb (Int.le_antisymm (cmp_le (.inr ho)) (cmp_ge (.inr ho)))
      · right
        simpa using hs
end Go.Proofs.YteifneielgnniaaDoor.Sh
end
section
namespace Go.Proofs.YteifneielgnniaaDoor.Sh
open Go Go.Proofs
def ttl : TTL := [
  (2, ⟨1, 8, .cell, [.i .i64 (.l 0)], some (.inl .i64)⟩),
  (3, ⟨1, 8, .cell, [.i .i64 (.l 0)], some (.inl .i64)⟩),
  (4, ⟨1, 1, .bool, [.b (.l false)], none⟩),
  (5, ⟨1, 1, .cell, [.i .u8 (.l 0)], some (.inl .u8)⟩),
  (6, ⟨1, 1, .cell, [.i .u8 (.l 0)], some (.inl .u8)⟩),
  (7, ⟨4, 24, .st [(0, 2), (1, 3), (2, 4), (3, 6)], [.i .i64 (.l 0), .i .i64 (.l 0), .b (.l false), .i .u8 (.l 0)], none⟩),
  (8, ⟨4, 24, .st [(0, 2), (1, 3), (2, 4), (3, 6)], [.i .i64 (.l 0), .i .i64 (.l 0), .b (.l false), .i .u8 (.l 0)], none⟩),
  (9, ⟨1, 16, .str, [.s fun _ => .empty], none⟩),
  (10, ⟨1, 16, .str, [.s fun _ => .empty], none⟩),
  (11, ⟨1, 16, .str, [.s fun _ => .empty], none⟩),
  (12, ⟨1, 8, .cell, [.i .u64 (.l 0)], some (.inl .u64)⟩),
  (13, ⟨2, 24, .st [(0, 9), (1, 12)], [.s fun _ => .empty, .i .u64 (.l 0)], none⟩),
  (14, ⟨2, 24, .st [(0, 9), (1, 12)], [.s fun _ => .empty, .i .u64 (.l 0)], none⟩),
  (15, ⟨1, 8, .cell, [.pn], none⟩),
  (16, ⟨1, 8, .cell, [.pn], none⟩),
  (17, ⟨1, 8, .cell, [.pn], none⟩),
  (18, ⟨1, 8, .st [(0, 17)], [.pn], none⟩),
  (19, ⟨1, 8, .st [(0, 17)], [.pn], none⟩),
  (21, ⟨1, 4, .cell, [.i .i32 (.l 0)], some (.inl .i32)⟩),
  (22, ⟨1, 8, .cpx, [.z .f32 (fun _ => 0) (fun _ => 0)], none⟩),
  (23, ⟨1, 8, .cpx, [.z .f32 (fun _ => 0) (fun _ => 0)], none⟩),
  (27, ⟨1, 16, .cp2, [.z .f64 (fun _ => 0) (fun _ => 0)], none⟩),
  (29, ⟨1, 4, .cell, [.f .f32 fun _ => 0], some (.inr .f32)⟩),
  (30, ⟨1, 24, .sl 51, [.sn], none⟩),
  (31, ⟨4, 40, .st [(0, 29), (1, 29), (2, 29), (3, 30)], [.f .f32 fun _ => 0, .f .f32 fun _ => 0, .f .f32 fun _ => 0, .sn], none⟩),
  (32, ⟨4, 40, .st [(0, 29), (1, 29), (2, 29), (3, 30)], [.f .f32 fun _ => 0, .f .f32 fun _ => 0, .f .f32 fun _ => 0, .sn], none⟩),
  (37, ⟨1, 24, .sl 9, [.sn], none⟩),
  (42, ⟨1, 24, .sl 29, [.sn], none⟩),
  (46, ⟨1, 8, .cell, [.f .f64 fun _ => 0], some (.inr .f64)⟩),
  (47, ⟨3, 12, .ar 3 29, [.f .f32 fun _ => 0, .f .f32 fun _ => 0, .f .f32 fun _ => 0], none⟩),
  (50, ⟨3, 12, .st [(0, 29), (1, 29), (2, 29)], [.f .f32 fun _ => 0, .f .f32 fun _ => 0, .f .f32 fun _ => 0], none⟩),
  (51, ⟨3, 12, .st [(0, 29), (1, 29), (2, 29)], [.f .f32 fun _ => 0, .f .f32 fun _ => 0, .f .f32 fun _ => 0], none⟩),
  (53, ⟨1, 8, .cell, [.pn], none⟩),
  (54, ⟨1, 24, .sl 42, [.sn], none⟩),
  (67, ⟨1, 4, .cell, [.i .u32 (.l 0)], some (.inl .u32)⟩),
  (71, ⟨1, 8, .cell, [.i .u64 (.l 0)], some (.inl .u64)⟩),
  (86, ⟨1, 8, .cell, [.i .i64 (.l 0)], some (.inl .i64)⟩),
  (88, ⟨1, 8, .cell, [.i .u64 (.l 0)], some (.inl .u64)⟩),
  (89, ⟨1, 24, .sl 5, [.sn], none⟩),
  (90, ⟨1, 8, .cell, [.pn], none⟩),
  (96, ⟨1, 8, .cell, [.pn], none⟩),
  (97, ⟨2, 32, .st [(0, 96), (1, 89)], [.pn, .sn], none⟩),
  (98, ⟨2, 32, .st [(0, 96), (1, 89)], [.pn, .sn], none⟩),
  (110, ⟨24, 24, .ar 24 5, [.i .u8 (.l 0), .i .u8 (.l 0), .i .u8 (.l 0), .i .u8 (.l 0), .i .u8 (.l 0), .i .u8 (.l 0), .i .u8 (.l 0), .i .u8 (.l 0), .i .u8 (.l 0), .i .u8 (.l 0), .i .u8 (.l 0), .i .u8 (.l 0), .i .u8 (.l 0), .i .u8 (.l 0), .i .u8 (.l 0), .i .u8 (.l 0), .i .u8 (.l 0), .i .u8 (.l 0), .i .u8 (.l 0), .i .u8 (.l 0), .i .u8 (.l 0), .i .u8 (.l 0), .i .u8 (.l 0), .i .u8 (.l 0)], none⟩),
  (119, ⟨1, 8, .cell, [.pn], none⟩),
  (120, ⟨256, 256, .ar 256 5, [.i .u8 (.l 0), .i .u8 (.l 0), .i .u8 (.l 0), .i .u8 (.l 0), .i .u8 (.l 0), .i .u8 (.l 0), .i .u8 (.l 0), .i .u8 (.l 0), .i .u8 (.l 0), .i .u8 (.l 0), .i .u8 (.l 0), .i .u8 (.l 0), .i .u8 (.l 0), .i .u8 (.l 0), .i .u8 (.l 0), .i .u8 (.l 0), .i .u8 (.l 0), .i .u8 (.l 0), .i .u8 (.l 0), .i .u8 (.l 0), .i .u8 (.l 0), .i .u8 (.l 0), .i .u8 (.l 0), .i .u8 (.l 0), .i .u8 (.l 0), .i .u8 (.l 0), .i .u8 (.l 0), .i .u8 (.l 0), .i .u8 (.l 0), .i .u8 (.l 0), .i .u8 (.l 0), .i .u8 (.l 0), .i .u8 (.l 0), .i .u8 (.l 0), .i .u8 (.l 0), .i .u8 (.l 0), .i .u8 (.l 0), .i .u8 (.l 0), .i .u8 (.l 0), .i .u8 (.l 0), .i .u8 (.l 0), .i .u8 (.l 0), .i .u8 (.l 0), .i .u8 (.l 0), .i .u8 (.l 0), .i .u8 (.l 0), .i .u8 (.l 0), .i .u8 (.l 0), .i .u8 (.l 0), .i .u8 (.l 0), .i .u8 (.l 0), .i .u8 (.l 0), .i .u8 (.l 0), .i .u8 (.l 0), .i .u8 (.l 0), .i .u8 (.l 0), .i .u8 (.l 0), .i .u8 (.l 0), .i .u8 (.l 0), .i .u8 (.l 0), .i .u8 (.l 0), .i .u8 (.l 0), .i .u8 (.l 0), .i .u8 (.l 0), .i .u8 (.l 0), .i .u8 (.l 0), .i .u8 (.l 0), .i .u8 (.l 0), .i .u8 (.l 0), .i .u8 (.l 0), .i .u8 (.l 0), .i .u8 (.l 0), .i .u8 (.l 0), .i .u8 (.l 0), .i .u8 (.l 0), .i .u8 (.l 0), .i .u8 (.l 0), .i .u8 (.l 0), .i .u8 (.l 0), .i .u8 (.l 0), .i .u8 (.l 0), .i .u8 (.l 0), .i .u8 (.l 0), .i .u8 (.l 0), .i .u8 (.l 0), .i .u8 (.l 0), .i .u8 (.l 0), .i .u8 (.l 0), .i .u8 (.l 0), .i .u8 (.l 0), .i .u8 (.l 0), .i .u8 (.l 0), .i .u8 (.l 0), .i .u8 (.l 0), .i .u8 (.l 0), .i .u8 (.l 0), .i .u8 (.l 0), .i .u8 (.l 0), .i .u8 (.l 0), .i .u8 (.l 0), .i .u8 (.l 0), .i .u8 (.l 0), .i .u8 (.l 0), .i .u8 (.l 0), .i .u8 (.l 0), .i .u8 (.l 0), .i .u8 (.l 0), .i .u8 (.l 0), .i .u8 (.l 0), .i .u8 (.l 0), .i .u8 (.l 0), .i .u8 (.l 0), .i .u8 (.l 0), .i .u8 (.l 0), .i .u8 (.l 0), .i .u8 (.l 0), .i .u8 (.l 0), .i .u8 (.l 0), .i .u8 (.l 0), .i .u8 (.l 0), .i .u8 (.l 0), .i .u8 (.l 0), .i .u8 (.l 0), .i .u8 (.l 0), .i .u8 (.l 0), .i .u8 (.l 0), .i .u8 (.l 0), .i .u8 (.l 0), .i .u8 (.l 0), .i .u8 (.l 0), .i .u8 (.l 0), .i .u8 (.l 0), .i .u8 (.l 0), .i .u8 (.l 0), .i .u8 (.l 0), .i .u8 (.l 0), .i .u8 (.l 0), .i .u8 (.l 0), .i .u8 (.l 0), .i .u8 (.l 0), .i .u8 (.l 0), .i .u8 (.l 0), .i .u8 (.l 0), .i .u8 (.l 0), .i .u8 (.l 0), .i .u8 (.l 0), .i .u8 (.l 0), .i .u8 (.l 0), .i .u8 (.l 0), .i .u8 (.l 0), .i .u8 (.l 0), .i .u8 (.l 0), .i .u8 (.l 0), .i .u8 (.l 0), .i .u8 (.l 0), .i .u8 (.l 0), .i .u8 (.l 0), .i .u8 (.l 0), .i .u8 (.l 0), .i .u8 (.l 0), .i .u8 (.l 0), .i .u8 (.l 0), .i .u8 (.l 0), .i .u8 (.l 0), .i .u8 (.l 0), .i .u8 (.l 0), .i .u8 (.l 0), .i .u8 (.l 0), .i .u8 (.l 0), .i .u8 (.l 0), .i .u8 (.l 0), .i .u8 (.l 0), .i .u8 (.l 0), .i .u8 (.l 0), .i .u8 (.l 0), .i .u8 (.l 0), .i .u8 (.l 0), .i .u8 (.l 0), .i .u8 (.l 0), .i .u8 (.l 0), .i .u8 (.l 0), .i .u8 (.l 0), .i .u8 (.l 0), .i .u8 (.l 0), .i .u8 (.l 0), .i .u8 (.l 0), .i .u8 (.l 0), .i .u8 (.l 0), .i .u8 (.l 0), .i .u8 (.l 0), .i .u8 (.l 0), .i .u8 (.l 0), .i .u8 (.l 0), .i .u8 (.l 0), .i .u8 (.l 0), .i .u8 (.l 0), .i .u8 (.l 0), .i .u8 (.l 0), .i .u8 (.l 0), .i .u8 (.l 0), .i .u8 (.l 0), .i .u8 (.l 0), .i .u8 (.l 0), .i .u8 (.l 0), .i .u8 (.l 0), .i .u8 (.l 0), .i .u8 (.l 0), .i .u8 (.l 0), .i .u8 (.l 0), .i .u8 (.l 0), .i .u8 (.l 0), .i .u8 (.l 0), .i .u8 (.l 0), .i .u8 (.l 0), .i .u8 (.l 0), .i .u8 (.l 0), .i .u8 (.l 0), .i .u8 (.l 0), .i .u8 (.l 0), .i .u8 (.l 0), .i .u8 (.l 0), .i .u8 (.l 0), .i .u8 (.l 0), .i .u8 (.l 0), .i .u8 (.l 0), .i .u8 (.l 0), .i .u8 (.l 0), .i .u8 (.l 0), .i .u8 (.l 0), .i .u8 (.l 0), .i .u8 (.l 0), .i .u8 (.l 0), .i .u8 (.l 0), .i .u8 (.l 0), .i .u8 (.l 0), .i .u8 (.l 0), .i .u8 (.l 0), .i .u8 (.l 0), .i .u8 (.l 0), .i .u8 (.l 0), .i .u8 (.l 0), .i .u8 (.l 0), .i .u8 (.l 0), .i .u8 (.l 0), .i .u8 (.l 0), .i .u8 (.l 0), .i .u8 (.l 0), .i .u8 (.l 0), .i .u8 (.l 0), .i .u8 (.l 0), .i .u8 (.l 0), .i .u8 (.l 0), .i .u8 (.l 0), .i .u8 (.l 0), .i .u8 (.l 0), .i .u8 (.l 0)], none⟩),
  (121, ⟨2, 2, .st [(0, 5), (1, 5)], [.i .u8 (.l 0), .i .u8 (.l 0)], none⟩),
  (122, ⟨2, 2, .st [(0, 5), (1, 5)], [.i .u8 (.l 0), .i .u8 (.l 0)], none⟩),
  (123, ⟨32, 32, .ar 16 122, [.i .u8 (.l 0), .i .u8 (.l 0), .i .u8 (.l 0), .i .u8 (.l 0), .i .u8 (.l 0), .i .u8 (.l 0), .i .u8 (.l 0), .i .u8 (.l 0), .i .u8 (.l 0), .i .u8 (.l 0), .i .u8 (.l 0), .i .u8 (.l 0), .i .u8 (.l 0), .i .u8 (.l 0), .i .u8 (.l 0), .i .u8 (.l 0), .i .u8 (.l 0), .i .u8 (.l 0), .i .u8 (.l 0), .i .u8 (.l 0), .i .u8 (.l 0), .i .u8 (.l 0), .i .u8 (.l 0), .i .u8 (.l 0), .i .u8 (.l 0), .i .u8 (.l 0), .i .u8 (.l 0), .i .u8 (.l 0), .i .u8 (.l 0), .i .u8 (.l 0), .i .u8 (.l 0), .i .u8 (.l 0)], none⟩),
  (125, ⟨1, 8, .cell, [.pn], none⟩),
  (126, ⟨1, 16, .st [(0, 9)], [.s fun _ => .empty], none⟩),
  (127, ⟨1, 16, .st [(0, 9)], [.s fun _ => .empty], none⟩),
  (129, ⟨20, 160, .ar 20 71, [.i .u64 (.l 0), .i .u64 (.l 0), .i .u64 (.l 0), .i .u64 (.l 0), .i .u64 (.l 0), .i .u64 (.l 0), .i .u64 (.l 0), .i .u64 (.l 0), .i .u64 (.l 0), .i .u64 (.l 0), .i .u64 (.l 0), .i .u64 (.l 0), .i .u64 (.l 0), .i .u64 (.l 0), .i .u64 (.l 0), .i .u64 (.l 0), .i .u64 (.l 0), .i .u64 (.l 0), .i .u64 (.l 0), .i .u64 (.l 0)], none⟩),
  (130, ⟨65, 65, .ar 65 5, [.i .u8 (.l 0), .i .u8 (.l 0), .i .u8 (.l 0), .i .u8 (.l 0), .i .u8 (.l 0), .i .u8 (.l 0), .i .u8 (.l 0), .i .u8 (.l 0), .i .u8 (.l 0), .i .u8 (.l 0), .i .u8 (.l 0), .i .u8 (.l 0), .i .u8 (.l 0), .i .u8 (.l 0), .i .u8 (.l 0), .i .u8 (.l 0), .i .u8 (.l 0), .i .u8 (.l 0), .i .u8 (.l 0), .i .u8 (.l 0), .i .u8 (.l 0), .i .u8 (.l 0), .i .u8 (.l 0), .i .u8 (.l 0), .i .u8 (.l 0), .i .u8 (.l 0), .i .u8 (.l 0), .i .u8 (.l 0), .i .u8 (.l 0), .i .u8 (.l 0), .i .u8 (.l 0), .i .u8 (.l 0), .i .u8 (.l 0), .i .u8 (.l 0), .i .u8 (.l 0), .i .u8 (.l 0), .i .u8 (.l 0), .i .u8 (.l 0), .i .u8 (.l 0), .i .u8 (.l 0), .i .u8 (.l 0), .i .u8 (.l 0), .i .u8 (.l 0), .i .u8 (.l 0), .i .u8 (.l 0), .i .u8 (.l 0), .i .u8 (.l 0), .i .u8 (.l 0), .i .u8 (.l 0), .i .u8 (.l 0), .i .u8 (.l 0), .i .u8 (.l 0), .i .u8 (.l 0), .i .u8 (.l 0), .i .u8 (.l 0), .i .u8 (.l 0), .i .u8 (.l 0), .i .u8 (.l 0), .i .u8 (.l 0), .i .u8 (.l 0), .i .u8 (.l 0), .i .u8 (.l 0), .i .u8 (.l 0), .i .u8 (.l 0), .i .u8 (.l 0)], none⟩),
  (138, ⟨32, 32, .ar 32 5, [.i .u8 (.l 0), .i .u8 (.l 0), .i .u8 (.l 0), .i .u8 (.l 0), .i .u8 (.l 0), .i .u8 (.l 0), .i .u8 (.l 0), .i .u8 (.l 0), .i .u8 (.l 0), .i .u8 (.l 0), .i .u8 (.l 0), .i .u8 (.l 0), .i .u8 (.l 0), .i .u8 (.l 0), .i .u8 (.l 0), .i .u8 (.l 0), .i .u8 (.l 0), .i .u8 (.l 0), .i .u8 (.l 0), .i .u8 (.l 0), .i .u8 (.l 0), .i .u8 (.l 0), .i .u8 (.l 0), .i .u8 (.l 0), .i .u8 (.l 0), .i .u8 (.l 0), .i .u8 (.l 0), .i .u8 (.l 0), .i .u8 (.l 0), .i .u8 (.l 0), .i .u8 (.l 0), .i .u8 (.l 0)], none⟩),
  (139, ⟨64, 64, .ar 64 5, [.i .u8 (.l 0), .i .u8 (.l 0), .i .u8 (.l 0), .i .u8 (.l 0), .i .u8 (.l 0), .i .u8 (.l 0), .i .u8 (.l 0), .i .u8 (.l 0), .i .u8 (.l 0), .i .u8 (.l 0), .i .u8 (.l 0), .i .u8 (.l 0), .i .u8 (.l 0), .i .u8 (.l 0), .i .u8 (.l 0), .i .u8 (.l 0), .i .u8 (.l 0), .i .u8 (.l 0), .i .u8 (.l 0), .i .u8 (.l 0), .i .u8 (.l 0), .i .u8 (.l 0), .i .u8 (.l 0), .i .u8 (.l 0), .i .u8 (.l 0), .i .u8 (.l 0), .i .u8 (.l 0), .i .u8 (.l 0), .i .u8 (.l 0), .i .u8 (.l 0), .i .u8 (.l 0), .i .u8 (.l 0), .i .u8 (.l 0), .i .u8 (.l 0), .i .u8 (.l 0), .i .u8 (.l 0), .i .u8 (.l 0), .i .u8 (.l 0), .i .u8 (.l 0), .i .u8 (.l 0), .i .u8 (.l 0), .i .u8 (.l 0), .i .u8 (.l 0), .i .u8 (.l 0), .i .u8 (.l 0), .i .u8 (.l 0), .i .u8 (.l 0), .i .u8 (.l 0), .i .u8 (.l 0), .i .u8 (.l 0), .i .u8 (.l 0), .i .u8 (.l 0), .i .u8 (.l 0), .i .u8 (.l 0), .i .u8 (.l 0), .i .u8 (.l 0), .i .u8 (.l 0), .i .u8 (.l 0), .i .u8 (.l 0), .i .u8 (.l 0), .i .u8 (.l 0), .i .u8 (.l 0), .i .u8 (.l 0), .i .u8 (.l 0)], none⟩),
  (140, ⟨4, 40, .st [(0, 17), (1, 17), (2, 17), (3, 9)], [.pn, .pn, .pn, .s fun _ => .empty], none⟩),
  (141, ⟨4, 40, .st [(0, 17), (1, 17), (2, 17), (3, 9)], [.pn, .pn, .pn, .s fun _ => .empty], none⟩),
  (142, ⟨0, 0, .ar 0 16, [], none⟩),
  (143, ⟨0, 0, .st [(0, 142)], [], none⟩),
  (144, ⟨0, 0, .st [(0, 142)], [], none⟩),
  (145, ⟨1, 1, .cell, [.i .u8 (.l 0)], some (.inl .u8)⟩),
  (146, ⟨1, 1, .cell, [.i .u8 (.l 0)], some (.inl .u8)⟩),
  (148, ⟨1, 4, .cell, [.i .i32 (.l 0)], some (.inl .i32)⟩),
  (149, ⟨1, 4, .cell, [.i .i32 (.l 0)], some (.inl .i32)⟩),
  (150, ⟨11, 48, .st [(0, 12), (1, 12), (2, 67), (3, 145), (4, 5), (5, 5), (6, 146), (7, 147), (8, 119), (9, 148), (10, 149)], [.i .u64 (.l 0), .i .u64 (.l 0), .i .u32 (.l 0), .i .u8 (.l 0), .i .u8 (.l 0), .i .u8 (.l 0), .i .u8 (.l 0), .fnn, .pn, .i .i32 (.l 0), .i .i32 (.l 0)], none⟩),
  (151, ⟨11, 48, .st [(0, 12), (1, 12), (2, 67), (3, 145), (4, 5), (5, 5), (6, 146), (7, 147), (8, 119), (9, 148), (10, 149)], [.i .u64 (.l 0), .i .u64 (.l 0), .i .u32 (.l 0), .i .u8 (.l 0), .i .u8 (.l 0), .i .u8 (.l 0), .i .u8 (.l 0), .fnn, .pn, .i .i32 (.l 0), .i .i32 (.l 0)], none⟩)]
def tt : TT := fun t => ttGetL ttl t
theorem tts : TtOk Tryd.prog tt := ttOk_list (l := ttl) (by kernel_rfl)
theorem mixed : Tryd.prog.follows .mixedOrders = true := by kernel_rfl
def bodyOf (f : Func) : Code := f.body.getD .skip
abbrev F (x : Nat) : V := .c (.f .f32 fun _ => x)
abbrev vB (x : Bool) : V := .c (.b (.x fun _ => x))
abbrev vI (x : Int) : V := .c (.i .i64 (.x fun _ => x))
def isIn (a lo hi : Nat) : Bool := fcmp .geq .f32 a lo && fcmp .leq .f32 a hi
def inI (n lo hi : Int) : Bool := leB lo n && leB n hi
theorem ltB_iff {a b : Int} : ltB a b = true ↔ a < b := by simp [ltB]
theorem ltB_no {a b : Int} : ltB a b = false ↔ ¬ a < b := by simp [ltB]
theorem leB_iff {a b : Int} : leB a b = true ↔ a ≤ b := by simp [leB]
theorem leB_no {a b : Int} : leB a b = false ↔ ¬ a ≤ b := by simp [leB]
theorem inI_iff {n lo hi : Int} : inI n lo hi = true ↔ lo ≤ n ∧ n ≤ hi := by simp [inI, leB]
def isSpd (a : Nat) : Bool := isIn a 1031798784 1149239296
def isPlain (a : Nat) : Bool := isIn a 3380609024 1233125376
def isStiff (a : Nat) : Bool := isIn a 1065353216 1233125376
def isFeed (a : Nat) : Bool := isIn a 3296722944 1149239296
def isTime (a : Nat) : Bool := isIn a 0 1149239296
def isFilm (a : Nat) : Bool := isIn a 0 1233125376
def mul (a b : Nat) : Nat := fop .mul .f32 a b
def cv (a : Nat) : Nat := (floatToFloatBits .f32 a .f64).getD (qn .f64)
def sameF (a b : Nat) : Bool :=
  if fcmp .neq .f64 a a || fcmp .neq .f64 b b then fcmp .neq .f64 a a && fcmp .neq .f64 b b
  else if fcmp .eql .f64 a 0 && fcmp .eql .f64 b 0 then fcmp .gtr .f64 (fop .quo .f64 4607182418800017408 a) 0 == fcmp .gtr .f64 (fop .quo .f64 4607182418800017408 b) 0
  else fcmp .eql .f64 a b
theorem sameF_refl (a : Nat) : sameF a a = true := by
  unfold sameF fcmp
  cases h : FloatKind.f64.format.order a a <;> simp
  rename_i o
  cases o <;> simp
/-- for all smaller ones -/
def allI (p : Nat → Bool) : Nat → Bool
  | 0 => true
  | k + 1 => allI p k && p k
theorem allI_at {p : Nat → Bool} : ∀ {n i : Nat}, allI p n = true → i < n → p i = true
  | n + 1, i, h, hi => by
    simp only [allI, Bool.and_eq_true] at h
    by_cases e : i = n
    · subst e; simpa using h.2
    · exact allI_at h.1 (by omega)
theorem allI_no {p : Nat → Bool} {n i : Nat} (h : i < n) (hp : p i = false) : allI p n = false := by
  cases e : allI p n
  · rfl
  · rw [allI_at e h] at hp; cases hp
theorem allI_all {p : Nat → Bool} : ∀ {n : Nat}, (∀ i, i < n → p i = true) → allI p n = true
  | 0, _ => rfl
  | n + 1, h => by simp [allI, allI_all (n := n) (fun i hi => h i (by omega)), h n (by omega)]
/-- cells that are written from the front -/
def fillTo (f : Nat → Nat) (l : List Nat) (m : Nat) : List Nat := (List.range m).map f ++ l.drop m
theorem fillTo_len (f : Nat → Nat) (l : List Nat) {m : Nat} (h : m ≤ l.length) : (fillTo f l m).length = l.length := by simp [fillTo]; omega
theorem fillTo_zero (f : Nat → Nat) (l : List Nat) : fillTo f l 0 = l := by simp [fillTo]
theorem fillTo_set (f : Nat → Nat) (l : List Nat) {m : Nat} (h : m < l.length) : (fillTo f l m).set m (f m) = fillTo f l (m + 1) := by
  unfold fillTo
  rw [List.set_append_right _ _ (by simp)]
  simp only [List.length_map, List.length_range, Nat.sub_self]
  have e : (l.drop m).set 0 (f m) = f m :: l.drop (m + 1) := by rw [List.drop_eq_getElem_cons h]; rfl
  rw [e]
  simp [List.range_succ]
theorem fillTo_lo (f : Nat → Nat) (l : List Nat) {i m : Nat} (h : i < m) : (fillTo f l m).getD i 0 = f i := by
  simp [fillTo, List.getD_eq_getElem?_getD, List.getElem?_append, h]
theorem fillTo_hi (f : Nat → Nat) (l : List Nat) {i m : Nat} (h : m ≤ i) : (fillTo f l m).getD i 0 = l.getD i 0 := by
  simp only [fillTo, List.getD_eq_getElem?_getD, List.getElem?_append, List.length_map, List.length_range]
  rw [if_neg (by omega), List.getElem?_drop, show m + (i - m) = i by omega]
theorem fillTo_skip (f : Nat → Nat) (l : List Nat) {m : Nat} (h : m < l.length) (e : f m = l.getD m 0) : fillTo f l m = fillTo f l (m + 1) := by
  rw [← fillTo_set f l h, e]
  refine List.ext_getElem? fun j => ?_
  rw [List.getElem?_set]
  split
  · rename_i hj
    subst hj
    have hl : m < (fillTo f l m).length := by rw [fillTo_len _ _ (Nat.le_of_lt h)]; exact h
    rw [if_pos hl]
    have := fillTo_hi f l (Nat.le_refl m)
    rw [List.getD_eq_getElem?_getD, List.getElem?_eq_getElem hl] at this
    rw [List.getElem?_eq_getElem hl]
    simpa using this
  · rfl
theorem fill_ext {f g : Nat → Nat} {l : List Nat} {m : Nat} (h : ∀ i, i < m → f i = g i) : fillTo f l m = fillTo g l m := by
  unfold fillTo
  congr 1
  exact List.map_congr_left fun i hi => h i (by simpa using hi)
theorem fill_all (l : List Nat) (l' : List Nat) {m : Nat} (h : m = l.length) (h' : l'.length ≤ m) : fillTo (fun j => l.getD j 0) l' m = l := by
  unfold fillTo
  rw [List.drop_eq_nil_of_le h', List.append_nil]
  refine List.ext_getElem? fun j => ?_
  rw [List.getElem?_map]
  by_cases hj : j < m
  · rw [List.getElem?_range hj]
    simp [List.getD_eq_getElem?_getD, List.getElem?_eq_getElem (show j < l.length by omega)]
  · rw [List.getElem?_eq_none (by simpa using hj), List.getElem?_eq_none (by omega)]; rfl
/-- three cells to a span -/
theorem fill3 (f : Nat → Nat) (l : List Nat) {i : Nat} (h : i * 3 + 2 < l.length) : (((fillTo f l (i * 3)).set (i * 3) (f (i * 3))).set (i * 3 + 1) (f (i * 3 + 1))).set (i * 3 + 2) (f (i * 3 + 2)) = fillTo f l ((i + 1) * 3) := by
  rw [fillTo_set _ _ (by omega), fillTo_set _ _ (by omega), fillTo_set _ _ (by omega), show (i + 1) * 3 = i * 3 + 2 + 1 by omega]
theorem fill2 (f : Nat → Nat) (l : List Nat) {i : Nat} (h : i * 3 + 2 < l.length) (e : f (i * 3) = l.getD (i * 3) 0) : ((fillTo f l (i * 3)).set (i * 3 + 1) (f (i * 3 + 1))).set (i * 3 + 2) (f (i * 3 + 2)) = fillTo f l ((i + 1) * 3) := by
  rw [fillTo_skip f l (by omega) e, fillTo_set _ _ (by omega), fillTo_set _ _ (by omega), show (i + 1) * 3 = i * 3 + 2 + 1 by omega]
theorem fill1 (f : Nat → Nat) (l : List Nat) {i : Nat} (h : i * 3 + 2 < l.length) (e : f (i * 3) = l.getD (i * 3) 0) (e' : f (i * 3 + 1) = l.getD (i * 3 + 1) 0) : (fillTo f l (i * 3)).set (i * 3 + 2) (f (i * 3 + 2)) = fillTo f l ((i + 1) * 3) := by
  rw [fillTo_skip f l (by omega) e, fillTo_skip f l (by omega) e', fillTo_set _ _ (by omega), show (i + 1) * 3 = i * 3 + 2 + 1 by omega]
theorem repL3_len : ∀ n : Nat, (repL [0, 0, 0] n).length = 3 * n
  | 0 => rfl
  | n + 1 => by simp [repL, repL3_len n]; omega
theorem seg_all {l : List Nat} {n : Nat} (h : l.length = 3 * n) : (l.drop 0).take (n * 3) = l := by
  rw [List.drop_zero]; exact List.take_of_length_le (by omega)
/-! webs -/
def spanOk (l : List Nat) (i : Nat) : Bool := isSpd (l.getD (i * 3) 0) && isSpd (l.getD (i * 3 + 1) 0) && isPlain (l.getD (i * 3 + 2) 0)
def webOk (st sp fd : Nat) (l : List Nat) (n : Nat) : Bool := isStiff st && isSpd sp && isFeed fd && decide (1 ≤ n ∧ n ≤ 8) && allI (spanOk l) n
def uB (sp : Nat) (l : List Nat) (i : Nat) : Nat := if i = 0 then sp else l.getD ((i - 1) * 3 + 1) 0
def tB (fd : Nat) (l : List Nat) (i : Nat) : Nat := if i = 0 then fd else l.getD ((i - 1) * 3 + 2) 0
def rateW (st sp fd : Nat) (l : List Nat) (i : Nat) : Nat :=
  fop .quo .f32 (fop .add .f32 (fop .mul .f32 st (fop .sub .f32 (l.getD (i * 3 + 1) 0) (uB sp l i)))
    (fop .sub .f32 (fop .mul .f32 (uB sp l i) (tB fd l i)) (fop .mul .f32 (l.getD (i * 3 + 1) 0) (l.getD (i * 3 + 2) 0)))) (l.getD (i * 3) 0)
/-- the tensions are set -/
def tenF (l : List Nat) (g : Nat → Nat) (j : Nat) : Nat := if j % 3 = 2 then g (j / 3) else l.getD j 0
def tenTo (l : List Nat) (g : Nat → Nat) (i : Nat) : List Nat := fillTo (tenF l g) l (i * 3)
theorem tenTo_len (l : List Nat) (g : Nat → Nat) {i : Nat} (h : i * 3 ≤ l.length) : (tenTo l g i).length = l.length := fillTo_len _ _ h
theorem tenTo_zero (l : List Nat) (g : Nat → Nat) : tenTo l g 0 = l := fillTo_zero _ _
theorem tenTo_step (l : List Nat) (g : Nat → Nat) {i : Nat} (h : i * 3 + 2 < l.length) : (tenTo l g i).set (i * 3 + 2) (g i) = tenTo l g (i + 1) := by
  have e0 : tenF l g (i * 3) = l.getD (i * 3) 0 := by unfold tenF; rw [if_neg (by omega)]
  have e1 : tenF l g (i * 3 + 1) = l.getD (i * 3 + 1) 0 := by unfold tenF; rw [if_neg (by omega)]
  have e2 : tenF l g (i * 3 + 2) = g i := by unfold tenF; rw [if_pos (by omega), show (i * 3 + 2) / 3 = i by omega]
  have := fill1 (tenF l g) l h e0 e1
  rw [e2] at this
  exact this
/-- the web behind a step -/
def stepF (st sp fd tm : Nat) (l : List Nat) (i : Nat) : Nat := fop .add .f32 (l.getD (i * 3 + 2) 0) (fop .mul .f32 tm (rateW st sp fd l i))
def stepW (st sp fd tm : Nat) (l : List Nat) (n : Nat) : List Nat := tenTo l (stepF st sp fd tm l) n
/-- the web behind so many steps -/
def runW (st sp fd tm n : Nat) (l : List Nat) : Nat → List Nat
  | 0 => l
  | k + 1 => stepW st sp fd tm (runW st sp fd tm n l k) n
theorem runW_len (st sp fd tm n : Nat) (l : List Nat) (h : l.length = 3 * n) : ∀ k, (runW st sp fd tm n l k).length = 3 * n
  | 0 => h
  | k + 1 => by
    have := runW_len st sp fd tm n l h k
    show (tenTo _ _ _).length = _
    rw [tenTo_len _ _ (by omega)]; exact this
def goodW (st sp fd tm n : Nat) (l : List Nat) (k : Nat) : Bool := webOk st sp fd (runW st sp fd tm n l (k + 1)) n
theorem sz_ok {n : Nat} (h : ¬ (if (1048576 : Int) - (n : Int) < 0 then (-1 : Int) else 1048576 - (n : Int)) < 0) : n ≤ 1048576 := by
  split at h <;> omega
def sameSp (l l' : List Nat) (i : Nat) : Bool := sameF (cv (l.getD (i * 3) 0)) (cv (l'.getD (i * 3) 0)) && sameF (cv (l.getD (i * 3 + 1) 0)) (cv (l'.getD (i * 3 + 1) 0)) && sameF (cv (l.getD (i * 3 + 2) 0)) (cv (l'.getD (i * 3 + 2) 0))
def sameSps (l l' : List Nat) (n : Nat) : Bool := allI (sameSp l l') n
theorem sameSps_self (l : List Nat) (n : Nat) : sameSps l l n = true := allI_all fun i _ => by simp [sameSp, sameF_refl]
end Go.Proofs.YteifneielgnniaaDoor.Sh
end
section
namespace Go.Proofs.YteifneielgnniaaDoor.Sh
open Go Go.Proofs
section
theorem e30a : Extern.findNext Tryd.f41 = none := by rfl
theorem e30b : Extern.find Tryd.f41 = some Extern.MathFloatBits.float32bits := by rfl
theorem ext41 (b : Nat) (w : World) : (callFunc 41 #[.float .f32 b]).run Tryd.prog w = .ok (.value (.int .u32 b)) w := by
  rw [run_callFunc_extern Tryd.func41 (by rfl) (by rfl) e30a e30b]; rfl
def s41 : Spec := fun args H => match args with
  | [.c (.f .f32 e)] => some (.c (.i .u32 (.x fun _ => (e () : Int))), H, [fun _ => isNan (e ()) = false])
  | _ => none
theorem ok41 : Ok Tryd.prog 41 s41 := by
  intro args H v H' o hs ho μ W w vs hW hH hr
  unfold s41 at hs
  split at hs
  · rename_i e
    cases hs
    match vs, hr with
    | [x], hr =>
      obtain ⟨⟨b, rfl, hb⟩, _⟩ := hr
      refine .inr ⟨_, _, ext41 b w, μ, agree.refl _ _, Nat.le_refl _, hH, ?_, Fr.refl _ _⟩
      have hn := ho.one
      rw [isNan_eq] at hn
      rcases hb with rfl | ⟨h1, h2⟩
      · rfl
      · have h2 : (Ieee.single.read (e ())).isNaN = true := h2
        rw [h2] at hn; cases hn
  · cases hs
def bitsX (a : Nat) : Nat := if isNan a = true then 2143289344 else a
theorem bits_t {a : Nat} (h : isNan a = true) : bitsX a = 2143289344 := if_pos h
theorem bits_f {a : Nat} (h : isNan a = false) : bitsX a = a := if_neg (by rw [h]; decide)
theorem bool_ft (b : Bool) : b = false ∨ b = true := by cases b <;> simp
theorem ntf {b : Bool} (h : b = true) : (!b) = false := by rw [h]; rfl
theorem nft {b : Bool} (h : b = false) : (!b) = true := by rw [h]; rfl
theorem fn37 : FnOk Tryd.prog 37 Tryd.f37 (bodyOf Tryd.f37) := ⟨Tryd.func37, rfl, by rfl⟩
def s37 : Spec := hspec fun args H => match args, H with
  | [.c (.f .f32 a)], [] => some (.c (.i .u32 (.x fun _ => (bitsX (a ()) : Int))), [], [])
  | _, _ => none
def E37 : Env := fun g => envGetL [(41, ⟨true, s41, none⟩)] g
theorem E37ok : EnvOk Tryd.prog E37 := envOk_cons ok41 (envOk_nil _)
set_option maxRecDepth 100000 in
set_option maxHeartbeats 1000000 in
theorem ok37 : Ok Tryd.prog 37 (s37) := ok_of_wpaH (E := E37) mixed tts E37ok fn37 fun args H v H' o hs ho => by
  split at hs
  · rename_i a
    cases hs
    refine ⟨_, HLe.refl _, ?_⟩
    cbv
    rcases bool_ft (isNan (a ⟨⟩)) with h | h
    · have e1 : ((a ⟨⟩ : Nat) : Int) = (bitsX (a ⟨⟩) : Int) := by rw [bits_f h]
      refine Br.f h ?_
      cbv
      repeat' (refine Ob.mk ?_ ?_; (focus (first | exact h | exact e1 | exact rfl)); cbv)
    · have e1 : (2143289344 : Int) = (bitsX (a ⟨⟩) : Int) := by rw [bits_t h]; rfl
      refine Br.t h ?_
      cbv
      repeat' (refine Ob.mk ?_ ?_; (focus (first | exact e1 | exact rfl)); cbv)
  · cases hs
end
section
theorem wrapU32 {x : Int} (h0 : 0 ≤ x) (h1 : x < 4294967296) : IntKind.wrap .u32 x = x := by
  unfold IntKind.wrap IntKind.signed IntKind.bits
  simp
  omega
def hxI (d : Nat) : Int := ([48, 49, 50, 51, 52, 53, 54, 55, 56, 57, 97, 98, 99, 100, 101, 102] : List Int).getD d 0
def sh (x j : Nat) : Nat := x / 16 ^ j
theorem sh_0 (x : Nat) : sh x 0 = x := by unfold sh; simp
theorem sh_s (x j : Nat) : sh x j / 16 = sh x (j + 1) := by unfold sh; rw [Nat.div_div_eq_div_mul, Nat.pow_succ]
theorem sh_le (x j : Nat) : sh x j ≤ x := Nat.div_le_self _ _
theorem tmod16 (n : Nat) : ((n : Int).tmod 16) = ((n % 16 : Nat) : Int) := rfl
theorem dig_at : ∀ d, d < 16 → (((({ data := #[48, 49, 50, 51, 52, 53, 54, 55, 56, 57, 97, 98, 99, 100, 101, 102] } : ByteArray).data.toList.getD d 0).toNat : Nat) : Int) = hxI d := by decide
theorem dig_mod (n : Nat) : (((({ data := #[48, 49, 50, 51, 52, 53, 54, 55, 56, 57, 97, 98, 99, 100, 101, 102] } : ByteArray).data.toList.getD ((n : Int).tmod 16).toNat 0).toNat : Nat) : Int) = hxI (n % 16) := by
  rw [tmod16]
  exact dig_at _ (Nat.mod_lt _ (by decide))
/-- so many digits are laid, from the right -/
def hexTo (x : Nat) : Nat → List Int
  | 0 => [0, 0, 0, 0, 0, 0, 0, 0]
  | j + 1 => (hexTo x j).set (7 - j) (hxI (sh x j % 16))
theorem hexTo_len (x : Nat) : ∀ j, (hexTo x j).length = 8
  | 0 => rfl
  | j + 1 => by unfold hexTo; rw [List.length_set, hexTo_len x j]
def hexT (x : Nat) : ByteArray := bytesT (hexTo x 8)
theorem bitsX_lt {a : Nat} (h : a < 4294967296) : bitsX a < 4294967296 := by
  unfold bitsX; split <;> omega
end
section
theorem push_size : ∀ (l : List Int) (r : ByteArray), (l.foldl (fun r n => r.push (UInt8.ofNat n.toNat)) r).size = r.size + l.length
  | [], r => rfl
  | n :: l, r => by
    rw [List.foldl_cons, push_size l, ByteArray.size_push, List.length_cons]; omega
theorem bytesT_size (l : List Int) : (bytesT l).size = l.length := by
  unfold bytesT; rw [push_size]; simp
theorem hexT_size (x : Nat) : (hexT x).size = 8 := by unfold hexT; rw [bytesT_size, hexTo_len]
abbrev spT : ByteArray := { data := #[32] }
abbrev nlT : ByteArray := { data := #[10] }
abbrev numT (a : Nat) : ByteArray := hexT (bitsX a)
theorem numT_size (a : Nat) : (numT a).size = 8 := hexT_size _
def lineT (a b c : Nat) : ByteArray := numT a ++ spT ++ numT b ++ spT ++ numT c ++ nlT
theorem spT_size : spT.size = 1 := rfl
theorem nlT_size : nlT.size = 1 := rfl
theorem lineT_size (a b c : Nat) : (lineT a b c).size = 27 := by
  unfold lineT
  simp only [ByteArray.size_append, numT_size, spT_size, nlT_size]
/-- the first line and so many lines of spans -/
def textW (st sp fd : Nat) (l : List Nat) : Nat → ByteArray
  | 0 => lineT st sp fd
  | i + 1 => textW st sp fd l i ++ lineT (l.getD (i * 3) 0) (l.getD (i * 3 + 1) 0) (l.getD (i * 3 + 2) 0)
theorem textW_size (st sp fd : Nat) (l : List Nat) : ∀ i, (textW st sp fd l i).size = 27 * (i + 1)
  | 0 => lineT_size _ _ _
  | i + 1 => by unfold textW; rw [ByteArray.size_append, textW_size st sp fd l i, lineT_size]; omega
def wordsOk (l : List Nat) : Prop := ∀ x ∈ l, x < 4294967296
theorem line_eq (a b c : Nat) : numT a ++ spT ++ numT b ++ spT ++ numT c ++ nlT = lineT a b c := rfl
theorem textW_0 (st sp fd : Nat) (l : List Nat) : lineT st sp fd = textW st sp fd l 0 := rfl
theorem textW_s (st sp fd : Nat) (l : List Nat) (i : Nat) : textW st sp fd l i ++ lineT (l.getD (i * 3) 0) (l.getD (i * 3 + 1) 0) (l.getD (i * 3 + 2) 0) = textW st sp fd l (i + 1) := rfl
theorem word_at {l : List Nat} (h : wordsOk l) (j : Nat) : l.getD j 0 < 4294967296 := by
  rw [List.getD_eq_getElem?_getD]
  cases e : l[j]? with
  | none => decide
  | some x => exact h x (List.mem_of_getElem? e)
attribute [local irreducible] hexT lineT textW bitsX
end
section
attribute [local irreducible] hexT lineT textW bitsX webOk
end
end Go.Proofs.YteifneielgnniaaDoor.Sh
end
section
namespace Go.Proofs.YteifneielgnniaaDoor.Sh
open Go Go.Proofs
section
/-! ## the digits of a number -/
def nd (x : Nat) : Nat := if h : x < 16 then 1 else nd (x / 16) + 1
termination_by x
decreasing_by omega
theorem nd_lt {x : Nat} (h : x < 16) : nd x = 1 := by unfold nd; rw [dif_pos h]
theorem nd_ge {x : Nat} (h : ¬ x < 16) : nd x = nd (x / 16) + 1 := by
  conv => lhs; unfold nd
  rw [dif_neg h]
def digL (x : Nat) : Nat → List Int
  | 0 => []
  | k + 1 => hxI (sh x k % 16) :: digL x k
theorem digL_len (x : Nat) : ∀ k, (digL x k).length = k
  | 0 => rfl
  | k + 1 => by unfold digL; rw [List.length_cons, digL_len x k]
def arrX (x k : Nat) : List Int := List.replicate (65 - k) 0 ++ digL x k
theorem arrX_len (x : Nat) {k : Nat} (h : k ≤ 65) : (arrX x k).length = 65 := by
  unfold arrX; rw [List.length_append, List.length_replicate, digL_len]; omega
theorem arrX_set (x : Nat) {k : Nat} (h : k ≤ 64) : (arrX x k).set (64 - k) (hxI (sh x k % 16)) = arrX x (k + 1) := by
  unfold arrX
  rw [show 65 - k = (64 - k) + 1 by omega, List.replicate_succ', List.append_assoc, List.set_append_right _ _ (by simp), List.length_replicate, Nat.sub_self, show 65 - (k + 1) = 64 - k by omega]
  rfl
theorem arrX_drop (x : Nat) {k : Nat} (h : k ≤ 65) : ((arrX x k).drop (65 - k)).take (65 - (65 - k)) = digL x k := by
  unfold arrX
  rw [List.drop_append_of_le_length (by simp), List.drop_eq_nil_of_le (by simp), List.nil_append, List.take_of_length_le (by rw [digL_len]; omega)]
/-- the least number of digits -/
def hexM (x : Nat) : ByteArray := bytesT (digL x (nd x))
theorem sh_big {x k : Nat} (hx : x < 4294967296) (h : ¬ sh x k < 16) (hk : k ≤ 7) : k + 1 ≤ 7 := by
  by_cases h7 : k = 7
  · subst h7
    exfalso; apply h
    unfold sh
    exact Nat.div_lt_of_lt_mul (by omega)
  · omega
theorem iand16 {n : Nat} (h : n < 18446744073709551616) : iand .u64 (n : Int) 15 = ((n % 16 : Nat) : Int) := by
  unfold iand
  have e : (BitVec.ofInt 64 (n : Int) &&& BitVec.ofInt 64 15).toNat = n % 16 := by
    rw [BitVec.toNat_and, BitVec.toNat_ofInt, BitVec.toNat_ofInt]
    have e1 : (((n : Int) % ((2 ^ 64 : Nat) : Int)).toNat) = n := by omega
    have e2 : (((15 : Int) % ((2 ^ 64 : Nat) : Int)).toNat) = 15 := by decide
    rw [e1, e2, show (15 : Nat) = 2 ^ 4 - 1 from rfl, Nat.and_two_pow_sub_one_eq_mod]
  show IntKind.wrap .u64 ((BitVec.ofInt 64 (n : Int) &&& BitVec.ofInt 64 15).toNat : Int) = _
  rw [e]
  unfold IntKind.wrap IntKind.signed IntKind.bits
  simp
  omega
theorem ishr4 (n : Nat) : ishr .u64 (n : Int) 4 = ((n / 16 : Nat) : Int) := by
  unfold ishr
  show Int.fdiv (n : Int) 16 = _
  rw [Int.fdiv_eq_ediv_of_nonneg _ (by decide)]
  rfl
theorem wrapU64 {x : Int} (h0 : 0 ≤ x) (h1 : x < 18446744073709551616) : IntKind.wrap .u64 x = x := by
  unfold IntKind.wrap IntKind.signed IntKind.bits
  simp
  omega
theorem dig36 : ∀ d, d < 16 → (((({ data := { toList := 48 :: 49 :: 50 :: 51 :: 52 :: 53 :: 54 :: 55 :: 56 :: 57 :: 97 :: 98 :: 99 :: 100 :: 101 :: 102 :: 103 :: 104 :: 105 :: 106 :: 107 :: 108 :: 109 :: 110 :: 111 :: 112 :: 113 :: 114 :: 115 :: 116 :: 117 :: 118 :: 119 :: 120 :: 121 :: 122 :: [] } } : ByteArray).data.toList.getD d 0).toNat : Nat) : Int) = hxI d := by decide
theorem fn95 : FnOk Tryd.prog 95 Tryd.f95 (bodyOf Tryd.f95) := ⟨Tryd.func95, rfl, by rfl⟩
theorem tz64 (w : World) (h : w.cell? ⟨8, 15, none⟩ = some (.int .u8 4)) : Calls Tryd.prog 95 #[.int .u64 16] w fun e w' => e = .returned (.int .i64 4) ∧ w' = w := by
  have h7 : IntKind.u64.wrap (-16) = 18446744073709551600 := by decide +kernel
  have h8 : bits BinOp.and IntKind.u64 16 18446744073709551600 = 16 := by decide +kernel
  have h9 : IntKind.u64.wrap (16 * 285870213051353865) = 4573923408821661840 := by decide +kernel
  have h9' : IntKind.u64.wrap 4573923408821661840 = 4573923408821661840 := by decide +kernel
  go_enter Tryd.func95, Tryd.ntmps95
  go_wp2
  go_ret
  exact ⟨rfl, rfl⟩
def s95 : Spec := fun args H => match args with
  | [.c (.i .u64 e)] => some (.c (.i .i64 (.l 4)), H, [fun _ => e.val = 16])
  | _ => none
theorem ok95 : Ok Tryd.prog 95 s95 := by
  intro args H v H' o hs ho μ W w vs hW hH hr
  unfold s95 at hs
  split at hs
  · rename_i e
    cases hs
    match vs, hr with
    | [x], hr =>
      obtain ⟨hx, _⟩ := hr
      have he := ho.one
      have hx : x = .int .u64 e.val := hx
      have he : e.val = 16 := he
      rw [he] at hx
      subst hx
      obtain ⟨_, _, v0, ht, rfl⟩ := hW.tab (8, 15, fun v => v = .int .u8 4) (by simp [tabCells])
      exact .inl ⟨callFunc_run fn95 _ _, (tz64 w ht).mono fun e' w' ⟨h1, h2⟩ => ⟨_, h1, μ, agree.refl _ _, Nat.le_refl _, h2 ▸ hH, rfl, h2 ▸ Fr.refl _ _⟩⟩
  · cases hs
theorem fn90 : FnOk Tryd.prog 90 Tryd.f90 (bodyOf Tryd.f90) := ⟨Tryd.func90, rfl, by rfl⟩
def s90 : Spec := hspec fun args H => match args, H with
  | [.c (.i .u64 (.x a))], [] => some (.c (.i .i64 (.l 4)), [], [fun _ => a () = 16])
  | _, _ => none
def E90 : Env := fun g => envGetL [(95, ⟨true, s95, none⟩)] g
theorem E90ok : EnvOk Tryd.prog E90 := envOk_cons ok95 (envOk_nil _)
set_option maxRecDepth 100000 in
set_option maxHeartbeats 1000000 in
theorem ok90 : Ok Tryd.prog 90 (s90) := ok_of_wpaH (E := E90) mixed tts E90ok fn90 fun args H v H' o hs ho => by
  split at hs
  · rename_i a
    cases hs
    have ha := ho.one
    refine ⟨_, HLe.refl _, ?_⟩
    cbv
    repeat' (refine Ob.mk ?_ ?_; (focus (first | exact ha | exact rfl)); cbv)
  · cases hs
theorem fn89 : FnOk Tryd.prog 89 Tryd.f89 (bodyOf Tryd.f89) := ⟨Tryd.func89, rfl, by rfl⟩
def s89 : Spec := hspec fun args H => match args, H with
  | [.c (.i .i64 (.x a))], [] => some (.c (.b (.x fun _ => true)), [], [fun _ => a () = 16])
  | _, _ => none
set_option maxRecDepth 100000 in
set_option maxHeartbeats 1000000 in
theorem ok89 : Ok Tryd.prog 89 (s89) := ok_of_wpaH (E := envGetL []) mixed tts (envOk_nil _) fn89 fun args H v H' o hs ho => by
  split at hs
  · rename_i a
    cases hs
    have ha : a ⟨⟩ = 16 := ho.one
    have e1 : (iand .i64 (a ⟨⟩) (IntKind.wrap .i64 (a ⟨⟩ - 1)) == 0) = true := by rw [ha]; decide
    refine ⟨_, HLe.refl _, ?_⟩
    cbv
    repeat' (refine Ob.mk ?_ ?_; (focus (first | exact e1 | exact rfl)); cbv)
  · cases hs
end
section
theorem fn77 : FnOk Tryd.prog 77 Tryd.f77 (bodyOf Tryd.f77) := ⟨Tryd.func77, rfl, by rfl⟩
def s77 : Spec := hspec fun args H => match args, H with
  | [.c .sn, .c (.i .u64 (.x u)), .c (.i .i64 (.x b)), .c (.b (.x ng)), .c (.b (.x ap))], [] => some (.t [.c .sn, .c (.s fun _ => hexM (u ()).toNat)], [], [fun _ => b () = 16 ∧ ng () = false ∧ ap () = false ∧ 0 ≤ u () ∧ u () < 4294967296])
  | _, _ => none
def E77 : Env := fun g => envGetL [(89, ⟨true, s89, none⟩), (90, ⟨true, s90, none⟩)] g
theorem E77ok : EnvOk Tryd.prog E77 := envOk_cons ok89 (envOk_cons ok90 (envOk_nil _))
set_option maxRecDepth 100000 in
set_option maxHeartbeats 4000000 in
theorem ok77 : Ok Tryd.prog 77 (s77) := ok_of_wpaH (E := E77) mixed tts E77ok fn77 fun args H v H' o hs ho => by
  split at hs
  · rename_i u b ng ap
    cases hs
    obtain ⟨hb, hng, hap, hu0, hu1⟩ := ho.one
    have hb : b ⟨⟩ = 16 := hb
    have hng : ng ⟨⟩ = false := hng
    have hap : ap ⟨⟩ = false := hap
    have hu0 : 0 ≤ u ⟨⟩ := hu0
    have hu1 : u ⟨⟩ < 4294967296 := hu1
    obtain ⟨x, hx⟩ : ∃ x : Nat, x = (u ⟨⟩).toNat := ⟨_, rfl⟩
    have hux : u ⟨⟩ = (x : Int) := by omega
    have hxl : x < 4294967296 := by omega
    have c1 : ltB (b ⟨⟩) 2 = false := by rw [hb]; decide
    have c2 : (b ⟨⟩ == 10) = false := by rw [hb]; decide
    have c3 : ltB 36 (b ⟨⟩) = false := by rw [hb]; decide
    have w1 : IntKind.wrap .u64 (b ⟨⟩) = 16 := by rw [hb]; decide
    have w2 : IntKind.wrap .u64 (IntKind.wrap .u64 (b ⟨⟩) - 1) = 15 := by rw [hb]; decide
    have e0 : u ⟨⟩ = (sh x 0 : Int) := by rw [sh_0, hux]
    have r0 : List.replicate 65 (0 : Int) = arrX x 0 := by unfold arrX; rw [show digL x 0 = [] from rfl, List.append_nil]
    refine ⟨_, HLe.refl _, ?_⟩
    cbv
    refine Br.f c1 ?_
    cbv
    refine Br.f c2 ?_
    cbv
    refine Br.f c3 ?_
    cbv
    refine Br.f hng ?_
    cbv
    repeat' (refine Ob.mk ?_ ?_; (focus (first | exact hb | exact rfl)); cbv)
    refine Br.t rfl ?_
    cbv
    repeat' (refine Ob.mk ?_ ?_; (focus (first | exact w1 | exact rfl)); cbv)
    refine loop_rule (α := Unit → Nat) (c := ⟨tt, E77, 0⟩)
        (fun k => fr 102 [(0, .c .sn), (1, .c (.i .u64 (.x fun _ => (sh x (k ()) : Int)))), (3, .c (.b (.x ng))), (4, .c (.b (.x ap))), (10, .c .sn), (12, .c (.p 0 (.l 0))), (13, .c (.i .i64 (.x fun _ => ((65 - k () : Nat) : Int)))), (14, .c (.i .u64 (.l 4))), (15, .c (.i .u64 (.l 16))), (16, .c (.i .u64 (.l 15)))]) (fun k => [some ⟨true, 0, .it .u8 fun _ => arrX x (k ())⟩])
        (fun k => k () ≤ 7 ∧ nd x = k () + nd (sh x (k ()))) (fun k => sh x (k ())) (fun _ => x + 1) ?_ ?_
    · refine .mk (fun _ => 0) ⟨Nat.zero_le _, by show nd x = 0 + nd (sh x 0); rw [sh_0, Nat.zero_add]⟩ (by show sh x 0 < x + 1; rw [sh_0]; omega) ?_
      cbv
      repeat' (refine Ob.mk ?_ ?_; (focus (first | with_reducible rfl | exact e0 | exact w1 | exact w2 | exact r0 | exact rfl)); cbv)
    · intro k hk
      obtain ⟨hk7, hnd⟩ := hk
      have hk7 : k ⟨⟩ ≤ 7 := hk7
      have hnd : nd x = k ⟨⟩ + nd (sh x (k ⟨⟩)) := hnd
      have hle := sh_le x (k ⟨⟩)
      have hi : IntKind.wrap .i64 (((65 - k ⟨⟩ : Nat) : Int) - 1) = ((64 - k ⟨⟩ : Nat) : Int) := by rw [wrap64 (by omega) (by omega)]; omega
      have hlen := arrX_len x (k := k ⟨⟩) (by omega)
      cbv
      by_cases h : sh x (k ⟨⟩) < 16
      · have hm : sh x (k ⟨⟩) % 16 = sh x (k ⟨⟩) := Nat.mod_eq_of_lt h
        have hn1 : nd x = k ⟨⟩ + 1 := by rw [hnd, nd_lt h]
        have d1 : (((({ data := { toList := 48 :: 49 :: 50 :: 51 :: 52 :: 53 :: 54 :: 55 :: 56 :: 57 :: 97 :: 98 :: 99 :: 100 :: 101 :: 102 :: 103 :: 104 :: 105 :: 106 :: 107 :: 108 :: 109 :: 110 :: 111 :: 112 :: 113 :: 114 :: 115 :: 116 :: 117 :: 118 :: 119 :: 120 :: 121 :: 122 :: [] } } : ByteArray).data.toList.getD ((sh x (k ⟨⟩) : Nat) : Int).toNat 0).toNat : Nat) : Int) = hxI (sh x (k ⟨⟩) % 16) := by rw [hm]; exact dig36 _ h
        have b1 : 0 ≤ ((sh x (k ⟨⟩) : Nat) : Int) ∧ ((sh x (k ⟨⟩) : Nat) : Int) < ((36 : Nat) : Int) := ⟨Int.natCast_nonneg _, Int.ofNat_lt.2 (by omega)⟩
        have b2 : 0 ≤ IntKind.wrap .i64 (((65 - k ⟨⟩ : Nat) : Int) - 1) ∧ IntKind.wrap .i64 (((65 - k ⟨⟩ : Nat) : Int) - 1) < ((65 : Nat) : Int) := by rw [hi]; exact ⟨Int.natCast_nonneg _, Int.ofNat_lt.2 (by omega)⟩
        have b3 : 0 ≤ IntKind.wrap .i64 (((65 - k ⟨⟩ : Nat) : Int) - 1) ∧ IntKind.wrap .i64 (((65 - k ⟨⟩ : Nat) : Int) - 1) ≤ ((65 : Nat) : Int) ∧ ((65 : Nat) : Int) ≤ ((65 : Nat) : Int) := by rw [hi]; exact ⟨Int.natCast_nonneg _, Int.ofNat_le.2 (by omega), Int.le_refl _⟩
        refine Br.f (leB_no.2 (fun hh => absurd h (Nat.not_lt.2 (Int.ofNat_le.1 (show ((16 : Nat) : Int) ≤ ((sh x (k ⟨⟩) : Nat) : Int) from hh))))) ?_
        cbv
        have v1 : (arrX x (k ⟨⟩)).set (64 - k ⟨⟩) (((({ data := { toList := 48 :: 49 :: 50 :: 51 :: 52 :: 53 :: 54 :: 55 :: 56 :: 57 :: 97 :: 98 :: 99 :: 100 :: 101 :: 102 :: 103 :: 104 :: 105 :: 106 :: 107 :: 108 :: 109 :: 110 :: 111 :: 112 :: 113 :: 114 :: 115 :: 116 :: 117 :: 118 :: 119 :: 120 :: 121 :: 122 :: [] } } : ByteArray).data.toList.getD ((sh x (k ⟨⟩) : Nat) : Int).toNat 0).toNat : Nat) : Int) = arrX x (k ⟨⟩ + 1) := (congrArg (fun z => (arrX x (k ⟨⟩)).set (64 - k ⟨⟩) z) d1).trans (arrX_set x (by omega))
        have v2 : bytesT (((arrX x (k ⟨⟩ + 1)).drop (64 - k ⟨⟩)).take (65 - (64 - k ⟨⟩))) = hexM (u ⟨⟩).toNat := by
          have := arrX_drop x (k := k ⟨⟩ + 1) (by omega)
          rw [show 65 - (k ⟨⟩ + 1) = 64 - k ⟨⟩ by omega] at this
          rw [this, ← hx, ← hn1]; rfl
        have b4 : (IntKind.wrap .i64 (((65 - k ⟨⟩ : Nat) : Int) - 1)).toNat = 64 - k ⟨⟩ := by rw [hi]; rfl
        have b5 : 64 - k ⟨⟩ < (arrX x (k ⟨⟩)).length := by rw [hlen]; omega
        have b6 : 64 - k ⟨⟩ + (65 - (64 - k ⟨⟩)) ≤ (arrX x (k ⟨⟩ + 1)).length := by rw [arrX_len x (by omega)]; omega
        repeat' first
          | (refine Ob.mk ?_ ?_; (focus (first | with_reducible rfl | exact b1 | exact b2 | exact b3 | exact hb | (dsimp only [IE.val, NE.val, IE.nat]; simp only [b4, Nat.mul_one, Nat.zero_add]; first | exact b5 | (rw [v1]; first | exact b6 | exact v2)) | trace_state)); cbv)
          | (refine Br.f hng ?_; cbv)
          | (refine Br.f hap ?_; cbv)
      · have hk6 := sh_big hxl h hk7
        have q1 : ishr .u64 ((sh x (k ⟨⟩) : Nat) : Int) 4 = (sh x (k ⟨⟩ + 1) : Int) := by rw [ishr4, sh_s]
        have a1 := iand16 (n := sh x (k ⟨⟩)) (by omega)
        have d1 : (((({ data := { toList := 48 :: 49 :: 50 :: 51 :: 52 :: 53 :: 54 :: 55 :: 56 :: 57 :: 97 :: 98 :: 99 :: 100 :: 101 :: 102 :: 103 :: 104 :: 105 :: 106 :: 107 :: 108 :: 109 :: 110 :: 111 :: 112 :: 113 :: 114 :: 115 :: 116 :: 117 :: 118 :: 119 :: 120 :: 121 :: 122 :: [] } } : ByteArray).data.toList.getD (iand .u64 ((sh x (k ⟨⟩) : Nat) : Int) 15).toNat 0).toNat : Nat) : Int) = hxI (sh x (k ⟨⟩) % 16) := by rw [a1]; exact dig36 _ (Nat.mod_lt _ (by decide))
        have b1 : 0 ≤ iand .u64 ((sh x (k ⟨⟩) : Nat) : Int) 15 ∧ iand .u64 ((sh x (k ⟨⟩) : Nat) : Int) 15 < ((36 : Nat) : Int) := by rw [a1]; exact ⟨Int.natCast_nonneg _, Int.ofNat_lt.2 (by omega)⟩
        have b2 : 0 ≤ IntKind.wrap .i64 (((65 - k ⟨⟩ : Nat) : Int) - 1) ∧ IntKind.wrap .i64 (((65 - k ⟨⟩ : Nat) : Int) - 1) < ((65 : Nat) : Int) := by rw [hi]; exact ⟨Int.natCast_nonneg _, Int.ofNat_lt.2 (by omega)⟩
        have hmeas : sh x (k ⟨⟩ + 1) < sh x (k ⟨⟩) := by rw [← sh_s]; omega
        have hinv : k ⟨⟩ + 1 ≤ 7 ∧ nd x = (k ⟨⟩ + 1) + nd (sh x (k ⟨⟩ + 1)) := ⟨hk6, by rw [hnd, nd_ge h, sh_s]; omega⟩
        refine Br.t (leB_iff.2 (show ((16 : Nat) : Int) ≤ ((sh x (k ⟨⟩) : Nat) : Int) from Int.ofNat_le.2 (Nat.not_lt.1 h))) ?_
        cbv
        have v1 : (arrX x (k ⟨⟩)).set (64 - k ⟨⟩) (((({ data := { toList := 48 :: 49 :: 50 :: 51 :: 52 :: 53 :: 54 :: 55 :: 56 :: 57 :: 97 :: 98 :: 99 :: 100 :: 101 :: 102 :: 103 :: 104 :: 105 :: 106 :: 107 :: 108 :: 109 :: 110 :: 111 :: 112 :: 113 :: 114 :: 115 :: 116 :: 117 :: 118 :: 119 :: 120 :: 121 :: 122 :: [] } } : ByteArray).data.toList.getD (iand .u64 ((sh x (k ⟨⟩) : Nat) : Int) 15).toNat 0).toNat : Nat) : Int) = arrX x (k ⟨⟩ + 1) := (congrArg (fun z => (arrX x (k ⟨⟩)).set (64 - k ⟨⟩) z) d1).trans (arrX_set x (by omega))
        have b4 : (IntKind.wrap .i64 (((65 - k ⟨⟩ : Nat) : Int) - 1)).toNat = 64 - k ⟨⟩ := by rw [hi]; rfl
        have b5 : 64 - k ⟨⟩ < (arrX x (k ⟨⟩)).length := by rw [hlen]; omega
        have hi2 : IntKind.wrap .i64 (((65 - k ⟨⟩ : Nat) : Int) - 1) = ((65 - (k ⟨⟩ + 1) : Nat) : Int) := by rw [hi, show 65 - (k ⟨⟩ + 1) = 64 - k ⟨⟩ by omega]
        repeat' first
          | (refine Ob.mk ?_ ?_; (focus (first | with_reducible rfl | exact b1 | exact b2 | exact q1 | exact hi2 | (dsimp only [IE.val, NE.val, IE.nat]; simp only [b4, Nat.mul_one, Nat.zero_add]; first | exact b5 | exact v1) | decide | trace_state)); cbv)
          | (refine Next.mk (fun _ => k () + 1) hinv hmeas ?_; cbv)
  · cases hs
theorem fn59 : FnOk Tryd.prog 59 Tryd.f59 (bodyOf Tryd.f59) := ⟨Tryd.func59, rfl, by rfl⟩
def s59 : Spec := hspec fun args H => match args, H with
  | [.c (.i .u64 (.x u)), .c (.i .i64 (.x b))], [] => some (.c (.s fun _ => hexM (u ()).toNat), [], [fun _ => b () = 16 ∧ 0 ≤ u () ∧ u () < 4294967296])
  | _, _ => none
def E59 : Env := fun g => envGetL [(77, ⟨true, s77, none⟩)] g
theorem E59ok : EnvOk Tryd.prog E59 := envOk_cons ok77 (envOk_nil _)
set_option maxRecDepth 100000 in
set_option maxHeartbeats 1000000 in
theorem ok59 : Ok Tryd.prog 59 (s59) := ok_of_wpaH (E := E59) mixed tts E59ok fn59 fun args H v H' o hs ho => by
  split at hs
  · rename_i u b
    cases hs
    obtain ⟨hb, hu⟩ := ho.one
    have hb : b ⟨⟩ = 16 := hb
    have c2 : (b ⟨⟩ == 10) = false := by rw [hb]; decide
    refine ⟨_, HLe.refl _, ?_⟩
    cbv
    refine Br.f c2 ?_
    cbv
    repeat' (refine Ob.mk ?_ ?_; (focus (first | exact ⟨hb, rfl, rfl, hu⟩ | exact rfl)); cbv)
  · cases hs
theorem fn47 : FnOk Tryd.prog 47 Tryd.f47 (bodyOf Tryd.f47) := ⟨Tryd.func47, rfl, by rfl⟩
def s47 : Spec := hspec fun args H => match args, H with
  | [.c (.i .u64 (.x u)), .c (.i .i64 (.x b))], [] => some (.c (.s fun _ => hexM (u ()).toNat), [], [fun _ => b () = 16 ∧ 0 ≤ u () ∧ u () < 4294967296])
  | _, _ => none
def E47 : Env := fun g => envGetL [(59, ⟨true, s59, none⟩)] g
theorem E47ok : EnvOk Tryd.prog E47 := envOk_cons ok59 (envOk_nil _)
set_option maxRecDepth 100000 in
set_option maxHeartbeats 1000000 in
theorem ok47 : Ok Tryd.prog 47 (s47) := ok_of_wpaH (E := E47) mixed tts E47ok fn47 fun args H v H' o hs ho => by
  split at hs
  · rename_i u b
    cases hs
    have hb := ho.one
    refine ⟨_, HLe.refl _, ?_⟩
    cbv
    repeat' (refine Ob.mk ?_ ?_; (focus (first | exact hb | exact rfl)); cbv)
  · cases hs
end
end Go.Proofs.YteifneielgnniaaDoor.Sh
end
section
namespace Go.Proofs.YteifneielgnniaaDoor.Sh
open Go Go.Proofs
/-! ## zeros ahead of the least digits: eight digits -/
def b8 (n : Int) : UInt8 := UInt8.ofNat n.toNat
theorem push_eq : ∀ (l : List Int) (r : ByteArray), l.foldl (fun r n => r.push (UInt8.ofNat n.toNat)) r = ⟨r.data ++ (l.map b8).toArray⟩
  | [], r => by simp
  | n :: l, r => by
    rw [List.foldl_cons, push_eq l]
    simp [ByteArray.push, b8]
theorem bytesT_eq (l : List Int) : bytesT l = ⟨(l.map b8).toArray⟩ := by
  unfold bytesT
  rw [push_eq]
  have he : ByteArray.empty.data = #[] := rfl
  rw [he]
  simp
theorem mk_append (a b : List UInt8) : (⟨a.toArray⟩ : ByteArray) ++ ⟨b.toArray⟩ = ⟨(a ++ b).toArray⟩ := by
  have : ((⟨a.toArray⟩ : ByteArray) ++ ⟨b.toArray⟩).data = (a ++ b).toArray := by
    rw [ByteArray.data_append]; simp
  calc (⟨a.toArray⟩ : ByteArray) ++ ⟨b.toArray⟩ = ⟨((⟨a.toArray⟩ : ByteArray) ++ ⟨b.toArray⟩).data⟩ := rfl
    _ = _ := by rw [this]
theorem bytesT_append (a b : List Int) : bytesT a ++ bytesT b = bytesT (a ++ b) := by
  rw [bytesT_eq, bytesT_eq, bytesT_eq, mk_append, List.map_append]
theorem hexTo_8 (x : Nat) : hexTo x 8 = digL x 8 := rfl
theorem sh_1 (x j : Nat) : sh x (j + 1) = sh (x / 16) j := by
  unfold sh; rw [Nat.pow_succ, Nat.mul_comm, Nat.div_div_eq_div_mul]
theorem sh_nd : ∀ (n x : Nat), x < n → sh x (nd x) = 0
  | 0, x, h => by omega
  | n + 1, x, h => by
    by_cases h16 : x < 16
    · rw [nd_lt h16, ← sh_s, sh_0]; omega
    · rw [nd_ge h16, sh_1]
      exact sh_nd n (x / 16) (by omega)
theorem nd_le : ∀ (k x : Nat), x < 16 ^ (k + 1) → nd x ≤ k + 1
  | 0, x, h => by rw [nd_lt (by simpa using h)]; omega
  | k + 1, x, h => by
    by_cases h16 : x < 16
    · rw [nd_lt h16]; omega
    · rw [nd_ge h16]
      have : x / 16 < 16 ^ (k + 1) := Nat.div_lt_of_lt_mul (by rw [Nat.pow_succ] at h; omega)
      have := nd_le k (x / 16) this
      omega
theorem nd_8 {x : Nat} (h : x < 4294967296) : nd x ≤ 8 := nd_le 7 x (by simpa using h)
theorem sh_zero {x n : Nat} (h : sh x n = 0) : ∀ m, sh x (n + m) = 0
  | 0 => h
  | m + 1 => by rw [← Nat.add_assoc, ← sh_s, sh_zero h m]
theorem digL_zero {x n : Nat} (h : sh x n = 0) : ∀ m, digL x (n + m) = List.replicate m 48 ++ digL x n
  | 0 => by simp
  | m + 1 => by
    rw [← Nat.add_assoc]
    show hxI (sh x (n + m) % 16) :: digL x (n + m) = _
    rw [sh_zero h m, digL_zero h m, List.replicate_succ]
    rfl
def zerosT (m : Nat) : ByteArray := ⟨(List.replicate m (48 : UInt8)).toArray⟩
theorem zeros_eq (m : Nat) : zerosT m = bytesT (List.replicate m 48) := by
  rw [bytesT_eq, List.map_replicate]; rfl
theorem pad {x : Nat} (h : x < 4294967296) : zerosT (8 - nd x) ++ hexM x = hexT x := by
  unfold hexM hexT
  rw [zeros_eq, bytesT_append, hexTo_8, ← digL_zero (sh_nd (x + 1) x (by omega)), show nd x + (8 - nd x) = 8 from by have := nd_8 h; omega]
theorem hexM_size (x : Nat) : (hexM x).size = nd x := by unfold hexM; rw [bytesT_size, digL_len]
end Go.Proofs.YteifneielgnniaaDoor.Sh
end
