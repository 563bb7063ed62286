/- Sizes of numbers; the draws and the comparisons. No condition. -/
import Derived.Test.YteifneielgnniaaGreatDoorMShB
import Derived.Test.YteifneielgnniaaGreatDoorProg
import Derived.KernelRfl
set_option linter.unusedVariables false
set_option linter.unusedSimpArgs false
set_option linter.unusedSectionVars false
section
namespace Go.Proofs.YteifneielgnniaaGreatDoor.Sh
open Go Ieee
/-! ## sizes of words of single precision -/
theorem bin32 : single.binade = 8388608 := by decide
theorem lp32 : single.leastPlace = -149 := by decide
theorem fb32 : (single.fractionBits : Int) = 23 := by decide
/-- the place of the last digit that is kept, and what is kept -/
def lastOf (m : Nat) (p : Int) : Int := max (p + m.log2 - 23) (-149)
def keptOf (s : Bool) (m : Nat) (p : Int) : Nat := Toward.even.cut s (m <<< (p - lastOf m p).toNat) (lastOf m p - p).toNat
theorem nearest_eq (s : Bool) {m : Nat} (hm : m ≠ 0) (p : Int) : single.nearest s m p = single.word s (min ((lastOf m p + 149).toNat * 8388608 + keptOf s m p) 2139095040) := by
  unfold Format.nearest
  rw [if_neg hm]
  simp only [bin32, lp32, inf32, fb32]
  rfl
theorem word_mod (s : Bool) {r : Nat} (h : r ≤ 2139095040) : single.word s r % 2147483648 = r := by
  unfold Format.word
  rw [sgn32]
  cases s
  · simp only [Bool.false_eq_true, if_false]; exact Nat.mod_eq_of_lt (by omega)
  · simp only [if_true]; rw [Nat.add_mod_left]; exact Nat.mod_eq_of_lt (by omega)
theorem word_neg (s : Bool) {r : Nat} (h : r ≤ 2139095040) : (single.word s r / 2147483648 % 2 == 1) = s := by
  unfold Format.word
  rw [sgn32]
  cases s
  · simp only [Bool.false_eq_true, if_false]; rw [Nat.div_eq_of_lt (by omega)]; rfl
  · simp only [if_true]; rw [show (2147483648 + r) / 2147483648 = 1 by omega]; rfl
/-- what a word stands for -/
theorem read_word (s : Bool) {r : Nat} (h : r ≤ 2139095040) : single.read (single.word s r) =
    if r < 8388608 then .number s r (-149) else if r < 2139095040 then .number s (8388608 + r % 8388608) (-149 + (r / 8388608 - 1 : Nat)) else .infinity s := by
  unfold Format.read
  simp only [sgn32, bin32, lp32, inf32, word_mod s h, word_neg s h]
  split
  · rfl
  · split
    · rfl
    · rw [if_pos (by omega)]
/-- a number, and how great it is at most -/
theorem read_num {w : Nat} {s : Bool} {m : Nat} {i : Int} (h : single.read w = .number s m i) : m < 16777216 ∧ -149 ≤ i := by
  unfold Format.read at h
  simp only [sgn32, bin32, lp32, inf32] at h
  split at h
  · cases h; omega
  · split at h
    · cases h; omega
    · split at h <;> cases h
theorem cmp_le {a b : Int} (h : compare a b = .lt ∨ compare a b = .eq) : a ≤ b := by
  simp only [compare, compareOfLessAndEq] at h
  repeat' split at h
  all_goals simp at h
  all_goals omega
theorem cmp_ge {a b : Int} (h : compare a b = .gt ∨ compare a b = .eq) : b ≤ a := by
  simp only [compare, compareOfLessAndEq] at h
  repeat' split at h
  all_goals simp at h
  all_goals omega
end Go.Proofs.YteifneielgnniaaGreatDoor.Sh
end
section
namespace Go.Proofs.YteifneielgnniaaGreatDoor.Sh
open Go Ieee
/-! ## a wider word and back -/
theorem bin64 : double.binade = 4503599627370496 := by decide
theorem lp64 : double.leastPlace = -1074 := by decide
theorem fb64 : (double.fractionBits : Int) = 52 := by decide
theorem cut_exact (neg : Bool) {m k : Nat} (hm : m ≠ 0) : Toward.even.cut neg (m <<< k) k = m := by
  unfold Toward.cut
  dsimp only
  have hl : k ≤ (m <<< k).log2 + 2 := by
    have : k ≤ (m <<< k).log2 := by
      rw [Nat.le_log2 (by rw [Nat.shiftLeft_eq]; exact Nat.mul_ne_zero hm (Nat.ne_of_gt (Nat.two_pow_pos k)))]
      rw [Nat.shiftLeft_eq]
      exact Nat.le_mul_of_pos_left _ (Nat.pos_of_ne_zero hm)
    omega
  rw [Nat.min_eq_left hl, Nat.one_shiftLeft, Nat.shiftLeft_eq, Nat.mul_div_cancel _ (Nat.two_pow_pos k), Nat.mul_mod_left]
  have := Nat.two_pow_pos k
  have h1 : decide (2 ^ k < 2 * 0) = false := decide_eq_false (by omega)
  have h2 : ((2 ^ k == 2 * 0) = false) := by rw [beq_eq_false_iff_ne]; omega
  rw [h1, h2]
  rfl
theorem read_canon {w : Nat} {s : Bool} {m : Nat} {i : Int} (h : single.read w = .number s m i) :
    (m < 8388608 ∧ i = -149 ∨ 8388608 ≤ m ∧ m < 16777216 ∧ -149 ≤ i ∧ i ≤ 104) ∧ w % 2147483648 = (i + 149).toNat * 8388608 + m ∧ s = (w / 2147483648 % 2 == 1) := by
  unfold Format.read at h
  simp only [sgn32, bin32, lp32, inf32] at h
  split at h
  · cases h; exact ⟨.inl ⟨by omega, rfl⟩, by simp, rfl⟩
  · split at h
    · cases h; refine ⟨.inr ⟨by omega, by omega, by omega, by omega⟩, by omega, rfl⟩
    · split at h <;> cases h
theorem read_infw {w : Nat} {s : Bool} (h : single.read w = .infinity s) : w % 2147483648 = 2139095040 ∧ s = (w / 2147483648 % 2 == 1) := by
  unfold Format.read at h
  simp only [sgn32, bin32, lp32, inf32] at h
  split at h
  · cases h
  · split at h
    · cases h
    · split at h
      · cases h; exact ⟨by assumption, rfl⟩
      · cases h
theorem shl52 {m : Nat} (hm : m ≠ 0) (hl : m.log2 ≤ 52) : 4503599627370496 ≤ m <<< (52 - m.log2) ∧ m <<< (52 - m.log2) < 9007199254740992 := by
  rw [Nat.shiftLeft_eq]
  have h1 := Nat.log2_self_le hm
  have h2 : m < 2 ^ (m.log2 + 1) := Nat.lt_log2_self
  constructor
  · have e : 2 ^ m.log2 * 2 ^ (52 - m.log2) = 4503599627370496 := by rw [← Nat.pow_add, show m.log2 + (52 - m.log2) = 52 by omega]
    rw [← e]
    exact Nat.mul_le_mul_right _ h1
  · have e : 2 ^ (m.log2 + 1) * 2 ^ (52 - m.log2) = 9007199254740992 := by rw [← Nat.pow_add, show m.log2 + 1 + (52 - m.log2) = 53 by omega]
    rw [← e]
    exact Nat.mul_lt_mul_of_pos_right h2 (Nat.two_pow_pos _)
theorem near64 (s : Bool) {m : Nat} {p : Int} (hm : m ≠ 0) (hl : m.log2 ≤ 52) (h1 : -1022 ≤ p + m.log2) (h2 : p + m.log2 ≤ 900) :
    double.nearest s m p = double.word s ((p + m.log2 + 1022).toNat * 4503599627370496 + m <<< (52 - m.log2)) := by
  obtain ⟨_, hb⟩ := shl52 hm hl
  unfold Format.nearest
  rw [if_neg hm]
  simp only [bin64, lp64, inf64, fb64]
  have e : max (p + m.log2 - 52) (-1074) = p + m.log2 - 52 := by omega
  rw [e, show (p + m.log2 - 52 - p).toNat = 0 by omega, cut_zero, show (p - (p + m.log2 - 52)).toNat = 52 - m.log2 by omega, show (p + m.log2 - 52 - -1074).toNat = (p + m.log2 + 1022).toNat by omega,
    Nat.min_eq_left (by omega)]
theorem word_mod64 (s : Bool) {r : Nat} (h : r ≤ 9218868437227405312) : double.word s r % 9223372036854775808 = r := by
  unfold Format.word
  rw [sgn64]
  cases s
  · simp only [Bool.false_eq_true, if_false]; exact Nat.mod_eq_of_lt (by omega)
  · simp only [if_true]; rw [Nat.add_mod_left]; exact Nat.mod_eq_of_lt (by omega)
theorem word_neg64 (s : Bool) {r : Nat} (h : r ≤ 9218868437227405312) : (double.word s r / 9223372036854775808 % 2 == 1) = s := by
  unfold Format.word
  rw [sgn64]
  cases s
  · simp only [Bool.false_eq_true, if_false]; rw [Nat.div_eq_of_lt (by omega)]; rfl
  · simp only [if_true]; rw [show (9223372036854775808 + r) / 9223372036854775808 = 1 by omega]; rfl
theorem read_word64 (s : Bool) {r : Nat} (h : r ≤ 9218868437227405312) : double.read (double.word s r) =
    if r < 4503599627370496 then .number s r (-1074) else if r < 9218868437227405312 then .number s (4503599627370496 + r % 4503599627370496) (-1074 + (r / 4503599627370496 - 1 : Nat)) else .infinity s := by
  unfold Format.read
  simp only [sgn64, bin64, lp64, inf64, word_mod64 s h, word_neg64 s h]
  split
  · rfl
  · split
    · rfl
    · rw [if_pos (by omega)]
/-- a word of single precision among those of double precision: its rung there, and back -/
theorem up_num {a : Nat} {s : Bool} {m : Nat} {i : Int} (h : single.read a = .number s m i) :
    ∃ r, r < 9218868437227405312 ∧ floatToFloatBits .f32 a .f64 = some (double.word s r) ∧ (∃ n j, ∀ t, double.read (double.word t r) = .number t n j) ∧ floatToFloatBits .f64 r .f32 = some (a % 2147483648) := by
  obtain ⟨hc, hw, _⟩ := read_canon h
  have up : ∀ {r : Nat} {n : Nat} {j : Int}, r < 9218868437227405312 → double.nearest s m i = double.word s r → (∀ t, double.read (double.word t r) = .number t n j) → floatToFloatBits .f32 a .f64 = some (double.word s r) := by
    intro r n j hr he hd
    unfold floatToFloatBits
    rw [if_neg (by decide)]
    have e1 : FloatKind.f32.decode a = .number s m i := h
    have e2 : FloatKind.f64.encode (.number s m i) = double.word s r := he
    have e3 : FloatKind.f64.decode (double.word s r) = .number s n j := hd s
    rw [e1]
    dsimp only
    rw [e2, e3]
    rfl
  have down : ∀ {r : Nat} {n : Nat} {j : Int} {q : Nat}, q < 2139095040 → (∀ t, double.read (double.word t r) = .number t n j) → single.nearest false n j = single.word false q → floatToFloatBits .f64 r .f32 = some q := by
    intro r n j q hq hd he
    unfold floatToFloatBits
    rw [if_neg (by decide)]
    have e1 : FloatKind.f64.decode r = .number false n j := hd false
    have e2 : FloatKind.f32.encode (.number false n j) = q := he
    have e3 : (FloatKind.f32.decode q).isInfinity = false := by
      have : single.read (single.word false q) = _ := read_word false (Nat.le_of_lt hq)
      show (single.read q).isInfinity = false
      rw [show single.word false q = q from rfl] at this
      rw [this]
      split
      · rfl
      · rfl
    rw [e1]
    dsimp only
    rw [e2, e3]
    rfl
  by_cases hm : m = 0
  · subst hm
    have hi : i = -149 := by omega
    subst hi
    have hd : ∀ t, double.read (double.word t 0) = .number t 0 (-1074) := fun t => by rw [read_word64 t (by omega)]; rfl
    refine ⟨0, by omega, up (by omega) (by unfold Format.nearest; rw [if_pos rfl]) hd, ⟨_, _, hd⟩, ?_⟩
    rw [hw]
    exact down (by omega) hd (by unfold Format.nearest; rw [if_pos rfl]; rfl)
  · have hL : m.log2 ≤ 23 := by
      have : m.log2 < 24 := (Nat.log2_lt hm).2 (by omega)
      omega
    have hlast : max (i + m.log2 - 23) (-149) = i := by
      rcases hc with ⟨h1, h2⟩ | ⟨h1, h2, h3, h4⟩
      · have : m.log2 < 23 := (Nat.log2_lt hm).2 (by omega)
        omega
      · have : 23 ≤ m.log2 := (Nat.le_log2 hm).2 (by omega)
        omega
    have hi1 : -149 ≤ i ∧ i ≤ 104 := by omega
    obtain ⟨k1, k2⟩ := shl52 hm (by omega)
    generalize hR : (i + m.log2 + 1022).toNat * 4503599627370496 + m <<< (52 - m.log2) = r
    have hr : r < 9218868437227405312 := by omega
    have hn := near64 s hm (p := i) (by omega) (by omega) (by omega)
    rw [hR] at hn
    have hd : ∀ t, double.read (double.word t r) = .number t (m <<< (52 - m.log2)) (i + m.log2 - 52) := by
      intro t
      rw [read_word64 t (by omega), if_neg (by omega), if_pos hr]
      congr 1 <;> omega
    refine ⟨r, hr, up hr hn hd, ⟨_, _, hd⟩, ?_⟩
    rw [hw]
    refine down (by omega) hd ?_
    have hM : m <<< (52 - m.log2) ≠ 0 := by omega
    have hML : (m <<< (52 - m.log2)).log2 = 52 := by
      have h1 : (m <<< (52 - m.log2)).log2 < 53 := (Nat.log2_lt hM).2 (by omega)
      have h2 : 52 ≤ (m <<< (52 - m.log2)).log2 := (Nat.le_log2 hM).2 (by omega)
      omega
    have hLo : lastOf (m <<< (52 - m.log2)) (i + m.log2 - 52) = i := by
      unfold lastOf
      rw [hML]
      omega
    rw [nearest_eq false hM]
    unfold keptOf
    rw [hLo, show (i + m.log2 - 52 - i).toNat = 0 by omega, Nat.shiftLeft_zero, show (i - (i + m.log2 - 52)).toNat = 52 - m.log2 by omega, cut_exact _ hm, Nat.min_eq_left (by omega)]
def cvU (a : Nat) : Nat := (floatToFloatBits .f32 a .f64).getD (qn .f64)
/-! ## the same number -/
theorem num_le {m n : Nat} {x y : Int} (hm : m < 16777216) (hn : n < 8388608 ∧ y = -149 ∨ 8388608 ≤ n) (hx : -149 ≤ x) (hxy : x ≤ y) (h : m = n <<< (y - x).toNat) : m = n ∧ x = y := by
  rw [Nat.shiftLeft_eq] at h
  by_cases e : x = y
  · subst e
    rw [Int.sub_self] at h
    simp at h
    exact ⟨h, rfl⟩
  · exfalso
    have hn : 8388608 ≤ n := by omega
    have h1 : 2 ^ 1 ≤ 2 ^ (y - x).toNat := Nat.pow_le_pow_right (by decide) (by omega)
    have h2 : 8388608 * 2 ≤ n * 2 ^ (y - x).toNat := Nat.mul_le_mul hn (by simpa using h1)
    omega
theorem num_inj {a b : Nat} {s : Bool} {m n : Nat} {i j : Int} (ha : single.read a = .number s m i) (hb : single.read b = .number s n j)
    (h : signed s m (i - min i j).toNat = signed s n (j - min i j).toNat) : a % 2147483648 = b % 2147483648 := by
  obtain ⟨ca, wa, _⟩ := read_canon ha
  obtain ⟨cb, wb, _⟩ := read_canon hb
  have h' : m <<< (i - min i j).toNat = n <<< (j - min i j).toNat := by
    unfold signed at h
    cases s
    · simp only [Bool.false_eq_true, if_false] at h; exact Int.ofNat.inj h
    · simp only [if_true] at h; exact Int.ofNat.inj (Int.neg_inj.1 h)
  rw [wa, wb]
  rcases Int.le_total i j with hij | hij
  · rw [show min i j = i by omega, Int.sub_self] at h'
    obtain ⟨e1, e2⟩ := num_le (m := m) (n := n) (by omega) (by omega) (by omega) hij (by simpa using h')
    rw [e1, e2]
  · rw [show min i j = j by omega, Int.sub_self] at h'
    obtain ⟨e1, e2⟩ := num_le (m := n) (n := m) (by omega) (by omega) (by omega) hij (by simpa using h'.symm)
    rw [e1, e2]
def isNan (a : Nat) : Bool := fcmp .neq .f32 a a
theorem order_self {d : Datum} (h : d.isNaN = false) : d.order d = some .eq := by
  cases d with
  | nan => simp [Datum.isNaN] at h
  | infinity s => simp [Datum.order]
  | number s m e => simp [Datum.order]
theorem isNan_eq (a : Nat) : isNan a = (single.read a).isNaN := by
  unfold isNan fcmp
  show ((single.read a).order (single.read a) != some .eq) = _
  cases h : (single.read a).isNaN with
  | true =>
    obtain ⟨u, v, e⟩ := isNaN_iff h
    rw [e]; rfl
  | false => rw [order_self h]; rfl
/-- the sign of a double -/
def sgnD (x : Nat) : Bool := x / 9223372036854775808 % 2 == 1
/-- the sign, by way of a double -/
theorem sgn_up {a : Nat} (h : isNan a = false) : sgnD (cvU a) = (a / 2147483648 % 2 == 1) := by
  rw [isNan_eq] at h
  unfold cvU sgnD
  cases hd : single.read a with
  | number s m i =>
    obtain ⟨r, hr, h1, _, h2⟩ := up_num hd
    rw [h1, Option.getD_some, word_neg64 s (Nat.le_of_lt hr)]
    exact (read_canon hd).2.2
  | infinity s =>
    have e1 : floatToFloatBits .f32 a .f64 = some (double.word s 9218868437227405312) := by
      unfold floatToFloatBits
      rw [if_neg (by decide), show FloatKind.f32.decode a = .infinity s from hd]
      rfl
    rw [e1, Option.getD_some, word_neg64 s (Nat.le_refl _)]
    exact (read_infw hd).2
  | nan s t => rw [hd] at h; simp [Datum.isNaN] at h
theorem nan_up {a : Nat} (h : isNan a = false) : (double.read (cvU a)).isNaN = false := by
  rw [isNan_eq] at h
  unfold cvU
  cases hd : single.read a with
  | number s m i =>
    obtain ⟨r, hr, h1, ⟨n, j, hn⟩, h2⟩ := up_num hd
    rw [h1, Option.getD_some, hn]
    rfl
  | infinity s =>
    have e1 : floatToFloatBits .f32 a .f64 = some (double.word s 9218868437227405312) := by
      unfold floatToFloatBits
      rw [if_neg (by decide), show FloatKind.f32.decode a = .infinity s from hd]
      rfl
    rw [e1, Option.getD_some, read_word64 s (Nat.le_refl _)]
    rfl
  | nan s t => rw [hd] at h; simp [Datum.isNaN] at h
/-- equal, and of one sign -/
def eqS (a b : Nat) : Bool := if isNan a || isNan b then isNan a && isNan b else fcmp .eql .f32 a b && (sgnD (cvU a) == sgnD (cvU b))
/-- the same word, or both none -/
def eqW (a b : Nat) : Bool := if isNan a || isNan b then isNan a && isNan b else decide (a = b)
theorem same_eq {a b : Nat} (ha : a < 4294967296) (hb : b < 4294967296) : eqS a b = eqW a b := by
  unfold eqS eqW
  by_cases hn : (isNan a || isNan b) = true
  · rw [if_pos hn, if_pos hn]
  · rw [if_neg hn, if_neg hn]
    simp only [Bool.or_eq_true, not_or, Bool.not_eq_true] at hn
    rw [sgn_up hn.1, sgn_up hn.2]
    have na := hn.1
    have nb := hn.2
    rw [isNan_eq] at na nb
    by_cases e : a = b
    · subst e
      have : fcmp .eql .f32 a a = true := by
        unfold fcmp
        show ((single.read a).order (single.read a) == some .eq) = _
        rw [order_self na]; rfl
      simp [this]
    · rw [decide_eq_false e]
      rw [Bool.and_eq_false_iff]
      by_cases hs : (a / 2147483648 % 2 == 1) = (b / 2147483648 % 2 == 1)
      · left
        have hs' : a / 2147483648 % 2 = b / 2147483648 % 2 := by
          rcases Nat.mod_two_eq_zero_or_one (a / 2147483648) with h | h <;> rcases Nat.mod_two_eq_zero_or_one (b / 2147483648) with k | k <;> rw [h, k] at hs ⊢ <;> simp at hs
        have key : a % 2147483648 ≠ b % 2147483648 := fun h => e (by omega)
        unfold fcmp
        show ((single.read a).order (single.read b) == some .eq) = false
        rw [beq_eq_false_iff_ne]
        intro ho
        apply key
        cases hda : single.read a with
        | nan s t => rw [hda] at na; simp [Datum.isNaN] at na
        | infinity s =>
          cases hdb : single.read b with
          | nan s t => rw [hdb] at nb; simp [Datum.isNaN] at nb
          | infinity t => rw [(read_infw hda).1, (read_infw hdb).1]
          | number t n j =>
            rw [hda, hdb] at ho
            cases s <;> simp [Datum.order] at ho
        | number s m i =>
          cases hdb : single.read b with
          | nan s t => rw [hdb] at nb; simp [Datum.isNaN] at nb
          | infinity t =>
            rw [hda, hdb] at ho
            cases t <;> simp [Datum.order] at ho
          | number t n j =>
            have h1 := (read_canon hda).2.2
            have h2 := (read_canon hdb).2.2
            rw [hs, ← h2] at h1
            subst h1
            rw [hda, hdb] at ho
            simp only [Datum.order, Option.some.injEq] at ho
            exact num_inj hda hdb (Int.le_antisymm (cmp_le (.inr ho)) (cmp_ge (.inr ho)))
      · right
        simpa using hs
end Go.Proofs.YteifneielgnniaaGreatDoor.Sh
end
section
namespace Go.Proofs.YteifneielgnniaaGreatDoor.Sh
open Go Go.Proofs
def ttl : TTL := [
  (2, ⟨1, 8, .cell, [.i .i64 (.l 0)], some (.inl .i64)⟩),
  (3, ⟨1, 8, .cell, [.i .i64 (.l 0)], some (.inl .i64)⟩),
  (4, ⟨1, 1, .bool, [.b (.l false)], none⟩),
  (5, ⟨1, 1, .cell, [.i .u8 (.l 0)], some (.inl .u8)⟩),
  (6, ⟨1, 1, .cell, [.i .u8 (.l 0)], some (.inl .u8)⟩),
  (7, ⟨4, 24, .st [(0, 2), (1, 3), (2, 4), (3, 6)], [.i .i64 (.l 0), .i .i64 (.l 0), .b (.l false), .i .u8 (.l 0)], none⟩),
  (8, ⟨4, 24, .st [(0, 2), (1, 3), (2, 4), (3, 6)], [.i .i64 (.l 0), .i .i64 (.l 0), .b (.l false), .i .u8 (.l 0)], none⟩),
  (9, ⟨1, 16, .str, [.s fun _ => .empty], none⟩),
  (10, ⟨1, 16, .str, [.s fun _ => .empty], none⟩),
  (11, ⟨1, 16, .str, [.s fun _ => .empty], none⟩),
  (12, ⟨1, 8, .cell, [.i .u64 (.l 0)], some (.inl .u64)⟩),
  (13, ⟨2, 24, .st [(0, 9), (1, 12)], [.s fun _ => .empty, .i .u64 (.l 0)], none⟩),
  (14, ⟨2, 24, .st [(0, 9), (1, 12)], [.s fun _ => .empty, .i .u64 (.l 0)], none⟩),
  (15, ⟨1, 8, .cell, [.pn], none⟩),
  (16, ⟨1, 8, .cell, [.pn], none⟩),
  (17, ⟨1, 8, .cell, [.pn], none⟩),
  (18, ⟨1, 8, .st [(0, 17)], [.pn], none⟩),
  (19, ⟨1, 8, .st [(0, 17)], [.pn], none⟩),
  (21, ⟨1, 4, .cell, [.i .i32 (.l 0)], some (.inl .i32)⟩),
  (22, ⟨1, 24, .sl 5, [.sn], none⟩),
  (24, ⟨1, 4, .cell, [.f .f32 fun _ => 0], some (.inr .f32)⟩),
  (25, ⟨1, 24, .sl 36, [.sn], none⟩),
  (26, ⟨4, 40, .st [(0, 24), (1, 24), (2, 24), (3, 25)], [.f .f32 fun _ => 0, .f .f32 fun _ => 0, .f .f32 fun _ => 0, .sn], none⟩),
  (27, ⟨4, 40, .st [(0, 24), (1, 24), (2, 24), (3, 25)], [.f .f32 fun _ => 0, .f .f32 fun _ => 0, .f .f32 fun _ => 0, .sn], none⟩),
  (35, ⟨3, 12, .st [(0, 24), (1, 24), (2, 24)], [.f .f32 fun _ => 0, .f .f32 fun _ => 0, .f .f32 fun _ => 0], none⟩),
  (36, ⟨3, 12, .st [(0, 24), (1, 24), (2, 24)], [.f .f32 fun _ => 0, .f .f32 fun _ => 0, .f .f32 fun _ => 0], none⟩),
  (45, ⟨1, 8, .cpx, [.z .f32 (fun _ => 0) (fun _ => 0)], none⟩),
  (46, ⟨1, 8, .cpx, [.z .f32 (fun _ => 0) (fun _ => 0)], none⟩),
  (55, ⟨4, 32, .ar 4 46, [.z .f32 (fun _ => 0) (fun _ => 0), .z .f32 (fun _ => 0) (fun _ => 0), .z .f32 (fun _ => 0) (fun _ => 0), .z .f32 (fun _ => 0) (fun _ => 0)], none⟩),
  (56, ⟨16, 128, .ar 4 55, [.z .f32 (fun _ => 0) (fun _ => 0), .z .f32 (fun _ => 0) (fun _ => 0), .z .f32 (fun _ => 0) (fun _ => 0), .z .f32 (fun _ => 0) (fun _ => 0), .z .f32 (fun _ => 0) (fun _ => 0), .z .f32 (fun _ => 0) (fun _ => 0), .z .f32 (fun _ => 0) (fun _ => 0), .z .f32 (fun _ => 0) (fun _ => 0), .z .f32 (fun _ => 0) (fun _ => 0), .z .f32 (fun _ => 0) (fun _ => 0), .z .f32 (fun _ => 0) (fun _ => 0), .z .f32 (fun _ => 0) (fun _ => 0), .z .f32 (fun _ => 0) (fun _ => 0), .z .f32 (fun _ => 0) (fun _ => 0), .z .f32 (fun _ => 0) (fun _ => 0), .z .f32 (fun _ => 0) (fun _ => 0)], none⟩),
  (57, ⟨16, 128, .ar 4 55, [.z .f32 (fun _ => 0) (fun _ => 0), .z .f32 (fun _ => 0) (fun _ => 0), .z .f32 (fun _ => 0) (fun _ => 0), .z .f32 (fun _ => 0) (fun _ => 0), .z .f32 (fun _ => 0) (fun _ => 0), .z .f32 (fun _ => 0) (fun _ => 0), .z .f32 (fun _ => 0) (fun _ => 0), .z .f32 (fun _ => 0) (fun _ => 0), .z .f32 (fun _ => 0) (fun _ => 0), .z .f32 (fun _ => 0) (fun _ => 0), .z .f32 (fun _ => 0) (fun _ => 0), .z .f32 (fun _ => 0) (fun _ => 0), .z .f32 (fun _ => 0) (fun _ => 0), .z .f32 (fun _ => 0) (fun _ => 0), .z .f32 (fun _ => 0) (fun _ => 0), .z .f32 (fun _ => 0) (fun _ => 0)], none⟩),
  (59, ⟨1, 24, .sl 2, [.sn], none⟩),
  (71, ⟨1, 8, .cell, [.pn], none⟩),
  (74, ⟨1, 24, .sl 77, [.sn], none⟩),
  (77, ⟨1, 24, .sl 24, [.sn], none⟩),
  (91, ⟨1, 8, .cell, [.pn], none⟩),
  (103, ⟨1, 24, .sl 9, [.sn], none⟩),
  (107, ⟨1, 8, .cell, [.f .f64 fun _ => 0], some (.inr .f64)⟩),
  (113, ⟨1, 8, .cell, [.pn], none⟩),
  (120, ⟨1, 8, .cell, [.i .u64 (.l 0)], some (.inl .u64)⟩),
  (121, ⟨3, 40, .st [(0, 22), (1, 3), (2, 120)], [.sn, .i .i64 (.l 0), .i .u64 (.l 0)], none⟩),
  (122, ⟨3, 40, .st [(0, 22), (1, 3), (2, 120)], [.sn, .i .i64 (.l 0), .i .u64 (.l 0)], none⟩),
  (127, ⟨1, 4, .cell, [.i .u32 (.l 0)], some (.inl .u32)⟩),
  (140, ⟨1, 8, .cell, [.i .u64 (.l 0)], some (.inl .u64)⟩),
  (144, ⟨1, 8, .cell, [.pn], none⟩),
  (145, ⟨2, 32, .st [(0, 144), (1, 22)], [.pn, .sn], none⟩),
  (146, ⟨2, 32, .st [(0, 144), (1, 22)], [.pn, .sn], none⟩),
  (166, ⟨1, 8, .cell, [.pn], none⟩),
  (174, ⟨24, 24, .ar 24 5, [.i .u8 (.l 0), .i .u8 (.l 0), .i .u8 (.l 0), .i .u8 (.l 0), .i .u8 (.l 0), .i .u8 (.l 0), .i .u8 (.l 0), .i .u8 (.l 0), .i .u8 (.l 0), .i .u8 (.l 0), .i .u8 (.l 0), .i .u8 (.l 0), .i .u8 (.l 0), .i .u8 (.l 0), .i .u8 (.l 0), .i .u8 (.l 0), .i .u8 (.l 0), .i .u8 (.l 0), .i .u8 (.l 0), .i .u8 (.l 0), .i .u8 (.l 0), .i .u8 (.l 0), .i .u8 (.l 0), .i .u8 (.l 0)], none⟩),
  (186, ⟨1, 8, .cell, [.i .i64 (.l 0)], some (.inl .i64)⟩),
  (189, ⟨1, 8, .cell, [.pn], none⟩),
  (194, ⟨20, 160, .ar 20 120, [.i .u64 (.l 0), .i .u64 (.l 0), .i .u64 (.l 0), .i .u64 (.l 0), .i .u64 (.l 0), .i .u64 (.l 0), .i .u64 (.l 0), .i .u64 (.l 0), .i .u64 (.l 0), .i .u64 (.l 0), .i .u64 (.l 0), .i .u64 (.l 0), .i .u64 (.l 0), .i .u64 (.l 0), .i .u64 (.l 0), .i .u64 (.l 0), .i .u64 (.l 0), .i .u64 (.l 0), .i .u64 (.l 0), .i .u64 (.l 0)], none⟩),
  (195, ⟨65, 65, .ar 65 5, [.i .u8 (.l 0), .i .u8 (.l 0), .i .u8 (.l 0), .i .u8 (.l 0), .i .u8 (.l 0), .i .u8 (.l 0), .i .u8 (.l 0), .i .u8 (.l 0), .i .u8 (.l 0), .i .u8 (.l 0), .i .u8 (.l 0), .i .u8 (.l 0), .i .u8 (.l 0), .i .u8 (.l 0), .i .u8 (.l 0), .i .u8 (.l 0), .i .u8 (.l 0), .i .u8 (.l 0), .i .u8 (.l 0), .i .u8 (.l 0), .i .u8 (.l 0), .i .u8 (.l 0), .i .u8 (.l 0), .i .u8 (.l 0), .i .u8 (.l 0), .i .u8 (.l 0), .i .u8 (.l 0), .i .u8 (.l 0), .i .u8 (.l 0), .i .u8 (.l 0), .i .u8 (.l 0), .i .u8 (.l 0), .i .u8 (.l 0), .i .u8 (.l 0), .i .u8 (.l 0), .i .u8 (.l 0), .i .u8 (.l 0), .i .u8 (.l 0), .i .u8 (.l 0), .i .u8 (.l 0), .i .u8 (.l 0), .i .u8 (.l 0), .i .u8 (.l 0), .i .u8 (.l 0), .i .u8 (.l 0), .i .u8 (.l 0), .i .u8 (.l 0), .i .u8 (.l 0), .i .u8 (.l 0), .i .u8 (.l 0), .i .u8 (.l 0), .i .u8 (.l 0), .i .u8 (.l 0), .i .u8 (.l 0), .i .u8 (.l 0), .i .u8 (.l 0), .i .u8 (.l 0), .i .u8 (.l 0), .i .u8 (.l 0), .i .u8 (.l 0), .i .u8 (.l 0), .i .u8 (.l 0), .i .u8 (.l 0), .i .u8 (.l 0), .i .u8 (.l 0)], none⟩),
  (202, ⟨256, 256, .ar 256 5, [.i .u8 (.l 0), .i .u8 (.l 0), .i .u8 (.l 0), .i .u8 (.l 0), .i .u8 (.l 0), .i .u8 (.l 0), .i .u8 (.l 0), .i .u8 (.l 0), .i .u8 (.l 0), .i .u8 (.l 0), .i .u8 (.l 0), .i .u8 (.l 0), .i .u8 (.l 0), .i .u8 (.l 0), .i .u8 (.l 0), .i .u8 (.l 0), .i .u8 (.l 0), .i .u8 (.l 0), .i .u8 (.l 0), .i .u8 (.l 0), .i .u8 (.l 0), .i .u8 (.l 0), .i .u8 (.l 0), .i .u8 (.l 0), .i .u8 (.l 0), .i .u8 (.l 0), .i .u8 (.l 0), .i .u8 (.l 0), .i .u8 (.l 0), .i .u8 (.l 0), .i .u8 (.l 0), .i .u8 (.l 0), .i .u8 (.l 0), .i .u8 (.l 0), .i .u8 (.l 0), .i .u8 (.l 0), .i .u8 (.l 0), .i .u8 (.l 0), .i .u8 (.l 0), .i .u8 (.l 0), .i .u8 (.l 0), .i .u8 (.l 0), .i .u8 (.l 0), .i .u8 (.l 0), .i .u8 (.l 0), .i .u8 (.l 0), .i .u8 (.l 0), .i .u8 (.l 0), .i .u8 (.l 0), .i .u8 (.l 0), .i .u8 (.l 0), .i .u8 (.l 0), .i .u8 (.l 0), .i .u8 (.l 0), .i .u8 (.l 0), .i .u8 (.l 0), .i .u8 (.l 0), .i .u8 (.l 0), .i .u8 (.l 0), .i .u8 (.l 0), .i .u8 (.l 0), .i .u8 (.l 0), .i .u8 (.l 0), .i .u8 (.l 0), .i .u8 (.l 0), .i .u8 (.l 0), .i .u8 (.l 0), .i .u8 (.l 0), .i .u8 (.l 0), .i .u8 (.l 0), .i .u8 (.l 0), .i .u8 (.l 0), .i .u8 (.l 0), .i .u8 (.l 0), .i .u8 (.l 0), .i .u8 (.l 0), .i .u8 (.l 0), .i .u8 (.l 0), .i .u8 (.l 0), .i .u8 (.l 0), .i .u8 (.l 0), .i .u8 (.l 0), .i .u8 (.l 0), .i .u8 (.l 0), .i .u8 (.l 0), .i .u8 (.l 0), .i .u8 (.l 0), .i .u8 (.l 0), .i .u8 (.l 0), .i .u8 (.l 0), .i .u8 (.l 0), .i .u8 (.l 0), .i .u8 (.l 0), .i .u8 (.l 0), .i .u8 (.l 0), .i .u8 (.l 0), .i .u8 (.l 0), .i .u8 (.l 0), .i .u8 (.l 0), .i .u8 (.l 0), .i .u8 (.l 0), .i .u8 (.l 0), .i .u8 (.l 0), .i .u8 (.l 0), .i .u8 (.l 0), .i .u8 (.l 0), .i .u8 (.l 0), .i .u8 (.l 0), .i .u8 (.l 0), .i .u8 (.l 0), .i .u8 (.l 0), .i .u8 (.l 0), .i .u8 (.l 0), .i .u8 (.l 0), .i .u8 (.l 0), .i .u8 (.l 0), .i .u8 (.l 0), .i .u8 (.l 0), .i .u8 (.l 0), .i .u8 (.l 0), .i .u8 (.l 0), .i .u8 (.l 0), .i .u8 (.l 0), .i .u8 (.l 0), .i .u8 (.l 0), .i .u8 (.l 0), .i .u8 (.l 0), .i .u8 (.l 0), .i .u8 (.l 0), .i .u8 (.l 0), .i .u8 (.l 0), .i .u8 (.l 0), .i .u8 (.l 0), .i .u8 (.l 0), .i .u8 (.l 0), .i .u8 (.l 0), .i .u8 (.l 0), .i .u8 (.l 0), .i .u8 (.l 0), .i .u8 (.l 0), .i .u8 (.l 0), .i .u8 (.l 0), .i .u8 (.l 0), .i .u8 (.l 0), .i .u8 (.l 0), .i .u8 (.l 0), .i .u8 (.l 0), .i .u8 (.l 0), .i .u8 (.l 0), .i .u8 (.l 0), .i .u8 (.l 0), .i .u8 (.l 0), .i .u8 (.l 0), .i .u8 (.l 0), .i .u8 (.l 0), .i .u8 (.l 0), .i .u8 (.l 0), .i .u8 (.l 0), .i .u8 (.l 0), .i .u8 (.l 0), .i .u8 (.l 0), .i .u8 (.l 0), .i .u8 (.l 0), .i .u8 (.l 0), .i .u8 (.l 0), .i .u8 (.l 0), .i .u8 (.l 0), .i .u8 (.l 0), .i .u8 (.l 0), .i .u8 (.l 0), .i .u8 (.l 0), .i .u8 (.l 0), .i .u8 (.l 0), .i .u8 (.l 0), .i .u8 (.l 0), .i .u8 (.l 0), .i .u8 (.l 0), .i .u8 (.l 0), .i .u8 (.l 0), .i .u8 (.l 0), .i .u8 (.l 0), .i .u8 (.l 0), .i .u8 (.l 0), .i .u8 (.l 0), .i .u8 (.l 0), .i .u8 (.l 0), .i .u8 (.l 0), .i .u8 (.l 0), .i .u8 (.l 0), .i .u8 (.l 0), .i .u8 (.l 0), .i .u8 (.l 0), .i .u8 (.l 0), .i .u8 (.l 0), .i .u8 (.l 0), .i .u8 (.l 0), .i .u8 (.l 0), .i .u8 (.l 0), .i .u8 (.l 0), .i .u8 (.l 0), .i .u8 (.l 0), .i .u8 (.l 0), .i .u8 (.l 0), .i .u8 (.l 0), .i .u8 (.l 0), .i .u8 (.l 0), .i .u8 (.l 0), .i .u8 (.l 0), .i .u8 (.l 0), .i .u8 (.l 0), .i .u8 (.l 0), .i .u8 (.l 0), .i .u8 (.l 0), .i .u8 (.l 0), .i .u8 (.l 0), .i .u8 (.l 0), .i .u8 (.l 0), .i .u8 (.l 0), .i .u8 (.l 0), .i .u8 (.l 0), .i .u8 (.l 0), .i .u8 (.l 0), .i .u8 (.l 0), .i .u8 (.l 0), .i .u8 (.l 0), .i .u8 (.l 0), .i .u8 (.l 0), .i .u8 (.l 0), .i .u8 (.l 0), .i .u8 (.l 0), .i .u8 (.l 0), .i .u8 (.l 0), .i .u8 (.l 0), .i .u8 (.l 0), .i .u8 (.l 0), .i .u8 (.l 0), .i .u8 (.l 0), .i .u8 (.l 0), .i .u8 (.l 0), .i .u8 (.l 0), .i .u8 (.l 0), .i .u8 (.l 0), .i .u8 (.l 0), .i .u8 (.l 0), .i .u8 (.l 0), .i .u8 (.l 0), .i .u8 (.l 0), .i .u8 (.l 0), .i .u8 (.l 0), .i .u8 (.l 0), .i .u8 (.l 0), .i .u8 (.l 0), .i .u8 (.l 0), .i .u8 (.l 0), .i .u8 (.l 0), .i .u8 (.l 0)], none⟩),
  (203, ⟨2, 2, .st [(0, 5), (1, 5)], [.i .u8 (.l 0), .i .u8 (.l 0)], none⟩),
  (204, ⟨2, 2, .st [(0, 5), (1, 5)], [.i .u8 (.l 0), .i .u8 (.l 0)], none⟩),
  (205, ⟨32, 32, .ar 16 204, [.i .u8 (.l 0), .i .u8 (.l 0), .i .u8 (.l 0), .i .u8 (.l 0), .i .u8 (.l 0), .i .u8 (.l 0), .i .u8 (.l 0), .i .u8 (.l 0), .i .u8 (.l 0), .i .u8 (.l 0), .i .u8 (.l 0), .i .u8 (.l 0), .i .u8 (.l 0), .i .u8 (.l 0), .i .u8 (.l 0), .i .u8 (.l 0), .i .u8 (.l 0), .i .u8 (.l 0), .i .u8 (.l 0), .i .u8 (.l 0), .i .u8 (.l 0), .i .u8 (.l 0), .i .u8 (.l 0), .i .u8 (.l 0), .i .u8 (.l 0), .i .u8 (.l 0), .i .u8 (.l 0), .i .u8 (.l 0), .i .u8 (.l 0), .i .u8 (.l 0), .i .u8 (.l 0), .i .u8 (.l 0)], none⟩),
  (208, ⟨1, 8, .cell, [.pn], none⟩),
  (209, ⟨1, 16, .st [(0, 9)], [.s fun _ => .empty], none⟩),
  (210, ⟨1, 16, .st [(0, 9)], [.s fun _ => .empty], none⟩),
  (211, ⟨32, 32, .ar 32 5, [.i .u8 (.l 0), .i .u8 (.l 0), .i .u8 (.l 0), .i .u8 (.l 0), .i .u8 (.l 0), .i .u8 (.l 0), .i .u8 (.l 0), .i .u8 (.l 0), .i .u8 (.l 0), .i .u8 (.l 0), .i .u8 (.l 0), .i .u8 (.l 0), .i .u8 (.l 0), .i .u8 (.l 0), .i .u8 (.l 0), .i .u8 (.l 0), .i .u8 (.l 0), .i .u8 (.l 0), .i .u8 (.l 0), .i .u8 (.l 0), .i .u8 (.l 0), .i .u8 (.l 0), .i .u8 (.l 0), .i .u8 (.l 0), .i .u8 (.l 0), .i .u8 (.l 0), .i .u8 (.l 0), .i .u8 (.l 0), .i .u8 (.l 0), .i .u8 (.l 0), .i .u8 (.l 0), .i .u8 (.l 0)], none⟩),
  (212, ⟨64, 64, .ar 64 5, [.i .u8 (.l 0), .i .u8 (.l 0), .i .u8 (.l 0), .i .u8 (.l 0), .i .u8 (.l 0), .i .u8 (.l 0), .i .u8 (.l 0), .i .u8 (.l 0), .i .u8 (.l 0), .i .u8 (.l 0), .i .u8 (.l 0), .i .u8 (.l 0), .i .u8 (.l 0), .i .u8 (.l 0), .i .u8 (.l 0), .i .u8 (.l 0), .i .u8 (.l 0), .i .u8 (.l 0), .i .u8 (.l 0), .i .u8 (.l 0), .i .u8 (.l 0), .i .u8 (.l 0), .i .u8 (.l 0), .i .u8 (.l 0), .i .u8 (.l 0), .i .u8 (.l 0), .i .u8 (.l 0), .i .u8 (.l 0), .i .u8 (.l 0), .i .u8 (.l 0), .i .u8 (.l 0), .i .u8 (.l 0), .i .u8 (.l 0), .i .u8 (.l 0), .i .u8 (.l 0), .i .u8 (.l 0), .i .u8 (.l 0), .i .u8 (.l 0), .i .u8 (.l 0), .i .u8 (.l 0), .i .u8 (.l 0), .i .u8 (.l 0), .i .u8 (.l 0), .i .u8 (.l 0), .i .u8 (.l 0), .i .u8 (.l 0), .i .u8 (.l 0), .i .u8 (.l 0), .i .u8 (.l 0), .i .u8 (.l 0), .i .u8 (.l 0), .i .u8 (.l 0), .i .u8 (.l 0), .i .u8 (.l 0), .i .u8 (.l 0), .i .u8 (.l 0), .i .u8 (.l 0), .i .u8 (.l 0), .i .u8 (.l 0), .i .u8 (.l 0), .i .u8 (.l 0), .i .u8 (.l 0), .i .u8 (.l 0), .i .u8 (.l 0)], none⟩),
  (214, ⟨4, 40, .st [(0, 17), (1, 17), (2, 17), (3, 9)], [.pn, .pn, .pn, .s fun _ => .empty], none⟩),
  (215, ⟨4, 40, .st [(0, 17), (1, 17), (2, 17), (3, 9)], [.pn, .pn, .pn, .s fun _ => .empty], none⟩),
  (216, ⟨0, 0, .ar 0 16, [], none⟩),
  (217, ⟨0, 0, .st [(0, 216)], [], none⟩),
  (218, ⟨0, 0, .st [(0, 216)], [], none⟩),
  (219, ⟨1, 1, .cell, [.i .u8 (.l 0)], some (.inl .u8)⟩),
  (220, ⟨1, 1, .cell, [.i .u8 (.l 0)], some (.inl .u8)⟩),
  (222, ⟨1, 4, .cell, [.i .i32 (.l 0)], some (.inl .i32)⟩),
  (223, ⟨1, 4, .cell, [.i .i32 (.l 0)], some (.inl .i32)⟩),
  (224, ⟨11, 48, .st [(0, 12), (1, 12), (2, 127), (3, 219), (4, 5), (5, 5), (6, 220), (7, 221), (8, 166), (9, 222), (10, 223)], [.i .u64 (.l 0), .i .u64 (.l 0), .i .u32 (.l 0), .i .u8 (.l 0), .i .u8 (.l 0), .i .u8 (.l 0), .i .u8 (.l 0), .fnn, .pn, .i .i32 (.l 0), .i .i32 (.l 0)], none⟩),
  (225, ⟨11, 48, .st [(0, 12), (1, 12), (2, 127), (3, 219), (4, 5), (5, 5), (6, 220), (7, 221), (8, 166), (9, 222), (10, 223)], [.i .u64 (.l 0), .i .u64 (.l 0), .i .u32 (.l 0), .i .u8 (.l 0), .i .u8 (.l 0), .i .u8 (.l 0), .i .u8 (.l 0), .fnn, .pn, .i .i32 (.l 0), .i .i32 (.l 0)], none⟩)]
def tt : TT := fun t => ttGetL ttl t
theorem tts : TtOk Tryz.prog tt := ttOk_list (l := ttl) (by kernel_rfl)
theorem mixed : Tryz.prog.follows .mixedOrders = true := by kernel_rfl
def bodyOf (f : Func) : Code := f.body.getD .skip
abbrev F (x : Nat) : V := .c (.f .f32 fun _ => x)
abbrev vB (x : Bool) : V := .c (.b (.x fun _ => x))
abbrev vI (x : Int) : V := .c (.i .i64 (.x fun _ => x))
def isIn (a lo hi : Nat) : Bool := fcmp .geq .f32 a lo && fcmp .leq .f32 a hi
def inI (n lo hi : Int) : Bool := leB lo n && leB n hi
theorem ltB_iff {a b : Int} : ltB a b = true ↔ a < b := by simp [ltB]
theorem ltB_no {a b : Int} : ltB a b = false ↔ ¬ a < b := by simp [ltB]
theorem leB_iff {a b : Int} : leB a b = true ↔ a ≤ b := by simp [leB]
theorem leB_no {a b : Int} : leB a b = false ↔ ¬ a ≤ b := by simp [leB]
theorem inI_iff {n lo hi : Int} : inI n lo hi = true ↔ lo ≤ n ∧ n ≤ hi := by simp [inI, leB]
def mul (a b : Nat) : Nat := fop .mul .f32 a b
def cv (a : Nat) : Nat := (floatToFloatBits .f32 a .f64).getD (qn .f64)
/-- for all smaller ones -/
def allI (p : Nat → Bool) : Nat → Bool
  | 0 => true
  | k + 1 => allI p k && p k
theorem allI_at {p : Nat → Bool} : ∀ {n i : Nat}, allI p n = true → i < n → p i = true
  | n + 1, i, h, hi => by
    simp only [allI, Bool.and_eq_true] at h
    by_cases e : i = n
    · subst e; simpa using h.2
    · exact allI_at h.1 (by omega)
theorem allI_no {p : Nat → Bool} {n i : Nat} (h : i < n) (hp : p i = false) : allI p n = false := by
  cases e : allI p n
  · rfl
  · rw [allI_at e h] at hp; cases hp
theorem allI_all {p : Nat → Bool} : ∀ {n : Nat}, (∀ i, i < n → p i = true) → allI p n = true
  | 0, _ => rfl
  | n + 1, h => by simp [allI, allI_all (n := n) (fun i hi => h i (by omega)), h n (by omega)]
/-! webs -/
end Go.Proofs.YteifneielgnniaaGreatDoor.Sh
end
section
namespace Go.Proofs.YteifneielgnniaaGreatDoor.Sh
open Go Go.Proofs
open Go.RowKit
theorem e154a : Extern.findNext Tryz.f154 = none := by rfl
theorem e154b : Extern.find Tryz.f154 = some Extern.MathFloatBits.float64bits := by rfl
theorem e166a : Extern.findNext Tryz.f166 = none := by rfl
theorem e166b : Extern.find Tryz.f166 = some Extern.MathFloatBits.float64frombits := by rfl
theorem ext154 (b : Nat) (w : World) : (callFunc 154 #[.float .f64 b]).run Tryz.prog w = .ok (.value (.int .u64 b)) w := by
  rw [run_callFunc_extern Tryz.func154 (by rfl) (by rfl) e154a e154b]; rfl
theorem ext166 (n : Int) (w : World) : (callFunc 166 #[.int .u64 n]).run Tryz.prog w = .ok (.value (.float .f64 n.toNat)) w := by
  rw [run_callFunc_extern Tryz.func166 (by rfl) (by rfl) e166a e166b]; rfl
attribute [go_sem] ext154 ext166
end Go.Proofs.YteifneielgnniaaGreatDoor.Sh
end
section
namespace Go.Proofs.YteifneielgnniaaGreatDoor.Sh
open Go Go.Proofs
end Go.Proofs.YteifneielgnniaaGreatDoor.Sh
end
section
namespace Go.Proofs.YteifneielgnniaaGreatDoor.Sh
open Go Go.Proofs
theorem fn60 : FnOk Tryz.prog 60 Tryz.f60 (bodyOf Tryz.f60) := ⟨Tryz.func60, rfl, by rfl⟩
def s60 : Spec := hspec fun args H => match args, H with
  | [.c (.f .f32 a), .c (.f .f32 lo), .c (.f .f32 hi)], [] => some (vB (isIn (a ()) (lo ()) (hi ())), [], [])
  | _, _ => none
theorem ok60 : Ok Tryz.prog 60 (s60) := ok_of_wpaH (E := envGetL []) mixed tts (envOk_nil _) fn60 fun args H v H' o hs ho => by
  split at hs
  · rename_i a lo hi
    cases hs
    refine ⟨_, HLe.nil, ?_⟩
    cbv
    repeat' first
      | (refine alt_t (by assumption) ?_; cbv)
      | (refine alt_f (by assumption) ?_; cbv)
      | (refine alt_b (fun h => ?_) (fun h => ?_) <;> cbv)
      | (refine Br.mk (fun h => ?_) (fun h => ?_) <;> cbv)
      | (refine Ob.mk ?_ ?_; rotate_left; cbv)
      | (refine Lex.mk (by kernel_rfl) ?_; cbv)
    all_goals (try simp only [Unit.unit, Int.ofNat_lt, Int.ofNat_le, BE.val, IE.val, NE.val, ltB_iff, ltB_no, leB_iff, leB_no, Int.toNat_natCast, Nat.zero_add, Nat.add_zero, Nat.mul_one, forced, beq_iff_eq, beq_eq_false_iff_ne] at *)
    all_goals first | with_reducible rfl | (simp_all [isIn]; done) | grind [isIn]
  · cases hs
theorem fn92 : FnOk Tryz.prog 92 Tryz.f92 (bodyOf Tryz.f92) := ⟨Tryz.func92, rfl, by rfl⟩
def s92 : Spec := hspec fun args H => match args, H with
  | [.c (.f .f32 a), .c (.f .f32 b)], [] => some (F (fop .mul .f32 (a ()) (b ())), [], [])
  | _, _ => none
theorem ok92 : Ok Tryz.prog 92 (s92) := ok_of_wpaH (E := envGetL []) mixed tts (envOk_nil _) fn92 fun args H v H' o hs ho => by
  split at hs
  · rename_i a b
    cases hs
    refine ⟨_, HLe.nil, ?_⟩
    cbv
    repeat' first
      | (refine alt_t (by assumption) ?_; cbv)
      | (refine alt_f (by assumption) ?_; cbv)
      | (refine alt_b (fun h => ?_) (fun h => ?_) <;> cbv)
      | (refine Br.mk (fun h => ?_) (fun h => ?_) <;> cbv)
      | (refine Ob.mk ?_ ?_; rotate_left; cbv)
      | (refine Lex.mk (by kernel_rfl) ?_; cbv)
    all_goals (try simp only [Unit.unit, Int.ofNat_lt, Int.ofNat_le, BE.val, IE.val, NE.val, ltB_iff, ltB_no, leB_iff, leB_no, Int.toNat_natCast, Nat.zero_add, Nat.add_zero, Nat.mul_one, forced, beq_iff_eq, beq_eq_false_iff_ne] at *)
    all_goals first | with_reducible rfl | (simp_all; done) | grind
  · cases hs
theorem fn120 : FnOk Tryz.prog 120 Tryz.f120 (bodyOf Tryz.f120) := ⟨Tryz.func120, rfl, by rfl⟩
def s120 : Spec := hspec fun args H => match args, H with
  | [.c (.i .i64 (.x a)), .c (.i .i64 (.x b)), .c (.i .i64 (.x d))], [] => some (vB (inI (a ()) (b ()) (d ())), [], [])
  | _, _ => none
theorem ok120 : Ok Tryz.prog 120 (s120) := ok_of_wpaH (E := envGetL []) mixed tts (envOk_nil _) fn120 fun args H v H' o hs ho => by
  split at hs
  · rename_i a b d
    cases hs
    refine ⟨_, HLe.nil, ?_⟩
    cbv
    repeat' first
      | (refine alt_t (by assumption) ?_; cbv)
      | (refine alt_f (by assumption) ?_; cbv)
      | (refine alt_b (fun h => ?_) (fun h => ?_) <;> cbv)
      | (refine Br.mk (fun h => ?_) (fun h => ?_) <;> cbv)
      | (refine Ob.mk ?_ ?_; rotate_left; cbv)
      | (refine Lex.mk (by kernel_rfl) ?_; cbv)
    all_goals (try simp only [Unit.unit, Int.ofNat_lt, Int.ofNat_le, BE.val, IE.val, NE.val, ltB_iff, ltB_no, leB_iff, leB_no, Int.toNat_natCast, Nat.zero_add, Nat.add_zero, Nat.mul_one, forced, beq_iff_eq, beq_eq_false_iff_ne] at *)
    all_goals first | with_reducible rfl | (simp_all [inI, leB]; done) | grind [inI, leB]
  · cases hs
end Go.Proofs.YteifneielgnniaaGreatDoor.Sh
end
section
namespace Go.Proofs.YteifneielgnniaaGreatDoor.Sh
open Go Go.Proofs
end Go.Proofs.YteifneielgnniaaGreatDoor.Sh
end
section
namespace Go.Proofs.YteifneielgnniaaGreatDoor.Sh
open Go Go.Proofs
end Go.Proofs.YteifneielgnniaaGreatDoor.Sh
end
section
namespace Go.Proofs.YteifneielgnniaaGreatDoor.Sh
open Go Go.Proofs
end Go.Proofs.YteifneielgnniaaGreatDoor.Sh
end
section
namespace Go.Proofs.YteifneielgnniaaGreatDoor.Sh
open Go Go.Proofs
end Go.Proofs.YteifneielgnniaaGreatDoor.Sh
end
section
namespace Go.Proofs.YteifneielgnniaaGreatDoor.Sh
open Go Go.Proofs
end Go.Proofs.YteifneielgnniaaGreatDoor.Sh
end
section
namespace Go.Proofs.YteifneielgnniaaGreatDoor.Sh
open Go Go.Proofs
end Go.Proofs.YteifneielgnniaaGreatDoor.Sh
end
section
namespace Go.Proofs.YteifneielgnniaaGreatDoor.Sh
open Go Go.Proofs
end Go.Proofs.YteifneielgnniaaGreatDoor.Sh
end
section
namespace Go.Proofs.YteifneielgnniaaGreatDoor.Sh
open Go Go.Proofs
end Go.Proofs.YteifneielgnniaaGreatDoor.Sh
end
section
namespace Go.Proofs.YteifneielgnniaaGreatDoor.Sh
open Go Go.Proofs
end Go.Proofs.YteifneielgnniaaGreatDoor.Sh
end
section
namespace Go.Proofs.YteifneielgnniaaGreatDoor.Sh
open Go Go.Proofs
end Go.Proofs.YteifneielgnniaaGreatDoor.Sh
end
section
namespace Go.Proofs.YteifneielgnniaaGreatDoor.Sh
open Go Go.Proofs
end Go.Proofs.YteifneielgnniaaGreatDoor.Sh
end
section
namespace Go.Proofs.YteifneielgnniaaGreatDoor.Sh
open Go Go.Proofs
end Go.Proofs.YteifneielgnniaaGreatDoor.Sh
end
section
namespace Go.Proofs.YteifneielgnniaaGreatDoor.Sh
open Go Go.Proofs
end Go.Proofs.YteifneielgnniaaGreatDoor.Sh
end
section
namespace Go.Proofs.YteifneielgnniaaGreatDoor.Sh
open Go Go.Proofs
section
variable {st sp fd tm n s : Nat} {l L : List Nat} {k : Int} {m : Nat} {most : Int}
end
end Go.Proofs.YteifneielgnniaaGreatDoor.Sh
end
section
namespace Go.Proofs.YteifneielgnniaaGreatDoor.Sh
open Go Go.Proofs
section
variable {st sp fd tm n w : Nat} {l L : List Nat} {k m : Nat} {most : Int}
end
end Go.Proofs.YteifneielgnniaaGreatDoor.Sh
end
section
namespace Go.Proofs.YteifneielgnniaaGreatDoor.Sh
open Go Go.Proofs
theorem e136a : Extern.findNext Tryz.f117 = none := by rfl
theorem e136b : Extern.find Tryz.f117 = some Extern.MathFloatBits.float32bits := by rfl
theorem ext117 (b : Nat) (w : World) : (callFunc 117 #[.float .f32 b]).run Tryz.prog w = .ok (.value (.int .u32 b)) w := by
  rw [run_callFunc_extern Tryz.func117 (by rfl) (by rfl) e136a e136b]; rfl
def s117 : Spec := fun args H => match args with
  | [.c (.f .f32 e)] => some (.c (.i .u32 (.x fun _ => (e () : Int))), H, [fun _ => isNan (e ()) = false])
  | _ => none
theorem ok117 : Ok Tryz.prog 117 s117 := by
  intro args H v H' o hs ho μ W w vs hW hH hr
  unfold s117 at hs
  split at hs
  · rename_i e
    cases hs
    match vs, hr with
    | [x], hr =>
      obtain ⟨⟨b, rfl, hb⟩, _⟩ := hr
      refine .inr ⟨_, _, ext117 b w, μ, agree.refl _ _, Nat.le_refl _, hH, ?_, Fr.refl _ _⟩
      have hn := ho.one
      rw [isNan_eq] at hn
      rcases hb with rfl | ⟨h1, h2⟩
      · rfl
      · have h2 : (Ieee.single.read (e ())).isNaN = true := h2
        rw [h2] at hn; cases hn
  · cases hs
def s154 : Spec := fun args H => match args with
  | [.c (.f .f64 e)] => some (.c (.i .u64 (.x fun _ => (e () : Int))), H, [fun _ => (Ieee.double.read (e ())).isNaN = false])
  | _ => none
theorem ok154 : Ok Tryz.prog 154 s154 := by
  intro args H v H' o hs ho μ W w vs hW hH hr
  unfold s154 at hs
  split at hs
  · rename_i e
    cases hs
    match vs, hr with
    | [x], hr =>
      obtain ⟨⟨b, rfl, hb⟩, _⟩ := hr
      refine .inr ⟨_, _, ext154 b w, μ, agree.refl _ _, Nat.le_refl _, hH, ?_, Fr.refl _ _⟩
      have hn := ho.one
      rcases hb with rfl | ⟨h1, h2⟩
      · rfl
      · have h2 : (Ieee.double.read (e ())).isNaN = true := h2
        rw [h2] at hn; cases hn
  · cases hs
def sgnL (x : Nat) : Bool := ltB (IntKind.wrap .i64 (x : Int)) 0
theorem sgnL_eq {x : Nat} (h : x < 18446744073709551616) : sgnL x = sgnD x := by
  unfold sgnL sgnD ltB
  have e : IntKind.wrap .i64 (x : Int) = if x < 9223372036854775808 then (x : Int) else (x : Int) - 18446744073709551616 := by
    simp [IntKind.wrap, IntKind.signed, IntKind.bits]
    split <;> omega
  rw [e]
  split
  · rename_i h1
    rw [Nat.div_eq_of_lt h1]
    simp
  · rename_i h1
    rw [show x / 9223372036854775808 = 1 by omega]
    simp
    omega
theorem word64_lt (s : Bool) {r : Nat} (h : r ≤ 9218868437227405312) : Ieee.double.word s r < 18446744073709551616 := by
  unfold Ieee.Format.word
  rw [sgn64]
  split <;> omega
theorem cvU_lt (a : Nat) : cvU a < 18446744073709551616 := by
  unfold cvU
  cases hd : Ieee.single.read a with
  | number s m i =>
    obtain ⟨r, hr, h1, _, h2⟩ := up_num hd
    rw [h1, Option.getD_some]
    exact word64_lt s (Nat.le_of_lt hr)
  | infinity s =>
    have e1 : floatToFloatBits .f32 a .f64 = some (Ieee.double.word s 9218868437227405312) := by
      unfold floatToFloatBits
      rw [if_neg (by decide), show FloatKind.f32.decode a = .infinity s from hd]
      rfl
    rw [e1, Option.getD_some]
    exact word64_lt s (Nat.le_refl _)
  | nan s t =>
    have e1 : floatToFloatBits .f32 a .f64 = none := by
      unfold floatToFloatBits
      rw [if_neg (by decide), show FloatKind.f32.decode a = .nan s t from hd]
    rw [e1, Option.getD_none]
    decide
theorem eqS_num {a b : Nat} (ha : isNan a = false) (hb : isNan b = false) : eqS a b = (fcmp .eql .f32 a b && (sgnL (cvU a) == sgnL (cvU b))) := by
  unfold eqS
  rw [ha, hb, sgnL_eq (cvU_lt a), sgnL_eq (cvU_lt b)]
  rfl
theorem eqS_nan {a b : Nat} (h : isNan a = true ∨ isNan b = true) : eqS a b = (isNan a && isNan b) := by
  unfold eqS
  rw [if_pos (by simpa using h)]
theorem eqW_num {a b : Nat} (ha : isNan a = false) (hb : isNan b = false) : eqW a b = ((a : Int) == (b : Int)) := by
  unfold eqW
  rw [ha, hb]
  by_cases e : a = b
  · subst e; simp
  · have e' : ¬ ((a : Int) = (b : Int)) := by omega
    simp [e, e']
theorem eqW_nan {a b : Nat} (h : isNan a = true ∨ isNan b = true) : eqW a b = (isNan a && isNan b) := by
  unfold eqW
  rw [if_pos (by simpa using h)]
theorem fn130 : FnOk Tryz.prog 130 Tryz.f130 (bodyOf Tryz.f130) := ⟨Tryz.func130, rfl, by rfl⟩
def s130 : Spec := hspec fun args H => match args, H with
  | [.c (.f .f64 a)], [] => some (vB (sgnL (a ())), [], [fun _ => (Ieee.double.read (a ())).isNaN = false])
  | _, _ => none
def E130 : Env := fun g => envGetL [(154, ⟨true, s154, none⟩)] g
theorem E130ok : EnvOk Tryz.prog E130 := envOk_cons ok154 (envOk_nil _)
theorem ok130 : Ok Tryz.prog 130 (s130) := ok_of_wpaH (E := E130) mixed tts E130ok fn130 fun args H v H' o hs ho => by
  split at hs
  · rename_i a
    cases hs
    have hx0 := ho.one
    try simp only [Unit.unit] at hx0
    refine ⟨_, HLe.nil, ?_⟩
    cbv
    repeat' first
      | (refine alt_t (by assumption) ?_; cbv)
      | (refine alt_f (by assumption) ?_; cbv)
      | (refine alt_b (fun h => ?_) (fun h => ?_) <;> cbv)
      | (refine Br.mk (fun h => ?_) (fun h => ?_) <;> cbv)
      | (refine Ob.mk ?_ ?_; rotate_left; cbv)
      | (refine Lex.mk (by kernel_rfl) ?_; cbv)
    all_goals (try simp only [Unit.unit, Int.ofNat_lt, Int.ofNat_le, BE.val, IE.val, NE.val, ltB_iff, ltB_no, leB_iff, leB_no, Int.toNat_natCast, Nat.zero_add, Nat.add_zero, Nat.mul_one, forced, beq_iff_eq, beq_eq_false_iff_ne, bne_iff_ne, bne_eq_false_iff_eq] at *)
    all_goals first | with_reducible rfl | exact hx0 | rfl | (simp_all [sgnL]; done)
  · cases hs
theorem fn58 : FnOk Tryz.prog 58 Tryz.f58 (bodyOf Tryz.f58) := ⟨Tryz.func58, rfl, by rfl⟩
def s58 : Spec := hspec fun args H => match args, H with
  | [.c (.f .f32 a), .c (.f .f32 b)], [] => some (vB (eqW (a ()) (b ())), [], [])
  | _, _ => none
def E58 : Env := fun g => envGetL [(117, ⟨true, s117, none⟩)] g
theorem E58ok : EnvOk Tryz.prog E58 := envOk_cons ok117 (envOk_nil _)
theorem ok58 : Ok Tryz.prog 58 (s58) := ok_of_wpaH (E := E58) mixed tts E58ok fn58 fun args H v H' o hs ho => by
  split at hs
  · rename_i a b
    cases hs
    refine ⟨_, HLe.nil, ?_⟩
    cbv
    by_cases ha : isNan (a ⟨⟩) = true
    · have hr := eqW_nan (b := b ⟨⟩) (.inl ha)
      have ha' : fcmp .neq .f32 (a ⟨⟩) (a ⟨⟩) = true := ha
      by_cases hb : isNan (b ⟨⟩) = true
      · have hb' : fcmp .neq .f32 (b ⟨⟩) (b ⟨⟩) = true := hb
        rw [ha, hb] at hr
        repeat' first
          | (refine alt_t (by assumption) ?_; cbv)
          | (refine alt_f (by assumption) ?_; cbv)
          | (refine alt_b (fun h => ?_) (fun h => ?_) <;> cbv)
          | (refine Br.mk (fun h => ?_) (fun h => ?_) <;> cbv)
          | (refine Ob.mk ?_ ?_; rotate_left; cbv)
          | (refine Lex.mk (by kernel_rfl) ?_; cbv)
        all_goals (try simp only [Unit.unit, Int.ofNat_lt, Int.ofNat_le, BE.val, IE.val, NE.val, ltB_iff, ltB_no, leB_iff, leB_no, Int.toNat_natCast, Nat.zero_add, Nat.add_zero, Nat.mul_one, forced, beq_iff_eq, beq_eq_false_iff_ne, bne_iff_ne, bne_eq_false_iff_eq] at *)
        all_goals first | with_reducible rfl | exact nan_up ha | exact nan_up hb | exact ha | exact hb | (simp_all [isNan, cvU]; done) | (simp_all [isNan]; done) | grind [isNan]
      · have hb := Bool.eq_false_iff.2 hb
        have hb' : fcmp .neq .f32 (b ⟨⟩) (b ⟨⟩) = false := hb
        rw [ha, hb] at hr
        repeat' first
          | (refine alt_t (by assumption) ?_; cbv)
          | (refine alt_f (by assumption) ?_; cbv)
          | (refine alt_b (fun h => ?_) (fun h => ?_) <;> cbv)
          | (refine Br.mk (fun h => ?_) (fun h => ?_) <;> cbv)
          | (refine Ob.mk ?_ ?_; rotate_left; cbv)
          | (refine Lex.mk (by kernel_rfl) ?_; cbv)
        all_goals (try simp only [Unit.unit, Int.ofNat_lt, Int.ofNat_le, BE.val, IE.val, NE.val, ltB_iff, ltB_no, leB_iff, leB_no, Int.toNat_natCast, Nat.zero_add, Nat.add_zero, Nat.mul_one, forced, beq_iff_eq, beq_eq_false_iff_ne, bne_iff_ne, bne_eq_false_iff_eq] at *)
        all_goals first | with_reducible rfl | exact nan_up ha | exact nan_up hb | exact ha | exact hb | (simp_all [isNan, cvU]; done) | (simp_all [isNan]; done) | grind [isNan]
    · have ha := Bool.eq_false_iff.2 ha
      have ha' : fcmp .neq .f32 (a ⟨⟩) (a ⟨⟩) = false := ha
      by_cases hb : isNan (b ⟨⟩) = true
      · have hr := eqW_nan (a := a ⟨⟩) (.inr hb)
        have hb' : fcmp .neq .f32 (b ⟨⟩) (b ⟨⟩) = true := hb
        rw [ha, hb] at hr
        repeat' first
          | (refine alt_t (by assumption) ?_; cbv)
          | (refine alt_f (by assumption) ?_; cbv)
          | (refine alt_b (fun h => ?_) (fun h => ?_) <;> cbv)
          | (refine Br.mk (fun h => ?_) (fun h => ?_) <;> cbv)
          | (refine Ob.mk ?_ ?_; rotate_left; cbv)
          | (refine Lex.mk (by kernel_rfl) ?_; cbv)
        all_goals (try simp only [Unit.unit, Int.ofNat_lt, Int.ofNat_le, BE.val, IE.val, NE.val, ltB_iff, ltB_no, leB_iff, leB_no, Int.toNat_natCast, Nat.zero_add, Nat.add_zero, Nat.mul_one, forced, beq_iff_eq, beq_eq_false_iff_ne, bne_iff_ne, bne_eq_false_iff_eq] at *)
        all_goals first | with_reducible rfl | exact nan_up ha | exact nan_up hb | exact ha | exact hb | (simp_all [isNan, cvU]; done) | (simp_all [isNan]; done) | grind [isNan]
      · have hb := Bool.eq_false_iff.2 hb
        have hb' : fcmp .neq .f32 (b ⟨⟩) (b ⟨⟩) = false := hb
        have hr := eqW_num ha hb
        repeat' first
          | (refine alt_t (by assumption) ?_; cbv)
          | (refine alt_f (by assumption) ?_; cbv)
          | (refine alt_b (fun h => ?_) (fun h => ?_) <;> cbv)
          | (refine Br.mk (fun h => ?_) (fun h => ?_) <;> cbv)
          | (refine Ob.mk ?_ ?_; rotate_left; cbv)
          | (refine Lex.mk (by kernel_rfl) ?_; cbv)
        all_goals (try simp only [Unit.unit, Int.ofNat_lt, Int.ofNat_le, BE.val, IE.val, NE.val, ltB_iff, ltB_no, leB_iff, leB_no, Int.toNat_natCast, Nat.zero_add, Nat.add_zero, Nat.mul_one, forced, beq_iff_eq, beq_eq_false_iff_ne, bne_iff_ne, bne_eq_false_iff_eq] at *)
        all_goals first | with_reducible rfl | exact nan_up ha | exact nan_up hb | exact ha | exact hb | (simp_all [isNan, cvU]; done) | (simp_all [isNan]; done) | grind [isNan]
  · cases hs
theorem fn97 : FnOk Tryz.prog 97 Tryz.f97 (bodyOf Tryz.f97) := ⟨Tryz.func97, rfl, by rfl⟩
def s97 : Spec := hspec fun args H => match args, H with
  | [.c (.f .f32 a), .c (.f .f32 b)], [] => some (vB (eqS (a ()) (b ())), [], [])
  | _, _ => none
def E97 : Env := fun g => envGetL [(130, ⟨true, s130, none⟩)] g
theorem E97ok : EnvOk Tryz.prog E97 := envOk_cons ok130 (envOk_nil _)
theorem ok97 : Ok Tryz.prog 97 (s97) := ok_of_wpaH (E := E97) mixed tts E97ok fn97 fun args H v H' o hs ho => by
  split at hs
  · rename_i a b
    cases hs
    refine ⟨_, HLe.nil, ?_⟩
    cbv
    by_cases ha : isNan (a ⟨⟩) = true
    · have hr := eqS_nan (b := b ⟨⟩) (.inl ha)
      have ha' : fcmp .neq .f32 (a ⟨⟩) (a ⟨⟩) = true := ha
      by_cases hb : isNan (b ⟨⟩) = true
      · have hb' : fcmp .neq .f32 (b ⟨⟩) (b ⟨⟩) = true := hb
        rw [ha, hb] at hr
        repeat' first
          | (refine alt_t (by assumption) ?_; cbv)
          | (refine alt_f (by assumption) ?_; cbv)
          | (refine alt_b (fun h => ?_) (fun h => ?_) <;> cbv)
          | (refine Br.mk (fun h => ?_) (fun h => ?_) <;> cbv)
          | (refine Ob.mk ?_ ?_; rotate_left; cbv)
          | (refine Lex.mk (by kernel_rfl) ?_; cbv)
        all_goals (try simp only [Unit.unit, Int.ofNat_lt, Int.ofNat_le, BE.val, IE.val, NE.val, ltB_iff, ltB_no, leB_iff, leB_no, Int.toNat_natCast, Nat.zero_add, Nat.add_zero, Nat.mul_one, forced, beq_iff_eq, beq_eq_false_iff_ne, bne_iff_ne, bne_eq_false_iff_eq] at *)
        all_goals first | with_reducible rfl | exact nan_up ha | exact nan_up hb | exact ha | exact hb | (simp_all [isNan, cvU]; done) | (simp_all [isNan]; done) | grind [isNan]
      · have hb := Bool.eq_false_iff.2 hb
        have hb' : fcmp .neq .f32 (b ⟨⟩) (b ⟨⟩) = false := hb
        rw [ha, hb] at hr
        repeat' first
          | (refine alt_t (by assumption) ?_; cbv)
          | (refine alt_f (by assumption) ?_; cbv)
          | (refine alt_b (fun h => ?_) (fun h => ?_) <;> cbv)
          | (refine Br.mk (fun h => ?_) (fun h => ?_) <;> cbv)
          | (refine Ob.mk ?_ ?_; rotate_left; cbv)
          | (refine Lex.mk (by kernel_rfl) ?_; cbv)
        all_goals (try simp only [Unit.unit, Int.ofNat_lt, Int.ofNat_le, BE.val, IE.val, NE.val, ltB_iff, ltB_no, leB_iff, leB_no, Int.toNat_natCast, Nat.zero_add, Nat.add_zero, Nat.mul_one, forced, beq_iff_eq, beq_eq_false_iff_ne, bne_iff_ne, bne_eq_false_iff_eq] at *)
        all_goals first | with_reducible rfl | exact nan_up ha | exact nan_up hb | exact ha | exact hb | (simp_all [isNan, cvU]; done) | (simp_all [isNan]; done) | grind [isNan]
    · have ha := Bool.eq_false_iff.2 ha
      have ha' : fcmp .neq .f32 (a ⟨⟩) (a ⟨⟩) = false := ha
      by_cases hb : isNan (b ⟨⟩) = true
      · have hr := eqS_nan (a := a ⟨⟩) (.inr hb)
        have hb' : fcmp .neq .f32 (b ⟨⟩) (b ⟨⟩) = true := hb
        rw [ha, hb] at hr
        repeat' first
          | (refine alt_t (by assumption) ?_; cbv)
          | (refine alt_f (by assumption) ?_; cbv)
          | (refine alt_b (fun h => ?_) (fun h => ?_) <;> cbv)
          | (refine Br.mk (fun h => ?_) (fun h => ?_) <;> cbv)
          | (refine Ob.mk ?_ ?_; rotate_left; cbv)
          | (refine Lex.mk (by kernel_rfl) ?_; cbv)
        all_goals (try simp only [Unit.unit, Int.ofNat_lt, Int.ofNat_le, BE.val, IE.val, NE.val, ltB_iff, ltB_no, leB_iff, leB_no, Int.toNat_natCast, Nat.zero_add, Nat.add_zero, Nat.mul_one, forced, beq_iff_eq, beq_eq_false_iff_ne, bne_iff_ne, bne_eq_false_iff_eq] at *)
        all_goals first | with_reducible rfl | exact nan_up ha | exact nan_up hb | exact ha | exact hb | (simp_all [isNan, cvU]; done) | (simp_all [isNan]; done) | grind [isNan]
      · have hb := Bool.eq_false_iff.2 hb
        have hb' : fcmp .neq .f32 (b ⟨⟩) (b ⟨⟩) = false := hb
        have hr := eqS_num ha hb
        repeat' first
          | (refine alt_t (by assumption) ?_; cbv)
          | (refine alt_f (by assumption) ?_; cbv)
          | (refine alt_b (fun h => ?_) (fun h => ?_) <;> cbv)
          | (refine Br.mk (fun h => ?_) (fun h => ?_) <;> cbv)
          | (refine Ob.mk ?_ ?_; rotate_left; cbv)
          | (refine Lex.mk (by kernel_rfl) ?_; cbv)
        all_goals (try simp only [Unit.unit, Int.ofNat_lt, Int.ofNat_le, BE.val, IE.val, NE.val, ltB_iff, ltB_no, leB_iff, leB_no, Int.toNat_natCast, Nat.zero_add, Nat.add_zero, Nat.mul_one, forced, beq_iff_eq, beq_eq_false_iff_ne, bne_iff_ne, bne_eq_false_iff_eq] at *)
        all_goals first | with_reducible rfl | exact nan_up ha | exact nan_up hb | exact ha | exact hb | (simp_all [isNan, cvU]; done) | (simp_all [isNan]; done) | grind [isNan]
  · cases hs
end Go.Proofs.YteifneielgnniaaGreatDoor.Sh
end
section
namespace Go.Proofs.YteifneielgnniaaGreatDoor.Sh
open Go Go.Proofs
theorem intne {n m : Nat} (h : ((n : Int) != (m : Int)) = true) : n ≠ m := by simp at h; omega
theorem inteq {n m : Nat} (h : ((n : Int) != (m : Int)) = false) : n = m := by simp at h; omega
end Go.Proofs.YteifneielgnniaaGreatDoor.Sh
end
section
namespace Go.Proofs.YteifneielgnniaaGreatDoor.Sh
open Go Go.Proofs
end Go.Proofs.YteifneielgnniaaGreatDoor.Sh
end
section
namespace Go.Proofs.YteifneielgnniaaGreatDoor.Sh
open Go Go.Proofs
end Go.Proofs.YteifneielgnniaaGreatDoor.Sh
end
section
namespace Go.Proofs.YteifneielgnniaaGreatDoor.Sh
open Go Go.Proofs
def nxB (L : List Int) (a : Int) : Int := if a < (L.length : Int) then IntKind.wrap .i64 (L.getD a.toNat 0) else 0
def nxS (L : List Int) (q : Int × Int) : Int := IntKind.wrap .u64 (IntKind.wrap .u64 (IntKind.wrap .u64 (q.2 * 6364136223846793005) + IntKind.wrap .u64 (nxB L q.1)) + 1442695040888963407)
def nxV (L : List Int) (q : Int × Int) : Int := if q.1 + 1 ≤ (L.length : Int) then nxB L q.1 else IntKind.wrap .i64 (iand .u64 (ishr .u64 (nxS L q) 40) 255)
def nxQ (L : List Int) (q : Int × Int) : Int × Int := (q.1 + 1, nxS L q)
def pkV (L : List Int) (k : Int) (q : Int × Int) : Int :=
  if k ≤ 1 then 0 else if 200 < k then (IntKind.wrap .i64 (IntKind.wrap .i64 (nxV L q * 256) + nxV L (nxQ L q))).tmod k else (nxV L q).tmod k
def pkQ (L : List Int) (k : Int) (q : Int × Int) : Int × Int :=
  if k ≤ 1 then q else if 200 < k then nxQ L (nxQ L q) else nxQ L q
def bytesOk (L : List Int) : Prop := ∀ x ∈ L, 0 ≤ x ∧ x ≤ 255
theorem natlt {a : Int} {n : Nat} (h0 : 0 ≤ a) (h : a < (n : Int)) : a.toNat < n := by omega
theorem bytes_nil : bytesOk [] := fun x hx => by cases hx
theorem nxB_bd {L : List Int} (h : bytesOk L) (a : Int) : 0 ≤ nxB L a ∧ nxB L a ≤ 255 := by
  unfold nxB
  split
  · have : 0 ≤ L.getD a.toNat 0 ∧ L.getD a.toNat 0 ≤ 255 := by
      rw [List.getD_eq_getElem?_getD]
      cases e : L[a.toNat]? with
      | none => decide
      | some x => exact h x (List.mem_of_getElem? e)
    rw [wrap64 (by omega) (by omega)]
    exact this
  · decide
theorem iand_bd (x : Int) : 0 ≤ iand .u64 x 255 ∧ iand .u64 x 255 ≤ 255 := by
  have h : (BitVec.ofInt 64 x &&& BitVec.ofInt 64 255).toNat ≤ 255 := by
    rw [BitVec.toNat_and]
    exact Nat.le_trans Nat.and_le_right (by decide)
  unfold iand
  show 0 ≤ IntKind.wrap .u64 ((BitVec.ofInt 64 x &&& BitVec.ofInt 64 255).toNat : Int) ∧ IntKind.wrap .u64 ((BitVec.ofInt 64 x &&& BitVec.ofInt 64 255).toNat : Int) ≤ 255
  generalize (BitVec.ofInt 64 x &&& BitVec.ofInt 64 255).toNat = y at h
  simp [IntKind.wrap, IntKind.signed, IntKind.bits]
  omega
theorem nxV_bd {L : List Int} (h : bytesOk L) (q : Int × Int) : 0 ≤ nxV L q ∧ nxV L q ≤ 255 := by
  unfold nxV
  split
  · exact nxB_bd h _
  · have := iand_bd (ishr .u64 (nxS L q) 40)
    rw [wrap64 (by omega) (by omega)]
    exact this
theorem tmod_bd {x k : Int} (hx : 0 ≤ x) (hk : 1 < k) : 0 ≤ x.tmod k ∧ x.tmod k < k := ⟨Int.tmod_nonneg _ hx, Int.tmod_lt_of_pos _ (by omega)⟩
theorem pkV_bd {L : List Int} (h : bytesOk L) {k : Int} (hk : 1 ≤ k) (q : Int × Int) : 0 ≤ pkV L k q ∧ pkV L k q < k := by
  unfold pkV
  split
  · omega
  · split
    · have h1 := nxV_bd h q
      have h2 := nxV_bd h (nxQ L q)
      rw [wrap64 (x := nxV L q * 256) (by omega) (by omega), wrap64 (by omega) (by omega)]
      exact tmod_bd (by omega) (by omega)
    · exact tmod_bd (nxV_bd h q).1 (by omega)
theorem pkQ_bd {L : List Int} {k : Int} {q : Int × Int} : q.1 ≤ (pkQ L k q).1 ∧ (pkQ L k q).1 ≤ q.1 + 2 := by
  unfold pkQ nxQ
  repeat' split
  · omega
  · show q.1 ≤ q.1 + 1 + 1 ∧ q.1 + 1 + 1 ≤ q.1 + 2; omega
  · show q.1 ≤ q.1 + 1 ∧ q.1 + 1 ≤ q.1 + 2; omega
theorem fn113 : FnOk Tryz.prog 113 Tryz.f113 (bodyOf Tryz.f113) := ⟨Tryz.func113, rfl, by rfl⟩
def s113 : Spec := hspec fun args H => match args, H with
  | [.c (.p 0 (.l 0))], [some ⟨true, 0, .lit [.sl 1 (.x o) (.x n), .i .i64 (.x a), .i .u64 (.x s)]⟩, some ⟨false, 0, .it .u8 L⟩] => some (vI (nxV (L ()) (a (), s ())), [some ⟨true, 0, .lit [.sl 1 (.x o) (.x n), .i .i64 (.x fun _ => (nxQ (L ()) (a (), s ())).1), .i .u64 (.x fun _ => (nxQ (L ()) (a (), s ())).2)]⟩, some ⟨false, 0, .it .u8 L⟩], [fun _ => 0 ≤ a () ∧ a () ≤ 100000, fun _ => o () = 0 ∧ (L ()).length = n () ∧ n () ≤ 4096 ∧ bytesOk (L ())])
  | [.c (.p 0 (.l 0))], [some ⟨true, 0, .lit [.sn, .i .i64 (.x a), .i .u64 (.x s)]⟩] => some (vI (nxV [] (a (), s ())), [some ⟨true, 0, .lit [.sn, .i .i64 (.x fun _ => (nxQ [] (a (), s ())).1), .i .u64 (.x fun _ => (nxQ [] (a (), s ())).2)]⟩], [fun _ => 0 ≤ a () ∧ a () ≤ 100000])
  | _, _ => none
set_option maxRecDepth 100000 in
set_option maxHeartbeats 1000000 in
theorem ok113 : Ok Tryz.prog 113 (s113) := ok_of_wpaH (E := envGetL []) mixed tts (envOk_nil _) fn113 fun args H v H' o hs ho => by
  split at hs
  · rename_i o n a s L
    cases hs
    obtain ⟨⟨ha0, ha1⟩, ⟨ho0, hlen, hbig, hby⟩⟩ := ho.two
    try simp only [Unit.unit] at ha0 ha1 ho0 hlen hbig 
    refine ⟨_, HLe.refl _, ?_⟩
    cbv
    have hB : nxB (L ⟨⟩) (a ⟨⟩) = if a ⟨⟩ < (n ⟨⟩ : Int) then IntKind.wrap .i64 (((L ⟨⟩)).getD (a ⟨⟩).toNat 0) else 0 := by rw [← hlen]; rfl
    have hV : nxV (L ⟨⟩) (a ⟨⟩, s ⟨⟩) = if a ⟨⟩ + 1 ≤ (n ⟨⟩ : Int) then nxB (L ⟨⟩) (a ⟨⟩) else IntKind.wrap .i64 (iand .u64 (ishr .u64 (nxS (L ⟨⟩) (a ⟨⟩, s ⟨⟩)) 40) 255) := by rw [← hlen]; rfl
    have hS : nxS (L ⟨⟩) (a ⟨⟩, s ⟨⟩) = IntKind.wrap .u64 (IntKind.wrap .u64 (IntKind.wrap .u64 (s ⟨⟩ * 6364136223846793005) + IntKind.wrap .u64 (nxB (L ⟨⟩) (a ⟨⟩))) + 1442695040888963407) := rfl
    have hw : IntKind.wrap .i64 (a ⟨⟩ + 1) = a ⟨⟩ + 1 := wrap64 (by omega) (by omega)
    by_cases hc : a ⟨⟩ < (n ⟨⟩ : Int)
    · rw [if_pos hc] at hB
      rw [hB] at hS hV
      repeat' first
        | (refine Br.mk (fun h => ?_) (fun h => ?_) <;> cbv)
        | (refine Ob.mk ?_ ?_; rotate_left; cbv)
        | (refine Lex.mk (by decide +kernel) ?_; cbv)
      all_goals (try simp only [Unit.unit, Int.ofNat_lt, Int.ofNat_le, BE.val, IE.val, NE.val, ltB_iff, ltB_no, leB_iff, leB_no, Int.toNat_natCast, Nat.zero_add, Nat.add_zero, Nat.mul_one, forced, beq_iff_eq, beq_eq_false_iff_ne, bne_iff_ne, bne_eq_false_iff_eq] at *)
      all_goals (try simp only [hw, ho0, hlen, Nat.zero_add, Nat.mul_one] at *)
      all_goals first | with_reducible rfl | omega | (refine ⟨by omega, ?_⟩; omega) | (exfalso; omega) | exact natlt ha0 hc | exact ⟨ha0, hc⟩ | exact hS.symm | exact hS | (rw [hV, if_pos (by omega)]; done) | (rw [hV, if_neg (by omega)]; done) | (rw [hV, if_neg (by omega), hS]; done) | rfl
    · rw [if_neg hc] at hB
      rw [hB, show IntKind.wrap .u64 0 = 0 from rfl] at hS
      rw [hB] at hV
      repeat' first
        | (refine Br.mk (fun h => ?_) (fun h => ?_) <;> cbv)
        | (refine Ob.mk ?_ ?_; rotate_left; cbv)
        | (refine Lex.mk (by decide +kernel) ?_; cbv)
      all_goals (try simp only [Unit.unit, Int.ofNat_lt, Int.ofNat_le, BE.val, IE.val, NE.val, ltB_iff, ltB_no, leB_iff, leB_no, Int.toNat_natCast, Nat.zero_add, Nat.add_zero, Nat.mul_one, forced, beq_iff_eq, beq_eq_false_iff_ne, bne_iff_ne, bne_eq_false_iff_eq] at *)
      all_goals (try simp only [hw, ho0, hlen, Nat.zero_add, Nat.mul_one] at *)
      all_goals first | with_reducible rfl | omega | (refine ⟨by omega, ?_⟩; omega) | (exfalso; omega) | exact natlt ha0 hc | exact ⟨ha0, hc⟩ | exact hS.symm | exact hS | (rw [hV, if_pos (by omega)]; done) | (rw [hV, if_neg (by omega)]; done) | (rw [hV, if_neg (by omega), hS]; done) | rfl
  · rename_i a s
    cases hs
    obtain ⟨ha0, ha1⟩ := ho.one
    have hby := bytes_nil
    try simp only [Unit.unit] at ha0 ha1 
    refine ⟨_, HLe.refl _, ?_⟩
    cbv
    have hB : nxB [] (a ⟨⟩) = if a ⟨⟩ < ((0 : Nat) : Int) then IntKind.wrap .i64 (([]).getD (a ⟨⟩).toNat 0) else 0 := by rfl
    have hV : nxV [] (a ⟨⟩, s ⟨⟩) = if a ⟨⟩ + 1 ≤ ((0 : Nat) : Int) then nxB [] (a ⟨⟩) else IntKind.wrap .i64 (iand .u64 (ishr .u64 (nxS [] (a ⟨⟩, s ⟨⟩)) 40) 255) := by rfl
    have hS : nxS [] (a ⟨⟩, s ⟨⟩) = IntKind.wrap .u64 (IntKind.wrap .u64 (IntKind.wrap .u64 (s ⟨⟩ * 6364136223846793005) + IntKind.wrap .u64 (nxB [] (a ⟨⟩))) + 1442695040888963407) := rfl
    have hw : IntKind.wrap .i64 (a ⟨⟩ + 1) = a ⟨⟩ + 1 := wrap64 (by omega) (by omega)
    by_cases hc : a ⟨⟩ < ((0 : Nat) : Int)
    · rw [if_pos hc] at hB
      rw [hB] at hS hV
      exfalso; omega
    · rw [if_neg hc] at hB
      rw [hB, show IntKind.wrap .u64 0 = 0 from rfl] at hS
      rw [hB] at hV
      repeat' first
        | (refine Br.mk (fun h => ?_) (fun h => ?_) <;> cbv)
        | (refine Ob.mk ?_ ?_; rotate_left; cbv)
        | (refine Lex.mk (by decide +kernel) ?_; cbv)
      all_goals (try simp only [Unit.unit, Int.ofNat_lt, Int.ofNat_le, BE.val, IE.val, NE.val, ltB_iff, ltB_no, leB_iff, leB_no, Int.toNat_natCast, Nat.zero_add, Nat.add_zero, Nat.mul_one, forced, beq_iff_eq, beq_eq_false_iff_ne, bne_iff_ne, bne_eq_false_iff_eq] at *)
      all_goals (try simp only [hw, Nat.zero_add, Nat.mul_one] at *)
      all_goals first | with_reducible rfl | omega | (refine ⟨by omega, ?_⟩; omega) | (exfalso; omega) | exact natlt ha0 hc | exact ⟨ha0, hc⟩ | exact hS.symm | exact hS | (rw [hV, if_pos (by omega)]; done) | (rw [hV, if_neg (by omega)]; done) | (rw [hV, if_neg (by omega), hS]; done) | rfl
  · cases hs
end Go.Proofs.YteifneielgnniaaGreatDoor.Sh
end
section
namespace Go.Proofs.YteifneielgnniaaGreatDoor.Sh
open Go Go.Proofs
theorem nx_bd {L : List Int} {q : Int × Int} (h0 : 0 ≤ q.1) (h1 : q.1 ≤ 50000) : 0 ≤ (nxQ L q).1 ∧ (nxQ L q).1 ≤ 100000 := ⟨by show 0 ≤ q.1 + 1; omega, by show q.1 + 1 ≤ 100000; omega⟩
theorem pkV_0 {L : List Int} {k : Int} {q : Int × Int} (h : k ≤ 1) : pkV L k q = 0 := if_pos h
theorem pkQ_0 {L : List Int} {k : Int} {q : Int × Int} (h : k ≤ 1) : pkQ L k q = q := if_pos h
theorem pkV_1 {L : List Int} {k : Int} {q : Int × Int} (h : ¬ k ≤ 1) (h2 : ¬ 200 < k) : pkV L k q = (nxV L q).tmod k := by unfold pkV; rw [if_neg h, if_neg h2]
theorem pkQ_1 {L : List Int} {k : Int} {q : Int × Int} (h : ¬ k ≤ 1) (h2 : ¬ 200 < k) : pkQ L k q = nxQ L q := by unfold pkQ; rw [if_neg h, if_neg h2]
theorem pkV_2 {L : List Int} {k : Int} {q : Int × Int} (h : ¬ k ≤ 1) (h2 : 200 < k) : pkV L k q = (IntKind.wrap .i64 (IntKind.wrap .i64 (nxV L q * 256) + nxV L (nxQ L q))).tmod k := by unfold pkV; rw [if_neg h, if_pos h2]
theorem pkQ_2 {L : List Int} {k : Int} {q : Int × Int} (h : ¬ k ≤ 1) (h2 : 200 < k) : pkQ L k q = nxQ L (nxQ L q) := by unfold pkQ; rw [if_neg h, if_pos h2]
theorem fn55 : FnOk Tryz.prog 55 Tryz.f55 (bodyOf Tryz.f55) := ⟨Tryz.func55, rfl, by rfl⟩
def s55 : Spec := hspec fun args H => match args, H with
  | [.c (.p 0 (.l 0)), .c (.i .i64 (.x k))], [some ⟨true, 0, .lit [.sl 1 (.x o) (.x n), .i .i64 (.x a), .i .u64 (.x s)]⟩, some ⟨false, 0, .it .u8 L⟩] => some (vI (pkV (L ()) (k ()) (a (), s ())), [some ⟨true, 0, .lit [.sl 1 (.x o) (.x n), .i .i64 (.x fun _ => (pkQ (L ()) (k ()) (a (), s ())).1), .i .u64 (.x fun _ => (pkQ (L ()) (k ()) (a (), s ())).2)]⟩, some ⟨false, 0, .it .u8 L⟩], [fun _ => 0 ≤ a () ∧ a () ≤ 100000, fun _ => o () = 0 ∧ (L ()).length = n () ∧ n () ≤ 4096 ∧ bytesOk (L ()), fun _ => a () ≤ 50000])
  | [.c (.p 0 (.l 0)), .c (.i .i64 (.x k))], [some ⟨true, 0, .lit [.sn, .i .i64 (.x a), .i .u64 (.x s)]⟩] => some (vI (pkV [] (k ()) (a (), s ())), [some ⟨true, 0, .lit [.sn, .i .i64 (.x fun _ => (pkQ [] (k ()) (a (), s ())).1), .i .u64 (.x fun _ => (pkQ [] (k ()) (a (), s ())).2)]⟩], [fun _ => 0 ≤ a () ∧ a () ≤ 100000, fun _ => a () ≤ 50000])
  | _, _ => none
def E55 : Env := fun g => envGetL [(113, ⟨false, s113, none⟩)] g
theorem E55ok : EnvOk Tryz.prog E55 := envOk_cons ok113 (envOk_nil _)
set_option maxRecDepth 100000 in
set_option maxHeartbeats 1000000 in
theorem ok55 : Ok Tryz.prog 55 (s55) := ok_of_wpaH (E := E55) mixed tts E55ok fn55 fun args H v H' o hs ho => by
  split at hs
  · rename_i k o n a s L
    cases hs
    obtain ⟨⟨ha0, ha1⟩, ⟨ho0, hlen, hbig, hby⟩, hx0⟩ := ho.three
    try simp only [Unit.unit] at ha0 ha1 ho0 hlen hbig hx0
    refine ⟨_, HLe.refl _, ?_⟩
    cbv
    by_cases h1 : k ⟨⟩ ≤ 1
    · have hV := pkV_0 (L := (L ⟨⟩)) (q := (a ⟨⟩, s ⟨⟩)) h1
      have hQ := pkQ_0 (L := (L ⟨⟩)) (q := (a ⟨⟩, s ⟨⟩)) h1
      repeat' first
        | (refine Br.mk (fun h => ?_) (fun h => ?_) <;> cbv)
        | (refine Ob.mk ?_ ?_; rotate_left; cbv)
        | (refine Lex.mk (by decide +kernel) ?_; cbv)
      all_goals try (first | exact ⟨ha0, ha1⟩ | exact nx_bd ha0 hx0 | exact ⟨ho0, hlen, hbig, hby⟩ | exact ⟨by trivial, hlen, hbig, hby⟩)
      all_goals (try simp only [Unit.unit, Int.ofNat_lt, Int.ofNat_le, BE.val, IE.val, NE.val, ltB_iff, ltB_no, leB_iff, leB_no, Int.toNat_natCast, Nat.zero_add, Nat.add_zero, Nat.mul_one, forced, beq_iff_eq, beq_eq_false_iff_ne, bne_iff_ne, bne_eq_false_iff_eq] at *)
      all_goals first | with_reducible rfl | (exfalso; omega) | omega | (rw [hV]; done) | (rw [hV]; rfl) | (rw [hQ]; done) | (rw [hQ]; rfl) | rfl
    · by_cases h2 : 200 < k ⟨⟩
      · have hV := pkV_2 (L := (L ⟨⟩)) (q := (a ⟨⟩, s ⟨⟩)) h1 h2
        have hQ := pkQ_2 (L := (L ⟨⟩)) (q := (a ⟨⟩, s ⟨⟩)) h1 h2
        repeat' first
          | (refine Br.mk (fun h => ?_) (fun h => ?_) <;> cbv)
          | (refine Ob.mk ?_ ?_; rotate_left; cbv)
          | (refine Lex.mk (by decide +kernel) ?_; cbv)
        all_goals try (first | exact ⟨ha0, ha1⟩ | exact nx_bd ha0 hx0 | exact ⟨ho0, hlen, hbig, hby⟩ | exact ⟨by trivial, hlen, hbig, hby⟩)
        all_goals (try simp only [Unit.unit, Int.ofNat_lt, Int.ofNat_le, BE.val, IE.val, NE.val, ltB_iff, ltB_no, leB_iff, leB_no, Int.toNat_natCast, Nat.zero_add, Nat.add_zero, Nat.mul_one, forced, beq_iff_eq, beq_eq_false_iff_ne, bne_iff_ne, bne_eq_false_iff_eq] at *)
        all_goals first | with_reducible rfl | (exfalso; omega) | omega | (rw [hV]; done) | (rw [hV]; rfl) | (rw [hQ]; done) | (rw [hQ]; rfl) | rfl
      · have hV := pkV_1 (L := (L ⟨⟩)) (q := (a ⟨⟩, s ⟨⟩)) h1 h2
        have hQ := pkQ_1 (L := (L ⟨⟩)) (q := (a ⟨⟩, s ⟨⟩)) h1 h2
        repeat' first
          | (refine Br.mk (fun h => ?_) (fun h => ?_) <;> cbv)
          | (refine Ob.mk ?_ ?_; rotate_left; cbv)
          | (refine Lex.mk (by decide +kernel) ?_; cbv)
        all_goals try (first | exact ⟨ha0, ha1⟩ | exact nx_bd ha0 hx0 | exact ⟨ho0, hlen, hbig, hby⟩ | exact ⟨by trivial, hlen, hbig, hby⟩)
        all_goals (try simp only [Unit.unit, Int.ofNat_lt, Int.ofNat_le, BE.val, IE.val, NE.val, ltB_iff, ltB_no, leB_iff, leB_no, Int.toNat_natCast, Nat.zero_add, Nat.add_zero, Nat.mul_one, forced, beq_iff_eq, beq_eq_false_iff_ne, bne_iff_ne, bne_eq_false_iff_eq] at *)
        all_goals first | with_reducible rfl | (exfalso; omega) | omega | (rw [hV]; done) | (rw [hV]; rfl) | (rw [hQ]; done) | (rw [hQ]; rfl) | rfl
  · rename_i k a s
    cases hs
    obtain ⟨⟨ha0, ha1⟩, hx0⟩ := ho.two
    have hby := bytes_nil
    try simp only [Unit.unit] at ha0 ha1 hx0
    refine ⟨_, HLe.refl _, ?_⟩
    cbv
    by_cases h1 : k ⟨⟩ ≤ 1
    · have hV := pkV_0 (L := []) (q := (a ⟨⟩, s ⟨⟩)) h1
      have hQ := pkQ_0 (L := []) (q := (a ⟨⟩, s ⟨⟩)) h1
      repeat' first
        | (refine Br.mk (fun h => ?_) (fun h => ?_) <;> cbv)
        | (refine Ob.mk ?_ ?_; rotate_left; cbv)
        | (refine Lex.mk (by decide +kernel) ?_; cbv)
      all_goals try (first | exact ⟨ha0, ha1⟩ | exact nx_bd ha0 hx0)
      all_goals (try simp only [Unit.unit, Int.ofNat_lt, Int.ofNat_le, BE.val, IE.val, NE.val, ltB_iff, ltB_no, leB_iff, leB_no, Int.toNat_natCast, Nat.zero_add, Nat.add_zero, Nat.mul_one, forced, beq_iff_eq, beq_eq_false_iff_ne, bne_iff_ne, bne_eq_false_iff_eq] at *)
      all_goals first | with_reducible rfl | (exfalso; omega) | omega | (rw [hV]; done) | (rw [hV]; rfl) | (rw [hQ]; done) | (rw [hQ]; rfl) | rfl
    · by_cases h2 : 200 < k ⟨⟩
      · have hV := pkV_2 (L := []) (q := (a ⟨⟩, s ⟨⟩)) h1 h2
        have hQ := pkQ_2 (L := []) (q := (a ⟨⟩, s ⟨⟩)) h1 h2
        repeat' first
          | (refine Br.mk (fun h => ?_) (fun h => ?_) <;> cbv)
          | (refine Ob.mk ?_ ?_; rotate_left; cbv)
          | (refine Lex.mk (by decide +kernel) ?_; cbv)
        all_goals try (first | exact ⟨ha0, ha1⟩ | exact nx_bd ha0 hx0)
        all_goals (try simp only [Unit.unit, Int.ofNat_lt, Int.ofNat_le, BE.val, IE.val, NE.val, ltB_iff, ltB_no, leB_iff, leB_no, Int.toNat_natCast, Nat.zero_add, Nat.add_zero, Nat.mul_one, forced, beq_iff_eq, beq_eq_false_iff_ne, bne_iff_ne, bne_eq_false_iff_eq] at *)
        all_goals first | with_reducible rfl | (exfalso; omega) | omega | (rw [hV]; done) | (rw [hV]; rfl) | (rw [hQ]; done) | (rw [hQ]; rfl) | rfl
      · have hV := pkV_1 (L := []) (q := (a ⟨⟩, s ⟨⟩)) h1 h2
        have hQ := pkQ_1 (L := []) (q := (a ⟨⟩, s ⟨⟩)) h1 h2
        repeat' first
          | (refine Br.mk (fun h => ?_) (fun h => ?_) <;> cbv)
          | (refine Ob.mk ?_ ?_; rotate_left; cbv)
          | (refine Lex.mk (by decide +kernel) ?_; cbv)
        all_goals try (first | exact ⟨ha0, ha1⟩ | exact nx_bd ha0 hx0)
        all_goals (try simp only [Unit.unit, Int.ofNat_lt, Int.ofNat_le, BE.val, IE.val, NE.val, ltB_iff, ltB_no, leB_iff, leB_no, Int.toNat_natCast, Nat.zero_add, Nat.add_zero, Nat.mul_one, forced, beq_iff_eq, beq_eq_false_iff_ne, bne_iff_ne, bne_eq_false_iff_eq] at *)
        all_goals first | with_reducible rfl | (exfalso; omega) | omega | (rw [hV]; done) | (rw [hV]; rfl) | (rw [hQ]; done) | (rw [hQ]; rfl) | rfl
  · cases hs
theorem fn112 : FnOk Tryz.prog 112 Tryz.f112 (bodyOf Tryz.f112) := ⟨Tryz.func112, rfl, by rfl⟩
def s112 : Spec := hspec fun args H => match args, H with
  | [.c (.p 0 (.l 0)), .c (.i .i64 (.x k))], [some ⟨true, 0, .lit [.sl 1 (.x o) (.x n), .i .i64 (.x a), .i .u64 (.x s)]⟩, some ⟨false, 0, .it .u8 L⟩] => some (vB (pkV (L ()) (k ()) (a (), s ()) == 0), [some ⟨true, 0, .lit [.sl 1 (.x o) (.x n), .i .i64 (.x fun _ => (pkQ (L ()) (k ()) (a (), s ())).1), .i .u64 (.x fun _ => (pkQ (L ()) (k ()) (a (), s ())).2)]⟩, some ⟨false, 0, .it .u8 L⟩], [fun _ => 0 ≤ a () ∧ a () ≤ 100000, fun _ => o () = 0 ∧ (L ()).length = n () ∧ n () ≤ 4096 ∧ bytesOk (L ()), fun _ => a () ≤ 50000])
  | [.c (.p 0 (.l 0)), .c (.i .i64 (.x k))], [some ⟨true, 0, .lit [.sn, .i .i64 (.x a), .i .u64 (.x s)]⟩] => some (vB (pkV [] (k ()) (a (), s ()) == 0), [some ⟨true, 0, .lit [.sn, .i .i64 (.x fun _ => (pkQ [] (k ()) (a (), s ())).1), .i .u64 (.x fun _ => (pkQ [] (k ()) (a (), s ())).2)]⟩], [fun _ => 0 ≤ a () ∧ a () ≤ 100000, fun _ => a () ≤ 50000])
  | _, _ => none
def E112 : Env := fun g => envGetL [(55, ⟨false, s55, none⟩)] g
theorem E112ok : EnvOk Tryz.prog E112 := envOk_cons ok55 (envOk_nil _)
set_option maxRecDepth 100000 in
set_option maxHeartbeats 1000000 in
theorem ok112 : Ok Tryz.prog 112 (s112) := ok_of_wpaH (E := E112) mixed tts E112ok fn112 fun args H v H' o hs ho => by
  split at hs
  · rename_i k o n a s L
    cases hs
    obtain ⟨⟨ha0, ha1⟩, ⟨ho0, hlen, hbig, hby⟩, hx0⟩ := ho.three
    try simp only [Unit.unit] at ha0 ha1 ho0 hlen hbig hx0
    refine ⟨_, HLe.refl _, ?_⟩
    cbv
    repeat' first
      | (refine Br.mk (fun h => ?_) (fun h => ?_) <;> cbv)
      | (refine Ob.mk ?_ ?_; rotate_left; cbv)
      | (refine Lex.mk (by decide +kernel) ?_; cbv)
    all_goals try (first | exact ⟨ha0, ha1⟩ | exact ⟨ho0, hlen, hbig, hby⟩ | exact ⟨by trivial, hlen, hbig, hby⟩)
    all_goals (try simp only [Unit.unit, Int.ofNat_lt, Int.ofNat_le, BE.val, IE.val, NE.val, ltB_iff, ltB_no, leB_iff, leB_no, Int.toNat_natCast, Nat.zero_add, Nat.add_zero, Nat.mul_one, forced, beq_iff_eq, beq_eq_false_iff_ne, bne_iff_ne, bne_eq_false_iff_eq] at *)
    all_goals first | with_reducible rfl | omega | exact hx0 | rfl
  · rename_i k a s
    cases hs
    obtain ⟨⟨ha0, ha1⟩, hx0⟩ := ho.two
    have hby := bytes_nil
    try simp only [Unit.unit] at ha0 ha1 hx0
    refine ⟨_, HLe.refl _, ?_⟩
    cbv
    repeat' first
      | (refine Br.mk (fun h => ?_) (fun h => ?_) <;> cbv)
      | (refine Ob.mk ?_ ?_; rotate_left; cbv)
      | (refine Lex.mk (by decide +kernel) ?_; cbv)
    all_goals try (first | exact ⟨ha0, ha1⟩)
    all_goals (try simp only [Unit.unit, Int.ofNat_lt, Int.ofNat_le, BE.val, IE.val, NE.val, ltB_iff, ltB_no, leB_iff, leB_no, Int.toNat_natCast, Nat.zero_add, Nat.add_zero, Nat.mul_one, forced, beq_iff_eq, beq_eq_false_iff_ne, bne_iff_ne, bne_eq_false_iff_eq] at *)
    all_goals first | with_reducible rfl | omega | exact hx0 | rfl
  · cases hs
theorem fn111 : FnOk Tryz.prog 111 Tryz.f111 (bodyOf Tryz.f111) := ⟨Tryz.func111, rfl, by rfl⟩
def s111 : Spec := hspec fun args H => match args, H with
  | [.c (.p 0 (.l 0)), .c (.sl 1 (.x o') (.x m))], [some ⟨true, 0, .lit [.sl 2 (.x o) (.x n), .i .i64 (.x a), .i .u64 (.x s)]⟩, some ⟨true, 1, x⟩, some ⟨false, 0, .it .u8 L⟩] => match x.toIt .i64 with
    | some l => some (vI ((l ()).getD (pkV (L ()) (m () : Int) (a (), s ())).toNat 0), [some ⟨true, 0, .lit [.sl 2 (.x o) (.x n), .i .i64 (.x fun _ => (pkQ (L ()) (m () : Int) (a (), s ())).1), .i .u64 (.x fun _ => (pkQ (L ()) (m () : Int) (a (), s ())).2)]⟩, some ⟨true, 1, .it .i64 l⟩, some ⟨false, 0, .it .u8 L⟩], [fun _ => 0 ≤ a () ∧ a () ≤ 50000, fun _ => o () = 0 ∧ (L ()).length = n () ∧ n () ≤ 4096 ∧ bytesOk (L ()), fun _ => o' () = 0 ∧ (l ()).length = m () ∧ 1 ≤ m () ∧ m () ≤ 200])
    | none => none
  | [.c (.p 0 (.l 0)), .c (.sl 1 (.x o') (.x m))], [some ⟨true, 0, .lit [.sn, .i .i64 (.x a), .i .u64 (.x s)]⟩, some ⟨true, 1, x⟩] => match x.toIt .i64 with
    | some l => some (vI ((l ()).getD (pkV [] (m () : Int) (a (), s ())).toNat 0), [some ⟨true, 0, .lit [.sn, .i .i64 (.x fun _ => (pkQ [] (m () : Int) (a (), s ())).1), .i .u64 (.x fun _ => (pkQ [] (m () : Int) (a (), s ())).2)]⟩, some ⟨true, 1, .it .i64 l⟩], [fun _ => 0 ≤ a () ∧ a () ≤ 50000, fun _ => o' () = 0 ∧ (l ()).length = m () ∧ 1 ≤ m () ∧ m () ≤ 200])
    | none => none
  | _, _ => none
def E111 : Env := fun g => envGetL [(55, ⟨false, s55, none⟩)] g
theorem E111ok : EnvOk Tryz.prog E111 := envOk_cons ok55 (envOk_nil _)
set_option maxRecDepth 100000 in
set_option maxHeartbeats 1000000 in
theorem ok111 : Ok Tryz.prog 111 (s111) := ok_of_wpaH (E := E111) mixed tts E111ok fn111 fun args H v H' o hs ho => by
  split at hs
  · rename_i o' m o n a s x L
    split at hs
    · rename_i l hl
      cases hs
      obtain ⟨⟨ha0, ha1⟩, ⟨ho0, hlen, hbig, hby⟩, ⟨ho1, hlen1, hm1, hm2⟩⟩ := ho.three
      try simp only [Unit.unit] at *
      have hb := pkV_bd hby (k := (m ⟨⟩ : Int)) (by omega) (a ⟨⟩, s ⟨⟩)
      refine ⟨_, HLe.cons (BLe.refl _) (HLe.cons (BLe.it hl) (HLe.cons (BLe.refl _) HLe.nil)), ?_⟩
      cbv
      repeat' first
        | (refine Br.mk (fun h => ?_) (fun h => ?_) <;> cbv)
        | (refine Ob.mk ?_ ?_; rotate_left; cbv)
        | (refine Lex.mk (by decide +kernel) ?_; cbv)
      all_goals try (first | exact ⟨ha0, Int.le_trans ha1 (by decide)⟩ | exact ha1 | exact ⟨ho0, hlen, hbig, hby⟩ | exact ⟨by trivial, hlen, hbig, hby⟩ | exact hb | exact natlt hb.1 hb.2)
      all_goals (try simp only [Unit.unit, Int.ofNat_lt, Int.ofNat_le, BE.val, IE.val, NE.val, ltB_iff, ltB_no, leB_iff, leB_no, Int.toNat_natCast, Nat.zero_add, Nat.add_zero, Nat.mul_one, forced, beq_iff_eq, beq_eq_false_iff_ne, bne_iff_ne, bne_eq_false_iff_eq] at *)
      all_goals (try simp only [ho1, Nat.zero_add, Nat.mul_one] at *)
      all_goals first | with_reducible rfl | exact hb | exact natlt hb.1 hb.2 | (rw [hlen1]; exact natlt hb.1 hb.2) | rfl
    · cases hs
  · rename_i o' m a s x
    split at hs
    · rename_i l hl
      cases hs
      obtain ⟨⟨ha0, ha1⟩, ⟨ho1, hlen1, hm1, hm2⟩⟩ := ho.two
      have hby := bytes_nil
      try simp only [Unit.unit] at *
      have hb := pkV_bd hby (k := (m ⟨⟩ : Int)) (by omega) (a ⟨⟩, s ⟨⟩)
      refine ⟨_, HLe.cons (BLe.refl _) (HLe.cons (BLe.it hl) HLe.nil), ?_⟩
      cbv
      repeat' first
        | (refine Br.mk (fun h => ?_) (fun h => ?_) <;> cbv)
        | (refine Ob.mk ?_ ?_; rotate_left; cbv)
        | (refine Lex.mk (by decide +kernel) ?_; cbv)
      all_goals try (first | exact ⟨ha0, Int.le_trans ha1 (by decide)⟩ | exact ha1 | exact hb | exact natlt hb.1 hb.2)
      all_goals (try simp only [Unit.unit, Int.ofNat_lt, Int.ofNat_le, BE.val, IE.val, NE.val, ltB_iff, ltB_no, leB_iff, leB_no, Int.toNat_natCast, Nat.zero_add, Nat.add_zero, Nat.mul_one, forced, beq_iff_eq, beq_eq_false_iff_ne, bne_iff_ne, bne_eq_false_iff_eq] at *)
      all_goals (try simp only [ho1, Nat.zero_add, Nat.mul_one] at *)
      all_goals first | with_reducible rfl | exact hb | exact natlt hb.1 hb.2 | (rw [hlen1]; exact natlt hb.1 hb.2) | rfl
    · cases hs
  · cases hs
end Go.Proofs.YteifneielgnniaaGreatDoor.Sh
end
section
namespace Go.Proofs.YteifneielgnniaaGreatDoor.Sh
open Go Go.Proofs
theorem fn54 : FnOk Tryz.prog 54 Tryz.f54 (bodyOf Tryz.f54) := ⟨Tryz.func54, rfl, by rfl⟩
def s54 : Spec := hspec fun args H => match args, H with
  | [.c (.sl 0 (.x o) (.x n))], [some ⟨false, 0, .it .u8 L⟩] => some (.c (.p 1 (.l 0)), [some ⟨false, 0, .it .u8 L⟩, some ⟨true, 0, .lit [.sl 0 (.x o) (.x n), .i .i64 (.l 0), .i .u64 (.l 0)]⟩], [])
  | [.c .sn], [] => some (.c (.p 0 (.l 0)), [some ⟨true, 0, .lit [.sn, .i .i64 (.l 0), .i .u64 (.l 0)]⟩], [])
  | _, _ => none
theorem ok54 : Ok Tryz.prog 54 (s54) := ok_of_wpaH (E := envGetL []) mixed tts (envOk_nil _) fn54 fun args H v H' o hs ho => by
  split at hs
  · rename_i o n L
    cases hs
    refine ⟨_, HLe.refl _, ?_⟩
    cbv
    repeat' first
      | (refine alt_t (by assumption) ?_; cbv)
      | (refine alt_f (by assumption) ?_; cbv)
      | (refine alt_b (fun h => ?_) (fun h => ?_) <;> cbv)
      | (refine Br.mk (fun h => ?_) (fun h => ?_) <;> cbv)
      | (refine Ob.mk ?_ ?_; rotate_left; cbv)
      | (refine Lex.mk (by decide +kernel) ?_; cbv)
    all_goals (try simp only [Unit.unit, Int.ofNat_lt, Int.ofNat_le, BE.val, IE.val, NE.val, ltB_iff, ltB_no, leB_iff, leB_no, Int.toNat_natCast, Nat.zero_add, Nat.add_zero, Nat.mul_one, forced, beq_iff_eq, beq_eq_false_iff_ne, bne_iff_ne, bne_eq_false_iff_eq] at *)
    all_goals first | with_reducible rfl | grind | rfl
  · cases hs
    refine ⟨_, HLe.refl _, ?_⟩
    cbv
    repeat' first
      | (refine alt_t (by assumption) ?_; cbv)
      | (refine alt_f (by assumption) ?_; cbv)
      | (refine alt_b (fun h => ?_) (fun h => ?_) <;> cbv)
      | (refine Br.mk (fun h => ?_) (fun h => ?_) <;> cbv)
      | (refine Ob.mk ?_ ?_; rotate_left; cbv)
      | (refine Lex.mk (by decide +kernel) ?_; cbv)
    all_goals (try simp only [Unit.unit, Int.ofNat_lt, Int.ofNat_le, BE.val, IE.val, NE.val, ltB_iff, ltB_no, leB_iff, leB_no, Int.toNat_natCast, Nat.zero_add, Nat.add_zero, Nat.mul_one, forced, beq_iff_eq, beq_eq_false_iff_ne, bne_iff_ne, bne_eq_false_iff_eq] at *)
    all_goals first | with_reducible rfl | grind | rfl
  · cases hs
theorem fn5 : FnOk Tryz.prog 5 Tryz.f5 (bodyOf Tryz.f5) := ⟨Tryz.func5, rfl, by rfl⟩
def s5 : Spec := hspec fun args H => match args, H with
  | [.c (.sl 0 (.x _) (.x n))], [some ⟨false, 0, .it .u8 _⟩] => some (vB (ltB 4096 (n () : Int)), [none], [])
  | [.c .sn], [] => some (.c (.b (.l false)), [], [])
  | _, _ => none
theorem ok5 : Ok Tryz.prog 5 (s5) := ok_of_wpaH (E := envGetL []) mixed tts (envOk_nil _) fn5 fun args H v H' o hs ho => by
  split at hs
  · rename_i o n L
    cases hs
    refine ⟨_, HLe.refl _, ?_⟩
    cbv
    repeat' first
      | (refine alt_t (by assumption) ?_; cbv)
      | (refine alt_f (by assumption) ?_; cbv)
      | (refine alt_b (fun h => ?_) (fun h => ?_) <;> cbv)
      | (refine Br.mk (fun h => ?_) (fun h => ?_) <;> cbv)
      | (refine Ob.mk ?_ ?_; rotate_left; cbv)
      | (refine Lex.mk (by decide +kernel) ?_; cbv)
    all_goals (try simp only [Unit.unit, Int.ofNat_lt, Int.ofNat_le, BE.val, IE.val, NE.val, ltB_iff, ltB_no, leB_iff, leB_no, Int.toNat_natCast, Nat.zero_add, Nat.add_zero, Nat.mul_one, forced, beq_iff_eq, beq_eq_false_iff_ne, bne_iff_ne, bne_eq_false_iff_eq] at *)
    all_goals first | with_reducible rfl | grind | rfl
  · cases hs
    refine ⟨_, HLe.refl _, ?_⟩
    cbv
    repeat' first
      | (refine alt_t (by assumption) ?_; cbv)
      | (refine alt_f (by assumption) ?_; cbv)
      | (refine alt_b (fun h => ?_) (fun h => ?_) <;> cbv)
      | (refine Br.mk (fun h => ?_) (fun h => ?_) <;> cbv)
      | (refine Ob.mk ?_ ?_; rotate_left; cbv)
      | (refine Lex.mk (by decide +kernel) ?_; cbv)
    all_goals (try simp only [Unit.unit, Int.ofNat_lt, Int.ofNat_le, BE.val, IE.val, NE.val, ltB_iff, ltB_no, leB_iff, leB_no, Int.toNat_natCast, Nat.zero_add, Nat.add_zero, Nat.mul_one, forced, beq_iff_eq, beq_eq_false_iff_ne, bne_iff_ne, bne_eq_false_iff_eq] at *)
    all_goals first | with_reducible rfl | grind | rfl
  · cases hs
theorem fn7 : FnOk Tryz.prog 7 Tryz.f7 (bodyOf Tryz.f7) := ⟨Tryz.func7, rfl, by rfl⟩
def s7 : Spec := hspec fun args H => match args, H with
  | [.c (.sl 0 (.x o) (.x n)), .c (.i .i64 (.x k))], [some ⟨false, 0, .it .u8 L⟩] => some (vI (pkV (L ()) (k ()) (0, 0)), [none], [fun _ => o () = 0 ∧ (L ()).length = n () ∧ n () ≤ 4096 ∧ bytesOk (L ())])
  | [.c .sn, .c (.i .i64 (.x k))], [] => some (vI (pkV [] (k ()) (0, 0)), [], [])
  | _, _ => none
def E7 : Env := fun g => envGetL [(54, ⟨false, s54, none⟩), (55, ⟨false, s55, none⟩)] g
theorem E7ok : EnvOk Tryz.prog E7 := envOk_cons ok54 (envOk_cons ok55 (envOk_nil _))
theorem ok7 : Ok Tryz.prog 7 (s7) := ok_of_wpaH (E := E7) mixed tts E7ok fn7 fun args H v H' o hs ho => by
  split at hs
  · rename_i o n k L
    cases hs
    have hcb := ho.one
    refine ⟨_, HLe.refl _, ?_⟩
    cbv
    repeat' first
      | (refine alt_t (by assumption) ?_; cbv)
      | (refine alt_f (by assumption) ?_; cbv)
      | (refine alt_b (fun h => ?_) (fun h => ?_) <;> cbv)
      | (refine Br.mk (fun h => ?_) (fun h => ?_) <;> cbv)
      | (refine Ob.mk ?_ ?_; rotate_left; cbv)
      | (refine Lex.mk (by decide +kernel) ?_; cbv)
    all_goals (try simp only [Unit.unit, Int.ofNat_lt, Int.ofNat_le, BE.val, IE.val, NE.val, ltB_iff, ltB_no, leB_iff, leB_no, Int.toNat_natCast, Nat.zero_add, Nat.add_zero, Nat.mul_one, forced, beq_iff_eq, beq_eq_false_iff_ne, bne_iff_ne, bne_eq_false_iff_eq] at *)
    all_goals first | with_reducible rfl | exact hcb | exact ⟨by decide, by decide⟩ | decide | rfl
  · rename_i k
    cases hs
    refine ⟨_, HLe.refl _, ?_⟩
    cbv
    repeat' first
      | (refine alt_t (by assumption) ?_; cbv)
      | (refine alt_f (by assumption) ?_; cbv)
      | (refine alt_b (fun h => ?_) (fun h => ?_) <;> cbv)
      | (refine Br.mk (fun h => ?_) (fun h => ?_) <;> cbv)
      | (refine Ob.mk ?_ ?_; rotate_left; cbv)
      | (refine Lex.mk (by decide +kernel) ?_; cbv)
    all_goals (try simp only [Unit.unit, Int.ofNat_lt, Int.ofNat_le, BE.val, IE.val, NE.val, ltB_iff, ltB_no, leB_iff, leB_no, Int.toNat_natCast, Nat.zero_add, Nat.add_zero, Nat.mul_one, forced, beq_iff_eq, beq_eq_false_iff_ne, bne_iff_ne, bne_eq_false_iff_eq] at *)
    all_goals first | with_reducible rfl | exact hcb | exact ⟨by decide, by decide⟩ | decide | rfl
  · cases hs
end Go.Proofs.YteifneielgnniaaGreatDoor.Sh
end
section
namespace Go.Proofs.YteifneielgnniaaGreatDoor.Sh
open Go Go.Proofs
/-! a web that is drawn -/
def qIn (N : Int) (q : Int × Int) : Prop := 0 ≤ q.1 ∧ q.1 ≤ N
theorem qIn_pk {N : Int} {L : List Int} {k : Int} {q : Int × Int} (h : qIn N q) : qIn (N + 2) (pkQ L k q) := by
  have := pkQ_bd (L := L) (k := k) (q := q)
  unfold qIn at *
  omega
theorem qIn_le {N M : Int} {q : Int × Int} (h : qIn N q) (hM : N ≤ M) : qIn M q := ⟨h.1, Int.le_trans h.2 hM⟩
end Go.Proofs.YteifneielgnniaaGreatDoor.Sh
end
section
namespace Go.Proofs.YteifneielgnniaaGreatDoor.Sh
open Go Go.Proofs
end Go.Proofs.YteifneielgnniaaGreatDoor.Sh
end
section
namespace Go.Proofs.YteifneielgnniaaGreatDoor.Sh
open Go Go.Proofs
end Go.Proofs.YteifneielgnniaaGreatDoor.Sh
end
section
namespace Go.Proofs.YteifneielgnniaaGreatDoor.Sh
open Go Go.Proofs
/-- one contract or another -/
def orSpec (s1 s2 : Spec) : Spec := fun args H => match s1 args H with
  | some r => some r
  | none => s2 args H
theorem ok_or {P : Program} {g : Nat} {s1 s2 : Spec} (h1 : Ok P g s1) (h2 : Ok P g s2) : Ok P g (orSpec s1 s2) := by
  intro args H v H' o hs ho
  unfold orSpec at hs
  split at hs
  · rename_i r hr
    cases hs
    exact h1 args H v H' o hr ho
  · exact h2 args H v H' o hs ho
theorem fn21 : FnOk Tryz.prog 21 Tryz.f21 (bodyOf Tryz.f21) := ⟨Tryz.func21, rfl, by rfl⟩
def s21 : Spec := hspec fun args H => match args, H with
  | [.c (.f .f32 a), .c (.f .f32 b)], [] => some (vB (eqW (a ()) (b ())), [], [])
  | _, _ => none
def E21 : Env := fun g => envGetL [(58, ⟨true, s58, none⟩)] g
theorem E21ok : EnvOk Tryz.prog E21 := envOk_cons ok58 (envOk_nil _)
theorem ok21 : Ok Tryz.prog 21 (s21) := ok_of_wpaH (E := E21) mixed tts E21ok fn21 fun args H v H' o hs ho => by
  split at hs
  · rename_i a b
    cases hs
    refine ⟨_, HLe.nil, ?_⟩
    cbv
    repeat' first
      | (refine alt_t (by assumption) ?_; cbv)
      | (refine alt_f (by assumption) ?_; cbv)
      | (refine alt_b (fun h => ?_) (fun h => ?_) <;> cbv)
      | (refine Br.mk (fun h => ?_) (fun h => ?_) <;> cbv)
      | (refine Ob.mk ?_ ?_; rotate_left; cbv)
      | (refine Lex.mk (by kernel_rfl) ?_; cbv)
    all_goals (try simp only [Unit.unit, Int.ofNat_lt, Int.ofNat_le, BE.val, IE.val, NE.val, ltB_iff, ltB_no, leB_iff, leB_no, Int.toNat_natCast, Nat.zero_add, Nat.add_zero, Nat.mul_one, forced, beq_iff_eq, beq_eq_false_iff_ne, bne_iff_ne, bne_eq_false_iff_eq] at *)
    all_goals first | with_reducible rfl | rfl | grind
  · cases hs
theorem fn105 : FnOk Tryz.prog 105 Tryz.f105 (bodyOf Tryz.f105) := ⟨Tryz.func105, rfl, by rfl⟩
def rowEq (o o' : Nat) (l l' : List Int) (i : Nat) : Bool := l.getD (o + i) 0 == l'.getD (o' + i) 0
def s105 : Spec := hspec fun args H => match args, H with
  | [.c (.sl 0 (.x o) (.x n)), .c (.sl 1 (.x o') (.x n'))], [some ⟨false, 0, x⟩, some ⟨false, 0, x'⟩] => match x.toIt .i64, x'.toIt .i64 with
    | some l, some l' => some (vB (decide (n () = n' ()) && allI (rowEq (o ()) (o' ()) (l ()) (l' ())) (n ())), [none, none], [fun _ => o () + n () ≤ (l ()).length ∧ n () ≤ 1048576, fun _ => o' () + n' () ≤ (l' ()).length ∧ n' () ≤ 1048576])
    | _, _ => none
  | _, _ => none
set_option maxRecDepth 100000 in
set_option maxHeartbeats 1000000 in
theorem ok105 : Ok Tryz.prog 105 (s105) := ok_of_wpaH (E := envGetL []) mixed tts (envOk_nil _) fn105 fun args H v H' o hs ho => by
  split at hs
  · rename_i o n o' n' x x'
    split at hs
    · rename_i l l' hl hl'
      cases hs
      obtain ⟨⟨hlen, hbig⟩, ⟨hlen', hbig'⟩⟩ := ho.two
      simp only [Unit.unit] at hlen hbig hlen' hbig'
      refine ⟨_, HLe.cons (BLe.it hl) (HLe.cons (BLe.it hl') HLe.nil), ?_⟩
      cbv
      refine Br.mk (fun h => ?_) (fun h => ?_)
      · have hn := intne h
        cbv
        repeat' (refine Ob.mk ?_ ?_; rotate_left; cbv)
        all_goals (try simp only [Unit.unit, BE.val, IE.val, NE.val] at *)
        all_goals first | with_reducible rfl | (rw [decide_eq_false hn]; done) | (rw [decide_eq_false hn]; rfl)
      have hn := inteq h
      clear h
      cbv
      refine loop_rule (α := Unit → Nat) (c := ⟨tt, (envGetL []), 2⟩)
          (fun i => fr 26 [(0, .c (.sl 0 (.x o) (.x n))), (1, .c (.sl 1 (.x o') (.x n'))), (5, .c (.i .i64 (.x fun _ => i ())))]) (fun i => [some ⟨false, 0, .it .i64 l⟩, some ⟨false, 0, .it .i64 l'⟩])
          (fun i => i () ≤ n () ∧ allI (rowEq (o ()) (o' ()) (l ()) (l' ())) (i ()) = true) (fun i => n () - i ()) (fun _ => n () + 1) ?_ ?_
      · refine .mk (fun _ => 0) ⟨Nat.zero_le _, rfl⟩ (by dsimp only; omega) ?_
        cbv
        repeat' (refine Ob.mk ?_ ?_; rotate_left)
        all_goals (try simp only [Unit.unit, Int.ofNat_lt, Int.ofNat_le, BE.val, IE.val, NE.val, ltB_iff, ltB_no, leB_iff, leB_no, Int.toNat_natCast, Nat.zero_add, Nat.add_zero, Nat.mul_one, forced, beq_iff_eq, beq_eq_false_iff_ne, bne_iff_ne, bne_eq_false_iff_eq] at *)
        all_goals first | with_reducible rfl | trivial | rfl
      · intro i hi
        cbv
        repeat' first
          | (refine alt_t (by assumption) ?_; cbv)
          | (refine alt_f (by assumption) ?_; cbv)
          | (refine alt_b (fun h => ?_) (fun h => ?_) <;> cbv)
          | (refine Br.mk (fun h => ?_) (fun h => ?_) <;> cbv)
          | (refine Ob.mk ?_ ?_; rotate_left; cbv)
          | (refine Lex.mk (by decide +kernel) ?_; cbv)
          | (refine Next.mk (fun _ => i () + 1) ?_ ?_ ?_)
        all_goals (try simp only [Unit.unit, Int.ofNat_lt, Int.ofNat_le, BE.val, IE.val, NE.val, ltB_iff, ltB_no, leB_iff, leB_no, Int.toNat_natCast, Nat.zero_add, Nat.add_zero, Nat.mul_one, forced, beq_iff_eq, beq_eq_false_iff_ne, bne_iff_ne, bne_eq_false_iff_eq] at *)
        all_goals (try simp only [Nat.zero_add, Nat.mul_one] at *)
        all_goals first | with_reducible rfl | omega | exact wrap64_nat (by omega) | (refine ⟨Int.natCast_nonneg _, ?_⟩; omega) | omega | exact ⟨Int.natCast_nonneg _, by omega⟩ | (rw [allI_no (i := i ⟨⟩) (by omega) (by simp_all [rowEq]), Bool.and_false]; done) | (refine ⟨by omega, ?_⟩; simp only [allI, hi.2, Bool.true_and]; simp_all [rowEq]; done) | (rw [show i ⟨⟩ = n ⟨⟩ by omega] at hi; rw [hi.2, decide_eq_true hn]; rfl) | grind
    · cases hs
  · cases hs
theorem fn109 : FnOk Tryz.prog 109 Tryz.f109 (bodyOf Tryz.f109) := ⟨Tryz.func109, rfl, by rfl⟩
def hasI (o : Nat) (l : List Int) (k : Int) (i : Nat) : Bool := !(l.getD (o + i) 0 == k)
def s109 : Spec := hspec fun args H => match args, H with
  | [.c (.sl 0 (.x o) (.x n)), .c (.i .i64 (.x k))], [some ⟨false, 0, x⟩] => match x.toIt .i64 with
    | some l => some (vB (!allI (hasI (o ()) (l ()) (k ())) (n ())), [none], [fun _ => o () + n () ≤ (l ()).length ∧ n () ≤ 1048576])
    | _ => none
  | _, _ => none
set_option maxRecDepth 100000 in
set_option maxHeartbeats 1000000 in
theorem ok109 : Ok Tryz.prog 109 (s109) := ok_of_wpaH (E := envGetL []) mixed tts (envOk_nil _) fn109 fun args H v H' o hs ho => by
  split at hs
  · rename_i o n k x
    split at hs
    · rename_i l hl
      cases hs
      obtain ⟨hlen, hbig⟩ := ho.one
      simp only [Unit.unit] at hlen hbig
      refine ⟨_, HLe.cons (BLe.it hl) HLe.nil, ?_⟩
      cbv
      refine loop_rule (α := Unit → Nat) (c := ⟨tt, (envGetL []), 1⟩)
          (fun i => fr 18 [(0, .c (.sl 0 (.x o) (.x n))), (1, .c (.i .i64 (.x k))), (5, .c (.i .i64 (.x fun _ => i ())))]) (fun i => [some ⟨false, 0, .it .i64 l⟩])
          (fun i => i () ≤ n () ∧ allI (hasI (o ()) (l ()) (k ())) (i ()) = true) (fun i => n () - i ()) (fun _ => n () + 1) ?_ ?_
      · refine .mk (fun _ => 0) ⟨Nat.zero_le _, rfl⟩ (by dsimp only; omega) ?_
        cbv
        repeat' (refine Ob.mk ?_ ?_; rotate_left)
        all_goals (try simp only [Unit.unit, Int.ofNat_lt, Int.ofNat_le, BE.val, IE.val, NE.val, ltB_iff, ltB_no, leB_iff, leB_no, Int.toNat_natCast, Nat.zero_add, Nat.add_zero, Nat.mul_one, forced, beq_iff_eq, beq_eq_false_iff_ne, bne_iff_ne, bne_eq_false_iff_eq] at *)
        all_goals first | with_reducible rfl | trivial | rfl
      · intro i hi
        cbv
        repeat' first
          | (refine alt_t (by assumption) ?_; cbv)
          | (refine alt_f (by assumption) ?_; cbv)
          | (refine alt_b (fun h => ?_) (fun h => ?_) <;> cbv)
          | (refine Br.mk (fun h => ?_) (fun h => ?_) <;> cbv)
          | (refine Ob.mk ?_ ?_; rotate_left; cbv)
          | (refine Lex.mk (by decide +kernel) ?_; cbv)
          | (refine Next.mk (fun _ => i () + 1) ?_ ?_ ?_)
        all_goals (try simp only [Unit.unit, Int.ofNat_lt, Int.ofNat_le, BE.val, IE.val, NE.val, ltB_iff, ltB_no, leB_iff, leB_no, Int.toNat_natCast, Nat.zero_add, Nat.add_zero, Nat.mul_one, forced, beq_iff_eq, beq_eq_false_iff_ne, bne_iff_ne, bne_eq_false_iff_eq] at *)
        all_goals (try simp only [Nat.zero_add, Nat.mul_one] at *)
        all_goals first | with_reducible rfl | omega | exact wrap64_nat (by omega) | (refine ⟨Int.natCast_nonneg _, ?_⟩; omega) | omega | exact ⟨Int.natCast_nonneg _, by omega⟩ | (rw [allI_no (i := i ⟨⟩) (by omega) (by simp_all [hasI])]; rfl) | (refine ⟨by omega, ?_⟩; simp only [allI, hi.2, Bool.true_and]; simp_all [hasI]; done) | (rw [show i ⟨⟩ = n ⟨⟩ by omega] at hi; rw [hi.2]; rfl) | grind
    · cases hs
  · cases hs
theorem fn44 : FnOk Tryz.prog 44 Tryz.f44 (bodyOf Tryz.f44) := ⟨Tryz.func44, rfl, by rfl⟩
theorem fn51 : FnOk Tryz.prog 51 Tryz.f51 (bodyOf Tryz.f51) := ⟨Tryz.func51, rfl, by rfl⟩
def E44 : Env := fun g => envGetL [(105, ⟨true, s105, none⟩)] g
theorem E44ok : EnvOk Tryz.prog E44 := envOk_cons ok105 (envOk_nil _)
theorem ok44 : Ok Tryz.prog 44 (s105) := ok_of_wpaH (E := E44) mixed tts E44ok fn44 fun args H v H' o hs ho => by
  split at hs
  · rename_i o n o' n' x x'
    split at hs
    · rename_i l l' hl hl'
      cases hs
      obtain ⟨h1, h2⟩ := ho.two
      refine ⟨_, HLe.cons (BLe.it hl) (HLe.cons (BLe.it hl') HLe.nil), ?_⟩
      cbv
      repeat' (refine Ob.mk ?_ ?_; rotate_left; cbv)
      all_goals (try simp only [Unit.unit, Int.ofNat_lt, Int.ofNat_le, BE.val, IE.val, NE.val, ltB_iff, ltB_no, leB_iff, leB_no, Int.toNat_natCast, Nat.zero_add, Nat.add_zero, Nat.mul_one, forced, beq_iff_eq, beq_eq_false_iff_ne, bne_iff_ne, bne_eq_false_iff_eq] at *)
      all_goals first | with_reducible rfl | exact h1 | exact h2 | rfl
    · cases hs
  · cases hs
def E51 : Env := fun g => envGetL [(109, ⟨true, s109, none⟩)] g
theorem E51ok : EnvOk Tryz.prog E51 := envOk_cons ok109 (envOk_nil _)
theorem ok51 : Ok Tryz.prog 51 (s109) := ok_of_wpaH (E := E51) mixed tts E51ok fn51 fun args H v H' o hs ho => by
  split at hs
  · rename_i o n k x
    split at hs
    · rename_i l hl
      cases hs
      have h1 := ho.one
      refine ⟨_, HLe.cons (BLe.it hl) HLe.nil, ?_⟩
      cbv
      repeat' (refine Ob.mk ?_ ?_; rotate_left; cbv)
      all_goals (try simp only [Unit.unit, Int.ofNat_lt, Int.ofNat_le, BE.val, IE.val, NE.val, ltB_iff, ltB_no, leB_iff, leB_no, Int.toNat_natCast, Nat.zero_add, Nat.add_zero, Nat.mul_one, forced, beq_iff_eq, beq_eq_false_iff_ne, bne_iff_ne, bne_eq_false_iff_eq] at *)
      all_goals first | with_reducible rfl | exact h1 | rfl
    · cases hs
  · cases hs
end Go.Proofs.YteifneielgnniaaGreatDoor.Sh
end
section
namespace Go.Proofs.YteifneielgnniaaGreatDoor.Sh
open Go Go.Proofs
/-! ## what is drawn -/
theorem pk_nat {L : List Int} (h : bytesOk L) {k : Nat} (hk : 1 ≤ k) (q : Int × Int) : ∃ r : Nat, r < k ∧ pkV L (k : Int) q = (r : Int) := by
  have := pkV_bd h (k := (k : Int)) (by omega) q
  exact ⟨(pkV L (k : Int) q).toNat, by omega, by omega⟩
def fq (x : Int) (d : Nat) : Nat := fop .quo .f32 (floatOfInt .f32 x) d
/-- a speed: so many 64ths -/
def spd (m : Nat) : Nat := fq (m : Int) 1115684864
def allR (n : Nat) (p : Nat → Bool) : Bool := (List.range n).all p
theorem allR_at {n : Nat} {p : Nat → Bool} (h : allR n p = true) {i : Nat} (hi : i < n) : p i = true := List.all_eq_true.1 h i (List.mem_range.2 hi)
section
variable {L : List Int} (h : bytesOk L) (q : Int × Int)
include h
end
/-- what the speeds, tensions of drawn webs are -/
structure Drawn (sp : Nat) (l : List Nat) (n : Nat) : Prop where
  speed : ∀ i, i < n → ∃ m, 50 ≤ m ∧ m < 450 ∧ l.getD (i * 3 + 1) 0 = spd m
  ten : ∀ i, i < n → ∃ r : Nat, r < 80 ∧ l.getD (i * 3 + 2) 0 = fq ((r : Int) - 8) 1082130432
end Go.Proofs.YteifneielgnniaaGreatDoor.Sh
end
