/- Sizes of numbers; the functions of webs, first part. No condition. -/
import Derived.Test.YteifneielgnniaaGreatDoorShB
import Derived.Test.YteifneielgnniaaGreatDoorProg
import Derived.KernelRfl
set_option linter.unusedVariables false
set_option linter.unusedSimpArgs false
set_option linter.unusedSectionVars false
section
namespace Go.Proofs.YteifneielgnniaaGreatDoor.Sh
open Go Ieee
/-! ## sizes of words of single precision -/
theorem bin32 : single.binade = 8388608 := by decide
theorem lp32 : single.leastPlace = -149 := by decide
theorem fb32 : (single.fractionBits : Int) = 23 := by decide
/-- the place of the last digit that is kept, and what is kept -/
def lastOf (m : Nat) (p : Int) : Int := max (p + m.log2 - 23) (-149)
def keptOf (s : Bool) (m : Nat) (p : Int) : Nat := Toward.even.cut s (m <<< (p - lastOf m p).toNat) (lastOf m p - p).toNat
theorem nearest_eq (s : Bool) {m : Nat} (hm : m ≠ 0) (p : Int) : single.nearest s m p = single.word s (min ((lastOf m p + 149).toNat * 8388608 + keptOf s m p) 2139095040) := by
  unfold Format.nearest
  rw [if_neg hm]
  simp only [bin32, lp32, inf32, fb32]
  rfl
theorem word_mod (s : Bool) {r : Nat} (h : r ≤ 2139095040) : single.word s r % 2147483648 = r := by
  unfold Format.word
  rw [sgn32]
  cases s
  · simp only [Bool.false_eq_true, if_false]; exact Nat.mod_eq_of_lt (by omega)
  · simp only [if_true]; rw [Nat.add_mod_left]; exact Nat.mod_eq_of_lt (by omega)
theorem word_neg (s : Bool) {r : Nat} (h : r ≤ 2139095040) : (single.word s r / 2147483648 % 2 == 1) = s := by
  unfold Format.word
  rw [sgn32]
  cases s
  · simp only [Bool.false_eq_true, if_false]; rw [Nat.div_eq_of_lt (by omega)]; rfl
  · simp only [if_true]; rw [show (2147483648 + r) / 2147483648 = 1 by omega]; rfl
/-- what a word stands for -/
theorem read_word (s : Bool) {r : Nat} (h : r ≤ 2139095040) : single.read (single.word s r) =
    if r < 8388608 then .number s r (-149) else if r < 2139095040 then .number s (8388608 + r % 8388608) (-149 + (r / 8388608 - 1 : Nat)) else .infinity s := by
  unfold Format.read
  simp only [sgn32, bin32, lp32, inf32, word_mod s h, word_neg s h]
  split
  · rfl
  · split
    · rfl
    · rw [if_pos (by omega)]
end Go.Proofs.YteifneielgnniaaGreatDoor.Sh
end
section
namespace Go.Proofs.YteifneielgnniaaGreatDoor.Sh
open Go Ieee
/-! ## a wider word and back -/
theorem bin64 : double.binade = 4503599627370496 := by decide
theorem lp64 : double.leastPlace = -1074 := by decide
theorem fb64 : (double.fractionBits : Int) = 52 := by decide
theorem cut_exact (neg : Bool) {m k : Nat} (hm : m ≠ 0) : Toward.even.cut neg (m <<< k) k = m := by
  unfold Toward.cut
  dsimp only
  have hl : k ≤ (m <<< k).log2 + 2 := by
    have : k ≤ (m <<< k).log2 := by
      rw [Nat.le_log2 (by rw [Nat.shiftLeft_eq]; exact Nat.mul_ne_zero hm (Nat.ne_of_gt (Nat.two_pow_pos k)))]
      rw [Nat.shiftLeft_eq]
      exact Nat.le_mul_of_pos_left _ (Nat.pos_of_ne_zero hm)
    omega
  rw [Nat.min_eq_left hl, Nat.one_shiftLeft, Nat.shiftLeft_eq, Nat.mul_div_cancel _ (Nat.two_pow_pos k), Nat.mul_mod_left]
  have := Nat.two_pow_pos k
  have h1 : decide (2 ^ k < 2 * 0) = false := decide_eq_false (by omega)
  have h2 : ((2 ^ k == 2 * 0) = false) := by rw [beq_eq_false_iff_ne]; omega
  rw [h1, h2]
  rfl
theorem read_canon {w : Nat} {s : Bool} {m : Nat} {i : Int} (h : single.read w = .number s m i) :
    (m < 8388608 ∧ i = -149 ∨ 8388608 ≤ m ∧ m < 16777216 ∧ -149 ≤ i ∧ i ≤ 104) ∧ w % 2147483648 = (i + 149).toNat * 8388608 + m ∧ s = (w / 2147483648 % 2 == 1) := by
  unfold Format.read at h
  simp only [sgn32, bin32, lp32, inf32] at h
  split at h
  · cases h; exact ⟨.inl ⟨by omega, rfl⟩, by simp, rfl⟩
  · split at h
    · cases h; refine ⟨.inr ⟨by omega, by omega, by omega, by omega⟩, by omega, rfl⟩
    · split at h <;> cases h
theorem read_infw {w : Nat} {s : Bool} (h : single.read w = .infinity s) : w % 2147483648 = 2139095040 ∧ s = (w / 2147483648 % 2 == 1) := by
  unfold Format.read at h
  simp only [sgn32, bin32, lp32, inf32] at h
  split at h
  · cases h
  · split at h
    · cases h
    · split at h
      · cases h; exact ⟨by assumption, rfl⟩
      · cases h
theorem shl52 {m : Nat} (hm : m ≠ 0) (hl : m.log2 ≤ 52) : 4503599627370496 ≤ m <<< (52 - m.log2) ∧ m <<< (52 - m.log2) < 9007199254740992 := by
  rw [Nat.shiftLeft_eq]
  have h1 := Nat.log2_self_le hm
  have h2 : m < 2 ^ (m.log2 + 1) := Nat.lt_log2_self
  constructor
  · have e : 2 ^ m.log2 * 2 ^ (52 - m.log2) = 4503599627370496 := by rw [← Nat.pow_add, show m.log2 + (52 - m.log2) = 52 by omega]
    rw [← e]
    exact Nat.mul_le_mul_right _ h1
  · have e : 2 ^ (m.log2 + 1) * 2 ^ (52 - m.log2) = 9007199254740992 := by rw [← Nat.pow_add, show m.log2 + 1 + (52 - m.log2) = 53 by omega]
    rw [← e]
    exact Nat.mul_lt_mul_of_pos_right h2 (Nat.two_pow_pos _)
theorem near64 (s : Bool) {m : Nat} {p : Int} (hm : m ≠ 0) (hl : m.log2 ≤ 52) (h1 : -1022 ≤ p + m.log2) (h2 : p + m.log2 ≤ 900) :
    double.nearest s m p = double.word s ((p + m.log2 + 1022).toNat * 4503599627370496 + m <<< (52 - m.log2)) := by
  obtain ⟨_, hb⟩ := shl52 hm hl
  unfold Format.nearest
  rw [if_neg hm]
  simp only [bin64, lp64, inf64, fb64]
  have e : max (p + m.log2 - 52) (-1074) = p + m.log2 - 52 := by omega
  rw [e, show (p + m.log2 - 52 - p).toNat = 0 by omega, cut_zero, show (p - (p + m.log2 - 52)).toNat = 52 - m.log2 by omega, show (p + m.log2 - 52 - -1074).toNat = (p + m.log2 + 1022).toNat by omega,
    Nat.min_eq_left (by omega)]
theorem word_mod64 (s : Bool) {r : Nat} (h : r ≤ 9218868437227405312) : double.word s r % 9223372036854775808 = r := by
  unfold Format.word
  rw [sgn64]
  cases s
  · simp only [Bool.false_eq_true, if_false]; exact Nat.mod_eq_of_lt (by omega)
  · simp only [if_true]; rw [Nat.add_mod_left]; exact Nat.mod_eq_of_lt (by omega)
theorem word_neg64 (s : Bool) {r : Nat} (h : r ≤ 9218868437227405312) : (double.word s r / 9223372036854775808 % 2 == 1) = s := by
  unfold Format.word
  rw [sgn64]
  cases s
  · simp only [Bool.false_eq_true, if_false]; rw [Nat.div_eq_of_lt (by omega)]; rfl
  · simp only [if_true]; rw [show (9223372036854775808 + r) / 9223372036854775808 = 1 by omega]; rfl
theorem read_word64 (s : Bool) {r : Nat} (h : r ≤ 9218868437227405312) : double.read (double.word s r) =
    if r < 4503599627370496 then .number s r (-1074) else if r < 9218868437227405312 then .number s (4503599627370496 + r % 4503599627370496) (-1074 + (r / 4503599627370496 - 1 : Nat)) else .infinity s := by
  unfold Format.read
  simp only [sgn64, bin64, lp64, inf64, word_mod64 s h, word_neg64 s h]
  split
  · rfl
  · split
    · rfl
    · rw [if_pos (by omega)]
/-- a word of single precision among those of double precision: its rung there, and back -/
theorem up_num {a : Nat} {s : Bool} {m : Nat} {i : Int} (h : single.read a = .number s m i) :
    ∃ r, r < 9218868437227405312 ∧ floatToFloatBits .f32 a .f64 = some (double.word s r) ∧ (∃ n j, ∀ t, double.read (double.word t r) = .number t n j) ∧ floatToFloatBits .f64 r .f32 = some (a % 2147483648) := by
  obtain ⟨hc, hw, _⟩ := read_canon h
  have up : ∀ {r : Nat} {n : Nat} {j : Int}, r < 9218868437227405312 → double.nearest s m i = double.word s r → (∀ t, double.read (double.word t r) = .number t n j) → floatToFloatBits .f32 a .f64 = some (double.word s r) := by
    intro r n j hr he hd
    unfold floatToFloatBits
    rw [if_neg (by decide)]
    have e1 : FloatKind.f32.decode a = .number s m i := h
    have e2 : FloatKind.f64.encode (.number s m i) = double.word s r := he
    have e3 : FloatKind.f64.decode (double.word s r) = .number s n j := hd s
    rw [e1]
    dsimp only
    rw [e2, e3]
    rfl
  have down : ∀ {r : Nat} {n : Nat} {j : Int} {q : Nat}, q < 2139095040 → (∀ t, double.read (double.word t r) = .number t n j) → single.nearest false n j = single.word false q → floatToFloatBits .f64 r .f32 = some q := by
    intro r n j q hq hd he
    unfold floatToFloatBits
    rw [if_neg (by decide)]
    have e1 : FloatKind.f64.decode r = .number false n j := hd false
    have e2 : FloatKind.f32.encode (.number false n j) = q := he
    have e3 : (FloatKind.f32.decode q).isInfinity = false := by
      have : single.read (single.word false q) = _ := read_word false (Nat.le_of_lt hq)
      show (single.read q).isInfinity = false
      rw [show single.word false q = q from rfl] at this
      rw [this]
      split
      · rfl
      · rfl
    rw [e1]
    dsimp only
    rw [e2, e3]
    rfl
  by_cases hm : m = 0
  · subst hm
    have hi : i = -149 := by omega
    subst hi
    have hd : ∀ t, double.read (double.word t 0) = .number t 0 (-1074) := fun t => by rw [read_word64 t (by omega)]; rfl
    refine ⟨0, by omega, up (by omega) (by unfold Format.nearest; rw [if_pos rfl]) hd, ⟨_, _, hd⟩, ?_⟩
    rw [hw]
    exact down (by omega) hd (by unfold Format.nearest; rw [if_pos rfl]; rfl)
  · have hL : m.log2 ≤ 23 := by
      have : m.log2 < 24 := (Nat.log2_lt hm).2 (by omega)
      omega
    have hlast : max (i + m.log2 - 23) (-149) = i := by
      rcases hc with ⟨h1, h2⟩ | ⟨h1, h2, h3, h4⟩
      · have : m.log2 < 23 := (Nat.log2_lt hm).2 (by omega)
        omega
      · have : 23 ≤ m.log2 := (Nat.le_log2 hm).2 (by omega)
        omega
    have hi1 : -149 ≤ i ∧ i ≤ 104 := by omega
    obtain ⟨k1, k2⟩ := shl52 hm (by omega)
    generalize hR : (i + m.log2 + 1022).toNat * 4503599627370496 + m <<< (52 - m.log2) = r
    have hr : r < 9218868437227405312 := by omega
    have hn := near64 s hm (p := i) (by omega) (by omega) (by omega)
    rw [hR] at hn
    have hd : ∀ t, double.read (double.word t r) = .number t (m <<< (52 - m.log2)) (i + m.log2 - 52) := by
      intro t
      rw [read_word64 t (by omega), if_neg (by omega), if_pos hr]
      congr 1 <;> omega
    refine ⟨r, hr, up hr hn hd, ⟨_, _, hd⟩, ?_⟩
    rw [hw]
    refine down (by omega) hd ?_
    have hM : m <<< (52 - m.log2) ≠ 0 := by omega
    have hML : (m <<< (52 - m.log2)).log2 = 52 := by
      have h1 : (m <<< (52 - m.log2)).log2 < 53 := (Nat.log2_lt hM).2 (by omega)
      have h2 : 52 ≤ (m <<< (52 - m.log2)).log2 := (Nat.le_log2 hM).2 (by omega)
      omega
    have hLo : lastOf (m <<< (52 - m.log2)) (i + m.log2 - 52) = i := by
      unfold lastOf
      rw [hML]
      omega
    rw [nearest_eq false hM]
    unfold keptOf
    rw [hLo, show (i + m.log2 - 52 - i).toNat = 0 by omega, Nat.shiftLeft_zero, show (i - (i + m.log2 - 52)).toNat = 52 - m.log2 by omega, cut_exact _ hm, Nat.min_eq_left (by omega)]
/-- a double's word without its sign -/
def absB (x : Nat) : Nat := (bits .andNot .u64 (x : Int) 9223372036854775808).toNat
theorem absB_eq (x : Nat) : absB x = x % 9223372036854775808 := by
  have e1 : BitVec.ofInt 64 (x : Int) = BitVec.ofNat 64 x := BitVec.ofInt_natCast 64 x
  have e2 : ~~~ BitVec.ofInt 64 9223372036854775808 = 9223372036854775807#64 := by decide
  have e3 : (BitVec.ofInt 64 (x : Int) &&& ~~~ BitVec.ofInt 64 9223372036854775808).toNat = x % 9223372036854775808 := by
    rw [e1, e2, BitVec.toNat_and, BitVec.toNat_ofNat]
    have := Nat.and_two_pow_sub_one_eq_mod (x % 2 ^ 64) 63
    rw [show (9223372036854775807#64).toNat = 2 ^ 63 - 1 from rfl, this]
    omega
  show (IntKind.wrap .u64 ((BitVec.ofInt 64 (x : Int) &&& ~~~ BitVec.ofInt 64 9223372036854775808).toNat : Int)).toNat = _
  rw [e3]
  have h1 : x % 9223372036854775808 < 9223372036854775808 := Nat.mod_lt _ (by decide)
  generalize x % 9223372036854775808 = y at *
  simp [IntKind.wrap, IntKind.signed, IntKind.bits]
  omega
theorem absB_nan {x : Nat} (h : (double.read x).isNaN = true) : (double.read (absB x)).isNaN = true := by
  have h1 := nan_read .f64 x
  have h2 := nan_read .f64 (absB x)
  rw [show FloatKind.f64.format = double from rfl, sgn64, inf64] at h1 h2
  rw [h1] at h
  rw [h2, absB_eq]
  rw [decide_eq_true_eq] at h ⊢
  omega
def cvU (a : Nat) : Nat := (floatToFloatBits .f32 a .f64).getD (qn .f64)
/-- the size, there and back -/
def sizeI (a : Nat) : Nat := (floatToFloatBits .f64 (absB (cvU a)) .f32).getD (qn .f32)
/-- the size, by a test -/
def sizeF (a : Nat) : Nat := if fcmp .lss .f32 a 0 = true then fneg .f32 a else a
theorem size_some (a : Nat) : (FloatKind.f64.decode (absB (cvU a))).isNaN = false → (floatToFloatBits .f64 (absB (cvU a)) .f32).isSome = true := by
  intro hn
  unfold cvU at *
  cases hd : single.read a with
  | number s m i =>
    obtain ⟨r, hr, h1, _, h2⟩ := up_num hd
    rw [h1, Option.getD_some, absB_eq, word_mod64 s (Nat.le_of_lt hr), h2]
    rfl
  | infinity s =>
    have e1 : floatToFloatBits .f32 a .f64 = some (double.word s 9218868437227405312) := by
      unfold floatToFloatBits
      rw [if_neg (by decide), show FloatKind.f32.decode a = .infinity s from hd]
      rfl
    rw [e1, Option.getD_some, absB_eq, word_mod64 s (Nat.le_refl _)]
    rfl
  | nan s t =>
    have e1 : floatToFloatBits .f32 a .f64 = none := by
      unfold floatToFloatBits
      rw [if_neg (by decide), show FloatKind.f32.decode a = .nan s t from hd]
    rw [e1, Option.getD_none] at hn
    rw [show (FloatKind.f64.decode (absB (qn .f64))).isNaN = true from absB_nan (nan_qn .f64)] at hn
    cases hn
theorem sizeI_eq (a : Nat) : sizeI a = if (single.read a).isNaN then qn .f32 else a % 2147483648 := by
  unfold sizeI cvU
  cases hd : single.read a with
  | number s m i =>
    obtain ⟨r, hr, h1, _, h2⟩ := up_num hd
    rw [h1, Option.getD_some, absB_eq, word_mod64 s (Nat.le_of_lt hr), h2]
    rfl
  | infinity s =>
    have e1 : floatToFloatBits .f32 a .f64 = some (double.word s 9218868437227405312) := by
      unfold floatToFloatBits
      rw [if_neg (by decide), show FloatKind.f32.decode a = .infinity s from hd]
      rfl
    rw [e1, Option.getD_some, absB_eq, word_mod64 s (Nat.le_refl _), (read_infw hd).1]
    rfl
  | nan s t =>
    have e1 : floatToFloatBits .f32 a .f64 = none := by
      unfold floatToFloatBits
      rw [if_neg (by decide), show FloatKind.f32.decode a = .nan s t from hd]
    have e2 : floatToFloatBits .f64 (absB (qn .f64)) .f32 = none := by
      obtain ⟨u, v, e⟩ := isNaN_iff (absB_nan (nan_qn .f64))
      unfold floatToFloatBits
      rw [if_neg (by decide), show FloatKind.f64.decode (absB (qn .f64)) = .nan u v from e]
    rw [e1, Option.getD_none, e2]
    rfl
theorem read_mod (a : Nat) : single.read (a % 2147483648) = match single.read a with
    | .number _ m i => .number false m i
    | .infinity _ => .infinity false
    | .nan _ t => .nan false t := by
  unfold Format.read
  simp only [sgn32, bin32, lp32, inf32, Nat.mod_mod]
  have : a % 2147483648 / 2147483648 % 2 = 0 := by omega
  rw [this]
  split
  · rfl
  · split
    · rfl
    · split <;> rfl
theorem read_neg (a : Nat) : single.read (Op.negFloat .f32 a) = (single.read a).opposite := by
  have e : Op.negFloat .f32 a = a ^^^ 2 ^ 31 := rfl
  have h1 : (a ^^^ 2 ^ 31) % 2147483648 = a % 2147483648 := by
    have := @Nat.xor_mod_two_pow a (2 ^ 31) 31
    rw [Nat.mod_self, Nat.xor_zero] at this
    exact this
  have h2 : (a ^^^ 2 ^ 31) / 2147483648 = (a / 2147483648) ^^^ 1 := by
    have := @Nat.xor_div_two_pow a (2 ^ 31) 31
    rw [Nat.div_self (by decide)] at this
    exact this
  have h3 : ((a / 2147483648) ^^^ 1) % 2 = 1 - a / 2147483648 % 2 := by
    have := @Nat.xor_mod_two_pow (a / 2147483648) 1 1
    rw [Nat.pow_one] at this
    rw [this]
    rcases Nat.mod_two_eq_zero_or_one (a / 2147483648) with h | h <;> rw [h] <;> rfl
  rw [e]
  unfold Format.read
  simp only [sgn32, bin32, lp32, inf32, h1, h2, h3]
  have h4 : (1 - a / 2147483648 % 2 == 1) = !(a / 2147483648 % 2 == 1) := by
    rcases Nat.mod_two_eq_zero_or_one (a / 2147483648) with h | h <;> rw [h] <;> rfl
  rw [h4]
  split
  · rfl
  · split
    · rfl
    · split <;> rfl
theorem fcmp_read {op : BinOp} {a b w : Nat} (h : single.read a = single.read b) : fcmp op .f32 a w = fcmp op .f32 b w := by
  unfold fcmp
  show (match op with | _ => _) = _
  simp only [Format.order, FloatKind.format, h]
theorem cmp_lt {a b : Int} (h : compare a b = .lt) : a < b := by
  simp only [compare, compareOfLessAndEq] at h
  split at h
  · assumption
  · split at h <;> cases h
theorem signed_zero (s t : Bool) (k : Nat) : signed s 0 k = signed t 0 k := by cases s <;> cases t <;> simp [signed]
theorem size_leq (a w : Nat) : fcmp .leq .f32 (sizeI a) w = fcmp .leq .f32 (sizeF a) w := by
  have r0 : single.read 0 = .number false 0 (-149) := by decide
  rw [sizeI_eq]
  unfold sizeF
  have lss : fcmp .lss .f32 a 0 = ((single.read a).order (.number false 0 (-149)) == some .lt) := by
    unfold fcmp
    simp only [Format.order, FloatKind.format, r0]
  rw [lss]
  have hm := read_mod a
  cases hd : single.read a with
  | nan s t =>
    have hn : (single.read a).isNaN = true := by rw [hd]; rfl
    show fcmp .leq .f32 (qn .f32) w = fcmp .leq .f32 a w
    unfold fcmp
    have e1 : FloatKind.f32.format.order (qn .f32) w = none := order_nanL (k := .f32) (nan_qn .f32)
    have e2 : FloatKind.f32.format.order a w = none := order_nanL (k := .f32) hn
    rw [e1, e2]
  | infinity s =>
    rw [hd] at hm
    have hn : (FloatKind.f32.format.read a).isNaN = false := by show (single.read a).isNaN = false; rw [hd]; rfl
    cases s with
    | false =>
      show fcmp .leq .f32 (a % 2147483648) w = fcmp .leq .f32 a w
      exact fcmp_read (by rw [hm]; exact hd.symm)
    | true =>
      show fcmp .leq .f32 (a % 2147483648) w = fcmp .leq .f32 (fneg .f32 a) w
      refine fcmp_read ?_
      unfold fneg
      rw [hn]
      show _ = single.read (Op.negFloat .f32 a)
      rw [hm, read_neg, hd]
      rfl
  | number s m i =>
    rw [hd] at hm
    have hn : (FloatKind.f32.format.read a).isNaN = false := by show (single.read a).isNaN = false; rw [hd]; rfl
    show fcmp .leq .f32 (a % 2147483648) w = _
    split
    · rename_i hl
      refine fcmp_read ?_
      unfold fneg
      rw [hn]
      show _ = single.read (Op.negFloat .f32 a)
      rw [hm, read_neg, hd]
      cases s with
      | true => rfl
      | false =>
        exfalso
        simp only [Datum.order, signed, beq_iff_eq, Option.some.injEq, Bool.false_eq_true, if_false, Nat.zero_shiftLeft] at hl
        have h1 := cmp_lt hl
        have h2 := Int.natCast_nonneg (m <<< (i - min i (-149)).toNat)
        omega
    · rename_i hl
      cases s with
      | false => exact fcmp_read (by rw [hm]; exact hd.symm)
      | true =>
        have hm0 : m = 0 := by
          rcases Nat.eq_zero_or_pos m with h | h
          · exact h
          · exfalso
            apply hl
            simp only [Datum.order, signed, beq_iff_eq, Option.some.injEq, Bool.false_eq_true, if_false, if_true, Nat.zero_shiftLeft]
            have h1 : 0 < m <<< (i - min i (-149)).toNat := by rw [Nat.shiftLeft_eq]; exact Nat.mul_pos h (Nat.two_pow_pos _)
            generalize m <<< (i - min i (-149)).toNat = q at h1
            simp only [compare, compareOfLessAndEq]
            rw [if_pos (by omega)]
        subst hm0
        unfold fcmp
        simp only [Format.order, FloatKind.format, hm, hd]
        cases single.read w with
        | nan _ _ => rfl
        | infinity _ => rfl
        | number t n j => simp only [Datum.order, signed_zero true false]
/-! ## the same number -/
def isNan (a : Nat) : Bool := fcmp .neq .f32 a a
theorem order_self {d : Datum} (h : d.isNaN = false) : d.order d = some .eq := by
  cases d with
  | nan => simp [Datum.isNaN] at h
  | infinity s => simp [Datum.order]
  | number s m e => simp [Datum.order]
theorem isNan_eq (a : Nat) : isNan a = (single.read a).isNaN := by
  unfold isNan fcmp
  show ((single.read a).order (single.read a) != some .eq) = _
  cases h : (single.read a).isNaN with
  | true =>
    obtain ⟨u, v, e⟩ := isNaN_iff h
    rw [e]; rfl
  | false => rw [order_self h]; rfl
/-- the sign of a double -/
def sgnD (x : Nat) : Bool := x / 9223372036854775808 % 2 == 1
theorem nan_up {a : Nat} (h : isNan a = false) : (double.read (cvU a)).isNaN = false := by
  rw [isNan_eq] at h
  unfold cvU
  cases hd : single.read a with
  | number s m i =>
    obtain ⟨r, hr, h1, ⟨n, j, hn⟩, h2⟩ := up_num hd
    rw [h1, Option.getD_some, hn]
    rfl
  | infinity s =>
    have e1 : floatToFloatBits .f32 a .f64 = some (double.word s 9218868437227405312) := by
      unfold floatToFloatBits
      rw [if_neg (by decide), show FloatKind.f32.decode a = .infinity s from hd]
      rfl
    rw [e1, Option.getD_some, read_word64 s (Nat.le_refl _)]
    rfl
  | nan s t => rw [hd] at h; simp [Datum.isNaN] at h
/-- equal, and of one sign -/
def eqS (a b : Nat) : Bool := if isNan a || isNan b then isNan a && isNan b else fcmp .eql .f32 a b && (sgnD (cvU a) == sgnD (cvU b))
/-- the same word, or both none -/
def eqW (a b : Nat) : Bool := if isNan a || isNan b then isNan a && isNan b else decide (a = b)
end Go.Proofs.YteifneielgnniaaGreatDoor.Sh
end
section
namespace Go.Proofs.YteifneielgnniaaGreatDoor.Sh
open Go Go.Proofs
def ttl : TTL := [
  (2, ⟨1, 8, .cell, [.i .i64 (.l 0)], some (.inl .i64)⟩),
  (3, ⟨1, 8, .cell, [.i .i64 (.l 0)], some (.inl .i64)⟩),
  (4, ⟨1, 1, .bool, [.b (.l false)], none⟩),
  (5, ⟨1, 1, .cell, [.i .u8 (.l 0)], some (.inl .u8)⟩),
  (6, ⟨1, 1, .cell, [.i .u8 (.l 0)], some (.inl .u8)⟩),
  (7, ⟨4, 24, .st [(0, 2), (1, 3), (2, 4), (3, 6)], [.i .i64 (.l 0), .i .i64 (.l 0), .b (.l false), .i .u8 (.l 0)], none⟩),
  (8, ⟨4, 24, .st [(0, 2), (1, 3), (2, 4), (3, 6)], [.i .i64 (.l 0), .i .i64 (.l 0), .b (.l false), .i .u8 (.l 0)], none⟩),
  (9, ⟨1, 16, .str, [.s fun _ => .empty], none⟩),
  (10, ⟨1, 16, .str, [.s fun _ => .empty], none⟩),
  (11, ⟨1, 16, .str, [.s fun _ => .empty], none⟩),
  (12, ⟨1, 8, .cell, [.i .u64 (.l 0)], some (.inl .u64)⟩),
  (13, ⟨2, 24, .st [(0, 9), (1, 12)], [.s fun _ => .empty, .i .u64 (.l 0)], none⟩),
  (14, ⟨2, 24, .st [(0, 9), (1, 12)], [.s fun _ => .empty, .i .u64 (.l 0)], none⟩),
  (15, ⟨1, 8, .cell, [.pn], none⟩),
  (16, ⟨1, 8, .cell, [.pn], none⟩),
  (17, ⟨1, 8, .cell, [.pn], none⟩),
  (18, ⟨1, 8, .st [(0, 17)], [.pn], none⟩),
  (19, ⟨1, 8, .st [(0, 17)], [.pn], none⟩),
  (21, ⟨1, 4, .cell, [.i .i32 (.l 0)], some (.inl .i32)⟩),
  (22, ⟨1, 24, .sl 5, [.sn], none⟩),
  (24, ⟨1, 4, .cell, [.f .f32 fun _ => 0], some (.inr .f32)⟩),
  (25, ⟨1, 24, .sl 36, [.sn], none⟩),
  (26, ⟨4, 40, .st [(0, 24), (1, 24), (2, 24), (3, 25)], [.f .f32 fun _ => 0, .f .f32 fun _ => 0, .f .f32 fun _ => 0, .sn], none⟩),
  (27, ⟨4, 40, .st [(0, 24), (1, 24), (2, 24), (3, 25)], [.f .f32 fun _ => 0, .f .f32 fun _ => 0, .f .f32 fun _ => 0, .sn], none⟩),
  (35, ⟨3, 12, .st [(0, 24), (1, 24), (2, 24)], [.f .f32 fun _ => 0, .f .f32 fun _ => 0, .f .f32 fun _ => 0], none⟩),
  (36, ⟨3, 12, .st [(0, 24), (1, 24), (2, 24)], [.f .f32 fun _ => 0, .f .f32 fun _ => 0, .f .f32 fun _ => 0], none⟩),
  (45, ⟨1, 8, .cpx, [.z .f32 (fun _ => 0) (fun _ => 0)], none⟩),
  (46, ⟨1, 8, .cpx, [.z .f32 (fun _ => 0) (fun _ => 0)], none⟩),
  (55, ⟨4, 32, .ar 4 46, [.z .f32 (fun _ => 0) (fun _ => 0), .z .f32 (fun _ => 0) (fun _ => 0), .z .f32 (fun _ => 0) (fun _ => 0), .z .f32 (fun _ => 0) (fun _ => 0)], none⟩),
  (56, ⟨16, 128, .ar 4 55, [.z .f32 (fun _ => 0) (fun _ => 0), .z .f32 (fun _ => 0) (fun _ => 0), .z .f32 (fun _ => 0) (fun _ => 0), .z .f32 (fun _ => 0) (fun _ => 0), .z .f32 (fun _ => 0) (fun _ => 0), .z .f32 (fun _ => 0) (fun _ => 0), .z .f32 (fun _ => 0) (fun _ => 0), .z .f32 (fun _ => 0) (fun _ => 0), .z .f32 (fun _ => 0) (fun _ => 0), .z .f32 (fun _ => 0) (fun _ => 0), .z .f32 (fun _ => 0) (fun _ => 0), .z .f32 (fun _ => 0) (fun _ => 0), .z .f32 (fun _ => 0) (fun _ => 0), .z .f32 (fun _ => 0) (fun _ => 0), .z .f32 (fun _ => 0) (fun _ => 0), .z .f32 (fun _ => 0) (fun _ => 0)], none⟩),
  (57, ⟨16, 128, .ar 4 55, [.z .f32 (fun _ => 0) (fun _ => 0), .z .f32 (fun _ => 0) (fun _ => 0), .z .f32 (fun _ => 0) (fun _ => 0), .z .f32 (fun _ => 0) (fun _ => 0), .z .f32 (fun _ => 0) (fun _ => 0), .z .f32 (fun _ => 0) (fun _ => 0), .z .f32 (fun _ => 0) (fun _ => 0), .z .f32 (fun _ => 0) (fun _ => 0), .z .f32 (fun _ => 0) (fun _ => 0), .z .f32 (fun _ => 0) (fun _ => 0), .z .f32 (fun _ => 0) (fun _ => 0), .z .f32 (fun _ => 0) (fun _ => 0), .z .f32 (fun _ => 0) (fun _ => 0), .z .f32 (fun _ => 0) (fun _ => 0), .z .f32 (fun _ => 0) (fun _ => 0), .z .f32 (fun _ => 0) (fun _ => 0)], none⟩),
  (59, ⟨1, 24, .sl 2, [.sn], none⟩),
  (71, ⟨1, 8, .cell, [.pn], none⟩),
  (74, ⟨1, 24, .sl 77, [.sn], none⟩),
  (77, ⟨1, 24, .sl 24, [.sn], none⟩),
  (91, ⟨1, 8, .cell, [.pn], none⟩),
  (103, ⟨1, 24, .sl 9, [.sn], none⟩),
  (107, ⟨1, 8, .cell, [.f .f64 fun _ => 0], some (.inr .f64)⟩),
  (113, ⟨1, 8, .cell, [.pn], none⟩),
  (120, ⟨1, 8, .cell, [.i .u64 (.l 0)], some (.inl .u64)⟩),
  (121, ⟨3, 40, .st [(0, 22), (1, 3), (2, 120)], [.sn, .i .i64 (.l 0), .i .u64 (.l 0)], none⟩),
  (122, ⟨3, 40, .st [(0, 22), (1, 3), (2, 120)], [.sn, .i .i64 (.l 0), .i .u64 (.l 0)], none⟩),
  (127, ⟨1, 4, .cell, [.i .u32 (.l 0)], some (.inl .u32)⟩),
  (140, ⟨1, 8, .cell, [.i .u64 (.l 0)], some (.inl .u64)⟩),
  (144, ⟨1, 8, .cell, [.pn], none⟩),
  (145, ⟨2, 32, .st [(0, 144), (1, 22)], [.pn, .sn], none⟩),
  (146, ⟨2, 32, .st [(0, 144), (1, 22)], [.pn, .sn], none⟩),
  (166, ⟨1, 8, .cell, [.pn], none⟩),
  (174, ⟨24, 24, .ar 24 5, [.i .u8 (.l 0), .i .u8 (.l 0), .i .u8 (.l 0), .i .u8 (.l 0), .i .u8 (.l 0), .i .u8 (.l 0), .i .u8 (.l 0), .i .u8 (.l 0), .i .u8 (.l 0), .i .u8 (.l 0), .i .u8 (.l 0), .i .u8 (.l 0), .i .u8 (.l 0), .i .u8 (.l 0), .i .u8 (.l 0), .i .u8 (.l 0), .i .u8 (.l 0), .i .u8 (.l 0), .i .u8 (.l 0), .i .u8 (.l 0), .i .u8 (.l 0), .i .u8 (.l 0), .i .u8 (.l 0), .i .u8 (.l 0)], none⟩),
  (186, ⟨1, 8, .cell, [.i .i64 (.l 0)], some (.inl .i64)⟩),
  (189, ⟨1, 8, .cell, [.pn], none⟩),
  (194, ⟨20, 160, .ar 20 120, [.i .u64 (.l 0), .i .u64 (.l 0), .i .u64 (.l 0), .i .u64 (.l 0), .i .u64 (.l 0), .i .u64 (.l 0), .i .u64 (.l 0), .i .u64 (.l 0), .i .u64 (.l 0), .i .u64 (.l 0), .i .u64 (.l 0), .i .u64 (.l 0), .i .u64 (.l 0), .i .u64 (.l 0), .i .u64 (.l 0), .i .u64 (.l 0), .i .u64 (.l 0), .i .u64 (.l 0), .i .u64 (.l 0), .i .u64 (.l 0)], none⟩),
  (195, ⟨65, 65, .ar 65 5, [.i .u8 (.l 0), .i .u8 (.l 0), .i .u8 (.l 0), .i .u8 (.l 0), .i .u8 (.l 0), .i .u8 (.l 0), .i .u8 (.l 0), .i .u8 (.l 0), .i .u8 (.l 0), .i .u8 (.l 0), .i .u8 (.l 0), .i .u8 (.l 0), .i .u8 (.l 0), .i .u8 (.l 0), .i .u8 (.l 0), .i .u8 (.l 0), .i .u8 (.l 0), .i .u8 (.l 0), .i .u8 (.l 0), .i .u8 (.l 0), .i .u8 (.l 0), .i .u8 (.l 0), .i .u8 (.l 0), .i .u8 (.l 0), .i .u8 (.l 0), .i .u8 (.l 0), .i .u8 (.l 0), .i .u8 (.l 0), .i .u8 (.l 0), .i .u8 (.l 0), .i .u8 (.l 0), .i .u8 (.l 0), .i .u8 (.l 0), .i .u8 (.l 0), .i .u8 (.l 0), .i .u8 (.l 0), .i .u8 (.l 0), .i .u8 (.l 0), .i .u8 (.l 0), .i .u8 (.l 0), .i .u8 (.l 0), .i .u8 (.l 0), .i .u8 (.l 0), .i .u8 (.l 0), .i .u8 (.l 0), .i .u8 (.l 0), .i .u8 (.l 0), .i .u8 (.l 0), .i .u8 (.l 0), .i .u8 (.l 0), .i .u8 (.l 0), .i .u8 (.l 0), .i .u8 (.l 0), .i .u8 (.l 0), .i .u8 (.l 0), .i .u8 (.l 0), .i .u8 (.l 0), .i .u8 (.l 0), .i .u8 (.l 0), .i .u8 (.l 0), .i .u8 (.l 0), .i .u8 (.l 0), .i .u8 (.l 0), .i .u8 (.l 0), .i .u8 (.l 0)], none⟩),
  (202, ⟨256, 256, .ar 256 5, [.i .u8 (.l 0), .i .u8 (.l 0), .i .u8 (.l 0), .i .u8 (.l 0), .i .u8 (.l 0), .i .u8 (.l 0), .i .u8 (.l 0), .i .u8 (.l 0), .i .u8 (.l 0), .i .u8 (.l 0), .i .u8 (.l 0), .i .u8 (.l 0), .i .u8 (.l 0), .i .u8 (.l 0), .i .u8 (.l 0), .i .u8 (.l 0), .i .u8 (.l 0), .i .u8 (.l 0), .i .u8 (.l 0), .i .u8 (.l 0), .i .u8 (.l 0), .i .u8 (.l 0), .i .u8 (.l 0), .i .u8 (.l 0), .i .u8 (.l 0), .i .u8 (.l 0), .i .u8 (.l 0), .i .u8 (.l 0), .i .u8 (.l 0), .i .u8 (.l 0), .i .u8 (.l 0), .i .u8 (.l 0), .i .u8 (.l 0), .i .u8 (.l 0), .i .u8 (.l 0), .i .u8 (.l 0), .i .u8 (.l 0), .i .u8 (.l 0), .i .u8 (.l 0), .i .u8 (.l 0), .i .u8 (.l 0), .i .u8 (.l 0), .i .u8 (.l 0), .i .u8 (.l 0), .i .u8 (.l 0), .i .u8 (.l 0), .i .u8 (.l 0), .i .u8 (.l 0), .i .u8 (.l 0), .i .u8 (.l 0), .i .u8 (.l 0), .i .u8 (.l 0), .i .u8 (.l 0), .i .u8 (.l 0), .i .u8 (.l 0), .i .u8 (.l 0), .i .u8 (.l 0), .i .u8 (.l 0), .i .u8 (.l 0), .i .u8 (.l 0), .i .u8 (.l 0), .i .u8 (.l 0), .i .u8 (.l 0), .i .u8 (.l 0), .i .u8 (.l 0), .i .u8 (.l 0), .i .u8 (.l 0), .i .u8 (.l 0), .i .u8 (.l 0), .i .u8 (.l 0), .i .u8 (.l 0), .i .u8 (.l 0), .i .u8 (.l 0), .i .u8 (.l 0), .i .u8 (.l 0), .i .u8 (.l 0), .i .u8 (.l 0), .i .u8 (.l 0), .i .u8 (.l 0), .i .u8 (.l 0), .i .u8 (.l 0), .i .u8 (.l 0), .i .u8 (.l 0), .i .u8 (.l 0), .i .u8 (.l 0), .i .u8 (.l 0), .i .u8 (.l 0), .i .u8 (.l 0), .i .u8 (.l 0), .i .u8 (.l 0), .i .u8 (.l 0), .i .u8 (.l 0), .i .u8 (.l 0), .i .u8 (.l 0), .i .u8 (.l 0), .i .u8 (.l 0), .i .u8 (.l 0), .i .u8 (.l 0), .i .u8 (.l 0), .i .u8 (.l 0), .i .u8 (.l 0), .i .u8 (.l 0), .i .u8 (.l 0), .i .u8 (.l 0), .i .u8 (.l 0), .i .u8 (.l 0), .i .u8 (.l 0), .i .u8 (.l 0), .i .u8 (.l 0), .i .u8 (.l 0), .i .u8 (.l 0), .i .u8 (.l 0), .i .u8 (.l 0), .i .u8 (.l 0), .i .u8 (.l 0), .i .u8 (.l 0), .i .u8 (.l 0), .i .u8 (.l 0), .i .u8 (.l 0), .i .u8 (.l 0), .i .u8 (.l 0), .i .u8 (.l 0), .i .u8 (.l 0), .i .u8 (.l 0), .i .u8 (.l 0), .i .u8 (.l 0), .i .u8 (.l 0), .i .u8 (.l 0), .i .u8 (.l 0), .i .u8 (.l 0), .i .u8 (.l 0), .i .u8 (.l 0), .i .u8 (.l 0), .i .u8 (.l 0), .i .u8 (.l 0), .i .u8 (.l 0), .i .u8 (.l 0), .i .u8 (.l 0), .i .u8 (.l 0), .i .u8 (.l 0), .i .u8 (.l 0), .i .u8 (.l 0), .i .u8 (.l 0), .i .u8 (.l 0), .i .u8 (.l 0), .i .u8 (.l 0), .i .u8 (.l 0), .i .u8 (.l 0), .i .u8 (.l 0), .i .u8 (.l 0), .i .u8 (.l 0), .i .u8 (.l 0), .i .u8 (.l 0), .i .u8 (.l 0), .i .u8 (.l 0), .i .u8 (.l 0), .i .u8 (.l 0), .i .u8 (.l 0), .i .u8 (.l 0), .i .u8 (.l 0), .i .u8 (.l 0), .i .u8 (.l 0), .i .u8 (.l 0), .i .u8 (.l 0), .i .u8 (.l 0), .i .u8 (.l 0), .i .u8 (.l 0), .i .u8 (.l 0), .i .u8 (.l 0), .i .u8 (.l 0), .i .u8 (.l 0), .i .u8 (.l 0), .i .u8 (.l 0), .i .u8 (.l 0), .i .u8 (.l 0), .i .u8 (.l 0), .i .u8 (.l 0), .i .u8 (.l 0), .i .u8 (.l 0), .i .u8 (.l 0), .i .u8 (.l 0), .i .u8 (.l 0), .i .u8 (.l 0), .i .u8 (.l 0), .i .u8 (.l 0), .i .u8 (.l 0), .i .u8 (.l 0), .i .u8 (.l 0), .i .u8 (.l 0), .i .u8 (.l 0), .i .u8 (.l 0), .i .u8 (.l 0), .i .u8 (.l 0), .i .u8 (.l 0), .i .u8 (.l 0), .i .u8 (.l 0), .i .u8 (.l 0), .i .u8 (.l 0), .i .u8 (.l 0), .i .u8 (.l 0), .i .u8 (.l 0), .i .u8 (.l 0), .i .u8 (.l 0), .i .u8 (.l 0), .i .u8 (.l 0), .i .u8 (.l 0), .i .u8 (.l 0), .i .u8 (.l 0), .i .u8 (.l 0), .i .u8 (.l 0), .i .u8 (.l 0), .i .u8 (.l 0), .i .u8 (.l 0), .i .u8 (.l 0), .i .u8 (.l 0), .i .u8 (.l 0), .i .u8 (.l 0), .i .u8 (.l 0), .i .u8 (.l 0), .i .u8 (.l 0), .i .u8 (.l 0), .i .u8 (.l 0), .i .u8 (.l 0), .i .u8 (.l 0), .i .u8 (.l 0), .i .u8 (.l 0), .i .u8 (.l 0), .i .u8 (.l 0), .i .u8 (.l 0), .i .u8 (.l 0), .i .u8 (.l 0), .i .u8 (.l 0), .i .u8 (.l 0), .i .u8 (.l 0), .i .u8 (.l 0), .i .u8 (.l 0), .i .u8 (.l 0), .i .u8 (.l 0), .i .u8 (.l 0), .i .u8 (.l 0), .i .u8 (.l 0), .i .u8 (.l 0), .i .u8 (.l 0), .i .u8 (.l 0), .i .u8 (.l 0), .i .u8 (.l 0), .i .u8 (.l 0), .i .u8 (.l 0), .i .u8 (.l 0), .i .u8 (.l 0), .i .u8 (.l 0), .i .u8 (.l 0), .i .u8 (.l 0), .i .u8 (.l 0), .i .u8 (.l 0), .i .u8 (.l 0)], none⟩),
  (203, ⟨2, 2, .st [(0, 5), (1, 5)], [.i .u8 (.l 0), .i .u8 (.l 0)], none⟩),
  (204, ⟨2, 2, .st [(0, 5), (1, 5)], [.i .u8 (.l 0), .i .u8 (.l 0)], none⟩),
  (205, ⟨32, 32, .ar 16 204, [.i .u8 (.l 0), .i .u8 (.l 0), .i .u8 (.l 0), .i .u8 (.l 0), .i .u8 (.l 0), .i .u8 (.l 0), .i .u8 (.l 0), .i .u8 (.l 0), .i .u8 (.l 0), .i .u8 (.l 0), .i .u8 (.l 0), .i .u8 (.l 0), .i .u8 (.l 0), .i .u8 (.l 0), .i .u8 (.l 0), .i .u8 (.l 0), .i .u8 (.l 0), .i .u8 (.l 0), .i .u8 (.l 0), .i .u8 (.l 0), .i .u8 (.l 0), .i .u8 (.l 0), .i .u8 (.l 0), .i .u8 (.l 0), .i .u8 (.l 0), .i .u8 (.l 0), .i .u8 (.l 0), .i .u8 (.l 0), .i .u8 (.l 0), .i .u8 (.l 0), .i .u8 (.l 0), .i .u8 (.l 0)], none⟩),
  (208, ⟨1, 8, .cell, [.pn], none⟩),
  (209, ⟨1, 16, .st [(0, 9)], [.s fun _ => .empty], none⟩),
  (210, ⟨1, 16, .st [(0, 9)], [.s fun _ => .empty], none⟩),
  (211, ⟨32, 32, .ar 32 5, [.i .u8 (.l 0), .i .u8 (.l 0), .i .u8 (.l 0), .i .u8 (.l 0), .i .u8 (.l 0), .i .u8 (.l 0), .i .u8 (.l 0), .i .u8 (.l 0), .i .u8 (.l 0), .i .u8 (.l 0), .i .u8 (.l 0), .i .u8 (.l 0), .i .u8 (.l 0), .i .u8 (.l 0), .i .u8 (.l 0), .i .u8 (.l 0), .i .u8 (.l 0), .i .u8 (.l 0), .i .u8 (.l 0), .i .u8 (.l 0), .i .u8 (.l 0), .i .u8 (.l 0), .i .u8 (.l 0), .i .u8 (.l 0), .i .u8 (.l 0), .i .u8 (.l 0), .i .u8 (.l 0), .i .u8 (.l 0), .i .u8 (.l 0), .i .u8 (.l 0), .i .u8 (.l 0), .i .u8 (.l 0)], none⟩),
  (212, ⟨64, 64, .ar 64 5, [.i .u8 (.l 0), .i .u8 (.l 0), .i .u8 (.l 0), .i .u8 (.l 0), .i .u8 (.l 0), .i .u8 (.l 0), .i .u8 (.l 0), .i .u8 (.l 0), .i .u8 (.l 0), .i .u8 (.l 0), .i .u8 (.l 0), .i .u8 (.l 0), .i .u8 (.l 0), .i .u8 (.l 0), .i .u8 (.l 0), .i .u8 (.l 0), .i .u8 (.l 0), .i .u8 (.l 0), .i .u8 (.l 0), .i .u8 (.l 0), .i .u8 (.l 0), .i .u8 (.l 0), .i .u8 (.l 0), .i .u8 (.l 0), .i .u8 (.l 0), .i .u8 (.l 0), .i .u8 (.l 0), .i .u8 (.l 0), .i .u8 (.l 0), .i .u8 (.l 0), .i .u8 (.l 0), .i .u8 (.l 0), .i .u8 (.l 0), .i .u8 (.l 0), .i .u8 (.l 0), .i .u8 (.l 0), .i .u8 (.l 0), .i .u8 (.l 0), .i .u8 (.l 0), .i .u8 (.l 0), .i .u8 (.l 0), .i .u8 (.l 0), .i .u8 (.l 0), .i .u8 (.l 0), .i .u8 (.l 0), .i .u8 (.l 0), .i .u8 (.l 0), .i .u8 (.l 0), .i .u8 (.l 0), .i .u8 (.l 0), .i .u8 (.l 0), .i .u8 (.l 0), .i .u8 (.l 0), .i .u8 (.l 0), .i .u8 (.l 0), .i .u8 (.l 0), .i .u8 (.l 0), .i .u8 (.l 0), .i .u8 (.l 0), .i .u8 (.l 0), .i .u8 (.l 0), .i .u8 (.l 0), .i .u8 (.l 0), .i .u8 (.l 0)], none⟩),
  (214, ⟨4, 40, .st [(0, 17), (1, 17), (2, 17), (3, 9)], [.pn, .pn, .pn, .s fun _ => .empty], none⟩),
  (215, ⟨4, 40, .st [(0, 17), (1, 17), (2, 17), (3, 9)], [.pn, .pn, .pn, .s fun _ => .empty], none⟩),
  (216, ⟨0, 0, .ar 0 16, [], none⟩),
  (217, ⟨0, 0, .st [(0, 216)], [], none⟩),
  (218, ⟨0, 0, .st [(0, 216)], [], none⟩),
  (219, ⟨1, 1, .cell, [.i .u8 (.l 0)], some (.inl .u8)⟩),
  (220, ⟨1, 1, .cell, [.i .u8 (.l 0)], some (.inl .u8)⟩),
  (222, ⟨1, 4, .cell, [.i .i32 (.l 0)], some (.inl .i32)⟩),
  (223, ⟨1, 4, .cell, [.i .i32 (.l 0)], some (.inl .i32)⟩),
  (224, ⟨11, 48, .st [(0, 12), (1, 12), (2, 127), (3, 219), (4, 5), (5, 5), (6, 220), (7, 221), (8, 166), (9, 222), (10, 223)], [.i .u64 (.l 0), .i .u64 (.l 0), .i .u32 (.l 0), .i .u8 (.l 0), .i .u8 (.l 0), .i .u8 (.l 0), .i .u8 (.l 0), .fnn, .pn, .i .i32 (.l 0), .i .i32 (.l 0)], none⟩),
  (225, ⟨11, 48, .st [(0, 12), (1, 12), (2, 127), (3, 219), (4, 5), (5, 5), (6, 220), (7, 221), (8, 166), (9, 222), (10, 223)], [.i .u64 (.l 0), .i .u64 (.l 0), .i .u32 (.l 0), .i .u8 (.l 0), .i .u8 (.l 0), .i .u8 (.l 0), .i .u8 (.l 0), .fnn, .pn, .i .i32 (.l 0), .i .i32 (.l 0)], none⟩)]
def tt : TT := fun t => ttGetL ttl t
theorem tts : TtOk Tryz.prog tt := ttOk_list (l := ttl) (by kernel_rfl)
theorem mixed : Tryz.prog.follows .mixedOrders = true := by kernel_rfl
def bodyOf (f : Func) : Code := f.body.getD .skip
abbrev F (x : Nat) : V := .c (.f .f32 fun _ => x)
abbrev vB (x : Bool) : V := .c (.b (.x fun _ => x))
abbrev vI (x : Int) : V := .c (.i .i64 (.x fun _ => x))
def isIn (a lo hi : Nat) : Bool := fcmp .geq .f32 a lo && fcmp .leq .f32 a hi
def inI (n lo hi : Int) : Bool := leB lo n && leB n hi
theorem ltB_iff {a b : Int} : ltB a b = true ↔ a < b := by simp [ltB]
theorem ltB_no {a b : Int} : ltB a b = false ↔ ¬ a < b := by simp [ltB]
theorem leB_iff {a b : Int} : leB a b = true ↔ a ≤ b := by simp [leB]
theorem leB_no {a b : Int} : leB a b = false ↔ ¬ a ≤ b := by simp [leB]
theorem inI_iff {n lo hi : Int} : inI n lo hi = true ↔ lo ≤ n ∧ n ≤ hi := by simp [inI, leB]
def isSpd (a : Nat) : Bool := isIn a 1031798784 1149239296
def isPlain (a : Nat) : Bool := isIn a 3380609024 1233125376
def isStiff (a : Nat) : Bool := isIn a 1065353216 1233125376
def isFeed (a : Nat) : Bool := isIn a 3296722944 1149239296
def isTime (a : Nat) : Bool := isIn a 0 1149239296
def isFilm (a : Nat) : Bool := isIn a 0 1233125376
def mul (a b : Nat) : Nat := fop .mul .f32 a b
/-- for all smaller ones -/
def allI (p : Nat → Bool) : Nat → Bool
  | 0 => true
  | k + 1 => allI p k && p k
theorem allI_at {p : Nat → Bool} : ∀ {n i : Nat}, allI p n = true → i < n → p i = true
  | n + 1, i, h, hi => by
    simp only [allI, Bool.and_eq_true] at h
    by_cases e : i = n
    · subst e; simpa using h.2
    · exact allI_at h.1 (by omega)
theorem allI_no {p : Nat → Bool} {n i : Nat} (h : i < n) (hp : p i = false) : allI p n = false := by
  cases e : allI p n
  · rfl
  · rw [allI_at e h] at hp; cases hp
theorem allI_all {p : Nat → Bool} : ∀ {n : Nat}, (∀ i, i < n → p i = true) → allI p n = true
  | 0, _ => rfl
  | n + 1, h => by simp [allI, allI_all (n := n) (fun i hi => h i (by omega)), h n (by omega)]
/-- cells that are written from the front -/
def fillTo (f : Nat → Nat) (l : List Nat) (m : Nat) : List Nat := (List.range m).map f ++ l.drop m
theorem fillTo_len (f : Nat → Nat) (l : List Nat) {m : Nat} (h : m ≤ l.length) : (fillTo f l m).length = l.length := by simp [fillTo]; omega
theorem fillTo_zero (f : Nat → Nat) (l : List Nat) : fillTo f l 0 = l := by simp [fillTo]
theorem fillTo_set (f : Nat → Nat) (l : List Nat) {m : Nat} (h : m < l.length) : (fillTo f l m).set m (f m) = fillTo f l (m + 1) := by
  unfold fillTo
  rw [List.set_append_right _ _ (by simp)]
  simp only [List.length_map, List.length_range, Nat.sub_self]
  have e : (l.drop m).set 0 (f m) = f m :: l.drop (m + 1) := by rw [List.drop_eq_getElem_cons h]; rfl
  rw [e]
  simp [List.range_succ]
theorem fillTo_hi (f : Nat → Nat) (l : List Nat) {i m : Nat} (h : m ≤ i) : (fillTo f l m).getD i 0 = l.getD i 0 := by
  simp only [fillTo, List.getD_eq_getElem?_getD, List.getElem?_append, List.length_map, List.length_range]
  rw [if_neg (by omega), List.getElem?_drop, show m + (i - m) = i by omega]
theorem fillTo_skip (f : Nat → Nat) (l : List Nat) {m : Nat} (h : m < l.length) (e : f m = l.getD m 0) : fillTo f l m = fillTo f l (m + 1) := by
  rw [← fillTo_set f l h, e]
  refine List.ext_getElem? fun j => ?_
  rw [List.getElem?_set]
  split
  · rename_i hj
    subst hj
    have hl : m < (fillTo f l m).length := by rw [fillTo_len _ _ (Nat.le_of_lt h)]; exact h
    rw [if_pos hl]
    have := fillTo_hi f l (Nat.le_refl m)
    rw [List.getD_eq_getElem?_getD, List.getElem?_eq_getElem hl] at this
    rw [List.getElem?_eq_getElem hl]
    simpa using this
  · rfl
theorem fill1 (f : Nat → Nat) (l : List Nat) {i : Nat} (h : i * 3 + 2 < l.length) (e : f (i * 3) = l.getD (i * 3) 0) (e' : f (i * 3 + 1) = l.getD (i * 3 + 1) 0) : (fillTo f l (i * 3)).set (i * 3 + 2) (f (i * 3 + 2)) = fillTo f l ((i + 1) * 3) := by
  rw [fillTo_skip f l (by omega) e, fillTo_skip f l (by omega) e', fillTo_set _ _ (by omega), show (i + 1) * 3 = i * 3 + 2 + 1 by omega]
theorem seg_all {l : List Nat} {n : Nat} (h : l.length = 3 * n) : (l.drop 0).take (n * 3) = l := by
  rw [List.drop_zero]; exact List.take_of_length_le (by omega)
/-! webs -/
def spanOk (l : List Nat) (i : Nat) : Bool := isSpd (l.getD (i * 3) 0) && isSpd (l.getD (i * 3 + 1) 0) && isPlain (l.getD (i * 3 + 2) 0)
def webOk (st sp fd : Nat) (l : List Nat) (n : Nat) : Bool := isStiff st && isSpd sp && isFeed fd && decide (1 ≤ n ∧ n ≤ 8) && allI (spanOk l) n
def uB (sp : Nat) (l : List Nat) (i : Nat) : Nat := if i = 0 then sp else l.getD ((i - 1) * 3 + 1) 0
def tB (fd : Nat) (l : List Nat) (i : Nat) : Nat := if i = 0 then fd else l.getD ((i - 1) * 3 + 2) 0
def rateW (st sp fd : Nat) (l : List Nat) (i : Nat) : Nat :=
  fop .quo .f32 (fop .add .f32 (fop .mul .f32 st (fop .sub .f32 (l.getD (i * 3 + 1) 0) (uB sp l i)))
    (fop .sub .f32 (fop .mul .f32 (uB sp l i) (tB fd l i)) (fop .mul .f32 (l.getD (i * 3 + 1) 0) (l.getD (i * 3 + 2) 0)))) (l.getD (i * 3) 0)
/-- the tensions are set -/
def tenF (l : List Nat) (g : Nat → Nat) (j : Nat) : Nat := if j % 3 = 2 then g (j / 3) else l.getD j 0
def tenTo (l : List Nat) (g : Nat → Nat) (i : Nat) : List Nat := fillTo (tenF l g) l (i * 3)
theorem tenTo_len (l : List Nat) (g : Nat → Nat) {i : Nat} (h : i * 3 ≤ l.length) : (tenTo l g i).length = l.length := fillTo_len _ _ h
theorem tenTo_zero (l : List Nat) (g : Nat → Nat) : tenTo l g 0 = l := fillTo_zero _ _
theorem tenTo_step (l : List Nat) (g : Nat → Nat) {i : Nat} (h : i * 3 + 2 < l.length) : (tenTo l g i).set (i * 3 + 2) (g i) = tenTo l g (i + 1) := by
  have e0 : tenF l g (i * 3) = l.getD (i * 3) 0 := by unfold tenF; rw [if_neg (by omega)]
  have e1 : tenF l g (i * 3 + 1) = l.getD (i * 3 + 1) 0 := by unfold tenF; rw [if_neg (by omega)]
  have e2 : tenF l g (i * 3 + 2) = g i := by unfold tenF; rw [if_pos (by omega), show (i * 3 + 2) / 3 = i by omega]
  have := fill1 (tenF l g) l h e0 e1
  rw [e2] at this
  exact this
/-- the web behind a step -/
def stepF (st sp fd tm : Nat) (l : List Nat) (i : Nat) : Nat := fop .add .f32 (l.getD (i * 3 + 2) 0) (fop .mul .f32 tm (rateW st sp fd l i))
def stepW (st sp fd tm : Nat) (l : List Nat) (n : Nat) : List Nat := tenTo l (stepF st sp fd tm l) n
/-- the web behind so many steps -/
def runW (st sp fd tm n : Nat) (l : List Nat) : Nat → List Nat
  | 0 => l
  | k + 1 => stepW st sp fd tm (runW st sp fd tm n l k) n
theorem runW_len (st sp fd tm n : Nat) (l : List Nat) (h : l.length = 3 * n) : ∀ k, (runW st sp fd tm n l k).length = 3 * n
  | 0 => h
  | k + 1 => by
    have := runW_len st sp fd tm n l h k
    show (tenTo _ _ _).length = _
    rw [tenTo_len _ _ (by omega)]; exact this
def goodW (st sp fd tm n : Nat) (l : List Nat) (k : Nat) : Bool := webOk st sp fd (runW st sp fd tm n l (k + 1)) n
def isCount (n : Int) : Bool := inI n 0 1000
def givenC (ok fine : Bool) : Int := if ok then if fine then 0 else 2 else 1
def askedC (ok : Bool) (i : Int) (n : Nat) : Int := if ok then if inI i 0 ((n : Int) - 1) then 0 else 2 else 1
def stepsC (st sp fd : Nat) (l : List Nat) (n : Nat) (tm : Nat) (k : Int) : Int :=
  if webOk st sp fd l n then if isTime tm && isCount k then if allI (goodW st sp fd tm n l) k.toNat then 0 else 4 else 2 else 1
end Go.Proofs.YteifneielgnniaaGreatDoor.Sh
end
section
namespace Go.Proofs.YteifneielgnniaaGreatDoor.Sh
open Go Go.Proofs
open Go.RowKit
theorem e154a : Extern.findNext Tryz.f154 = none := by rfl
theorem e154b : Extern.find Tryz.f154 = some Extern.MathFloatBits.float64bits := by rfl
theorem e166a : Extern.findNext Tryz.f166 = none := by rfl
theorem e166b : Extern.find Tryz.f166 = some Extern.MathFloatBits.float64frombits := by rfl
theorem ext154 (b : Nat) (w : World) : (callFunc 154 #[.float .f64 b]).run Tryz.prog w = .ok (.value (.int .u64 b)) w := by
  rw [run_callFunc_extern Tryz.func154 (by rfl) (by rfl) e154a e154b]; rfl
theorem ext166 (n : Int) (w : World) : (callFunc 166 #[.int .u64 n]).run Tryz.prog w = .ok (.value (.float .f64 n.toNat)) w := by
  rw [run_callFunc_extern Tryz.func166 (by rfl) (by rfl) e166a e166b]; rfl
attribute [go_sem] ext154 ext166
set_option maxRecDepth 10000 in
set_option maxHeartbeats 400000 in
theorem abs_walk (b : Nat) (w : World) : Calls Tryz.prog 144 #[.float .f64 b] w fun e w' => e = .returned (.float .f64 (bits .andNot .u64 (b : Int) 9223372036854775808).toNat) ∧ w' = w := by
  go_enter Tryz.func144, Tryz.ntmps144
  go_wp2
  go_ret
  exact ⟨rfl, rfl⟩
end Go.Proofs.YteifneielgnniaaGreatDoor.Sh
end
section
namespace Go.Proofs.YteifneielgnniaaGreatDoor.Sh
open Go Go.Proofs
end Go.Proofs.YteifneielgnniaaGreatDoor.Sh
end
section
namespace Go.Proofs.YteifneielgnniaaGreatDoor.Sh
open Go Go.Proofs
theorem fn60 : FnOk Tryz.prog 60 Tryz.f60 (bodyOf Tryz.f60) := ⟨Tryz.func60, rfl, by rfl⟩
def s60 : Spec := hspec fun args H => match args, H with
  | [.c (.f .f32 a), .c (.f .f32 lo), .c (.f .f32 hi)], [] => some (vB (isIn (a ()) (lo ()) (hi ())), [], [])
  | _, _ => none
theorem ok60 : Ok Tryz.prog 60 (s60) := ok_of_wpaH (E := envGetL []) mixed tts (envOk_nil _) fn60 fun args H v H' o hs ho => by
  split at hs
  · rename_i a lo hi
    cases hs
    refine ⟨_, HLe.nil, ?_⟩
    cbv
    repeat' first
      | (refine alt_t (by assumption) ?_; cbv)
      | (refine alt_f (by assumption) ?_; cbv)
      | (refine alt_b (fun h => ?_) (fun h => ?_) <;> cbv)
      | (refine Br.mk (fun h => ?_) (fun h => ?_) <;> cbv)
      | (refine Ob.mk ?_ ?_; rotate_left; cbv)
      | (refine Lex.mk (by kernel_rfl) ?_; cbv)
    all_goals (try simp only [Unit.unit, Int.ofNat_lt, Int.ofNat_le, BE.val, IE.val, NE.val, ltB_iff, ltB_no, leB_iff, leB_no, Int.toNat_natCast, Nat.zero_add, Nat.add_zero, Nat.mul_one, forced, beq_iff_eq, beq_eq_false_iff_ne] at *)
    all_goals first | with_reducible rfl | (simp_all [isIn]; done) | grind [isIn]
  · cases hs
theorem fn61 : FnOk Tryz.prog 61 Tryz.f61 (bodyOf Tryz.f61) := ⟨Tryz.func61, rfl, by rfl⟩
def s61 : Spec := hspec fun args H => match args, H with
  | [.c (.f .f32 a)], [] => some (vB (isSpd (a ())), [], [])
  | _, _ => none
def E61 : Env := fun g => envGetL [(60, ⟨true, s60, none⟩)] g
theorem E61ok : EnvOk Tryz.prog E61 := envOk_cons ok60 (envOk_nil _)
theorem ok61 : Ok Tryz.prog 61 (s61) := ok_of_wpaH (E := E61) mixed tts E61ok fn61 fun args H v H' o hs ho => by
  split at hs
  · rename_i a
    cases hs
    refine ⟨_, HLe.nil, ?_⟩
    cbv
    repeat' first
      | (refine alt_t (by assumption) ?_; cbv)
      | (refine alt_f (by assumption) ?_; cbv)
      | (refine alt_b (fun h => ?_) (fun h => ?_) <;> cbv)
      | (refine Br.mk (fun h => ?_) (fun h => ?_) <;> cbv)
      | (refine Ob.mk ?_ ?_; rotate_left; cbv)
      | (refine Lex.mk (by kernel_rfl) ?_; cbv)
    all_goals (try simp only [Unit.unit, Int.ofNat_lt, Int.ofNat_le, BE.val, IE.val, NE.val, ltB_iff, ltB_no, leB_iff, leB_no, Int.toNat_natCast, Nat.zero_add, Nat.add_zero, Nat.mul_one, forced, beq_iff_eq, beq_eq_false_iff_ne] at *)
    all_goals first | with_reducible rfl | (simp_all [isSpd, isIn]; done) | grind [isSpd, isIn]
  · cases hs
theorem fn62 : FnOk Tryz.prog 62 Tryz.f62 (bodyOf Tryz.f62) := ⟨Tryz.func62, rfl, by rfl⟩
def s62 : Spec := hspec fun args H => match args, H with
  | [.c (.f .f32 a)], [] => some (vB (isPlain (a ())), [], [])
  | _, _ => none
def E62 : Env := fun g => envGetL [(60, ⟨true, s60, none⟩)] g
theorem E62ok : EnvOk Tryz.prog E62 := envOk_cons ok60 (envOk_nil _)
theorem ok62 : Ok Tryz.prog 62 (s62) := ok_of_wpaH (E := E62) mixed tts E62ok fn62 fun args H v H' o hs ho => by
  split at hs
  · rename_i a
    cases hs
    refine ⟨_, HLe.nil, ?_⟩
    cbv
    repeat' first
      | (refine alt_t (by assumption) ?_; cbv)
      | (refine alt_f (by assumption) ?_; cbv)
      | (refine alt_b (fun h => ?_) (fun h => ?_) <;> cbv)
      | (refine Br.mk (fun h => ?_) (fun h => ?_) <;> cbv)
      | (refine Ob.mk ?_ ?_; rotate_left; cbv)
      | (refine Lex.mk (by kernel_rfl) ?_; cbv)
    all_goals (try simp only [Unit.unit, Int.ofNat_lt, Int.ofNat_le, BE.val, IE.val, NE.val, ltB_iff, ltB_no, leB_iff, leB_no, Int.toNat_natCast, Nat.zero_add, Nat.add_zero, Nat.mul_one, forced, beq_iff_eq, beq_eq_false_iff_ne] at *)
    all_goals first | with_reducible rfl | (simp_all [isPlain, isIn]; done) | grind [isPlain, isIn]
  · cases hs
theorem fn63 : FnOk Tryz.prog 63 Tryz.f63 (bodyOf Tryz.f63) := ⟨Tryz.func63, rfl, by rfl⟩
def s63 : Spec := hspec fun args H => match args, H with
  | [.c (.f .f32 a)], [] => some (vB (isTime (a ())), [], [])
  | _, _ => none
def E63 : Env := fun g => envGetL [(60, ⟨true, s60, none⟩)] g
theorem E63ok : EnvOk Tryz.prog E63 := envOk_cons ok60 (envOk_nil _)
theorem ok63 : Ok Tryz.prog 63 (s63) := ok_of_wpaH (E := E63) mixed tts E63ok fn63 fun args H v H' o hs ho => by
  split at hs
  · rename_i a
    cases hs
    refine ⟨_, HLe.nil, ?_⟩
    cbv
    repeat' first
      | (refine alt_t (by assumption) ?_; cbv)
      | (refine alt_f (by assumption) ?_; cbv)
      | (refine alt_b (fun h => ?_) (fun h => ?_) <;> cbv)
      | (refine Br.mk (fun h => ?_) (fun h => ?_) <;> cbv)
      | (refine Ob.mk ?_ ?_; rotate_left; cbv)
      | (refine Lex.mk (by kernel_rfl) ?_; cbv)
    all_goals (try simp only [Unit.unit, Int.ofNat_lt, Int.ofNat_le, BE.val, IE.val, NE.val, ltB_iff, ltB_no, leB_iff, leB_no, Int.toNat_natCast, Nat.zero_add, Nat.add_zero, Nat.mul_one, forced, beq_iff_eq, beq_eq_false_iff_ne] at *)
    all_goals first | with_reducible rfl | (simp_all [isTime, isIn]; done) | grind [isTime, isIn]
  · cases hs
theorem fn67 : FnOk Tryz.prog 67 Tryz.f67 (bodyOf Tryz.f67) := ⟨Tryz.func67, rfl, by rfl⟩
def s67 : Spec := hspec fun args H => match args, H with
  | [.c (.f .f32 a)], [] => some (vB (isFilm (a ())), [], [])
  | _, _ => none
def E67 : Env := fun g => envGetL [(60, ⟨true, s60, none⟩)] g
theorem E67ok : EnvOk Tryz.prog E67 := envOk_cons ok60 (envOk_nil _)
theorem ok67 : Ok Tryz.prog 67 (s67) := ok_of_wpaH (E := E67) mixed tts E67ok fn67 fun args H v H' o hs ho => by
  split at hs
  · rename_i a
    cases hs
    refine ⟨_, HLe.nil, ?_⟩
    cbv
    repeat' first
      | (refine alt_t (by assumption) ?_; cbv)
      | (refine alt_f (by assumption) ?_; cbv)
      | (refine alt_b (fun h => ?_) (fun h => ?_) <;> cbv)
      | (refine Br.mk (fun h => ?_) (fun h => ?_) <;> cbv)
      | (refine Ob.mk ?_ ?_; rotate_left; cbv)
      | (refine Lex.mk (by kernel_rfl) ?_; cbv)
    all_goals (try simp only [Unit.unit, Int.ofNat_lt, Int.ofNat_le, BE.val, IE.val, NE.val, ltB_iff, ltB_no, leB_iff, leB_no, Int.toNat_natCast, Nat.zero_add, Nat.add_zero, Nat.mul_one, forced, beq_iff_eq, beq_eq_false_iff_ne] at *)
    all_goals first | with_reducible rfl | (simp_all [isFilm, isIn]; done) | grind [isFilm, isIn]
  · cases hs
theorem fn146 : FnOk Tryz.prog 146 Tryz.f146 (bodyOf Tryz.f146) := ⟨Tryz.func146, rfl, by rfl⟩
def s146 : Spec := hspec fun args H => match args, H with
  | [.c (.f .f32 a)], [] => some (vB (isPlain (a ())), [], [])
  | _, _ => none
theorem ok146 : Ok Tryz.prog 146 (s146) := ok_of_wpaH (E := envGetL []) mixed tts (envOk_nil _) fn146 fun args H v H' o hs ho => by
  split at hs
  · rename_i a
    cases hs
    refine ⟨_, HLe.nil, ?_⟩
    cbv
    repeat' first
      | (refine alt_t (by assumption) ?_; cbv)
      | (refine alt_f (by assumption) ?_; cbv)
      | (refine alt_b (fun h => ?_) (fun h => ?_) <;> cbv)
      | (refine Br.mk (fun h => ?_) (fun h => ?_) <;> cbv)
      | (refine Ob.mk ?_ ?_; rotate_left; cbv)
      | (refine Lex.mk (by kernel_rfl) ?_; cbv)
    all_goals (try simp only [Unit.unit, Int.ofNat_lt, Int.ofNat_le, BE.val, IE.val, NE.val, ltB_iff, ltB_no, leB_iff, leB_no, Int.toNat_natCast, Nat.zero_add, Nat.add_zero, Nat.mul_one, forced, beq_iff_eq, beq_eq_false_iff_ne] at *)
    all_goals first | with_reducible rfl | (simp_all [isPlain, isIn]; done) | grind [isPlain, isIn]
  · cases hs
theorem fn145 : FnOk Tryz.prog 145 Tryz.f145 (bodyOf Tryz.f145) := ⟨Tryz.func145, rfl, by rfl⟩
def s145 : Spec := hspec fun args H => match args, H with
  | [.c (.f .f32 a)], [] => some (vB (isSpd (a ())), [], [])
  | _, _ => none
theorem ok145 : Ok Tryz.prog 145 (s145) := ok_of_wpaH (E := envGetL []) mixed tts (envOk_nil _) fn145 fun args H v H' o hs ho => by
  split at hs
  · rename_i a
    cases hs
    refine ⟨_, HLe.nil, ?_⟩
    cbv
    repeat' first
      | (refine alt_t (by assumption) ?_; cbv)
      | (refine alt_f (by assumption) ?_; cbv)
      | (refine alt_b (fun h => ?_) (fun h => ?_) <;> cbv)
      | (refine Br.mk (fun h => ?_) (fun h => ?_) <;> cbv)
      | (refine Ob.mk ?_ ?_; rotate_left; cbv)
      | (refine Lex.mk (by kernel_rfl) ?_; cbv)
    all_goals (try simp only [Unit.unit, Int.ofNat_lt, Int.ofNat_le, BE.val, IE.val, NE.val, ltB_iff, ltB_no, leB_iff, leB_no, Int.toNat_natCast, Nat.zero_add, Nat.add_zero, Nat.mul_one, forced, beq_iff_eq, beq_eq_false_iff_ne] at *)
    all_goals first | with_reducible rfl | (simp_all [isSpd, isIn]; done) | grind [isSpd, isIn]
  · cases hs
theorem fn76 : FnOk Tryz.prog 76 Tryz.f76 (bodyOf Tryz.f76) := ⟨Tryz.func76, rfl, by rfl⟩
def s76 : Spec := hspec fun args H => match args, H with
  | [.c (.f .f32 a)], [] => some (vB (isTime (a ())), [], [])
  | _, _ => none
theorem ok76 : Ok Tryz.prog 76 (s76) := ok_of_wpaH (E := envGetL []) mixed tts (envOk_nil _) fn76 fun args H v H' o hs ho => by
  split at hs
  · rename_i a
    cases hs
    refine ⟨_, HLe.nil, ?_⟩
    cbv
    repeat' first
      | (refine alt_t (by assumption) ?_; cbv)
      | (refine alt_f (by assumption) ?_; cbv)
      | (refine alt_b (fun h => ?_) (fun h => ?_) <;> cbv)
      | (refine Br.mk (fun h => ?_) (fun h => ?_) <;> cbv)
      | (refine Ob.mk ?_ ?_; rotate_left; cbv)
      | (refine Lex.mk (by kernel_rfl) ?_; cbv)
    all_goals (try simp only [Unit.unit, Int.ofNat_lt, Int.ofNat_le, BE.val, IE.val, NE.val, ltB_iff, ltB_no, leB_iff, leB_no, Int.toNat_natCast, Nat.zero_add, Nat.add_zero, Nat.mul_one, forced, beq_iff_eq, beq_eq_false_iff_ne] at *)
    all_goals first | with_reducible rfl | (simp_all [isTime, isIn]; done) | grind [isTime, isIn]
  · cases hs
theorem fn92 : FnOk Tryz.prog 92 Tryz.f92 (bodyOf Tryz.f92) := ⟨Tryz.func92, rfl, by rfl⟩
def s92 : Spec := hspec fun args H => match args, H with
  | [.c (.f .f32 a), .c (.f .f32 b)], [] => some (F (fop .mul .f32 (a ()) (b ())), [], [])
  | _, _ => none
theorem ok92 : Ok Tryz.prog 92 (s92) := ok_of_wpaH (E := envGetL []) mixed tts (envOk_nil _) fn92 fun args H v H' o hs ho => by
  split at hs
  · rename_i a b
    cases hs
    refine ⟨_, HLe.nil, ?_⟩
    cbv
    repeat' first
      | (refine alt_t (by assumption) ?_; cbv)
      | (refine alt_f (by assumption) ?_; cbv)
      | (refine alt_b (fun h => ?_) (fun h => ?_) <;> cbv)
      | (refine Br.mk (fun h => ?_) (fun h => ?_) <;> cbv)
      | (refine Ob.mk ?_ ?_; rotate_left; cbv)
      | (refine Lex.mk (by kernel_rfl) ?_; cbv)
    all_goals (try simp only [Unit.unit, Int.ofNat_lt, Int.ofNat_le, BE.val, IE.val, NE.val, ltB_iff, ltB_no, leB_iff, leB_no, Int.toNat_natCast, Nat.zero_add, Nat.add_zero, Nat.mul_one, forced, beq_iff_eq, beq_eq_false_iff_ne] at *)
    all_goals first | with_reducible rfl | (simp_all; done) | grind
  · cases hs
theorem fn120 : FnOk Tryz.prog 120 Tryz.f120 (bodyOf Tryz.f120) := ⟨Tryz.func120, rfl, by rfl⟩
def s120 : Spec := hspec fun args H => match args, H with
  | [.c (.i .i64 (.x a)), .c (.i .i64 (.x b)), .c (.i .i64 (.x d))], [] => some (vB (inI (a ()) (b ()) (d ())), [], [])
  | _, _ => none
theorem ok120 : Ok Tryz.prog 120 (s120) := ok_of_wpaH (E := envGetL []) mixed tts (envOk_nil _) fn120 fun args H v H' o hs ho => by
  split at hs
  · rename_i a b d
    cases hs
    refine ⟨_, HLe.nil, ?_⟩
    cbv
    repeat' first
      | (refine alt_t (by assumption) ?_; cbv)
      | (refine alt_f (by assumption) ?_; cbv)
      | (refine alt_b (fun h => ?_) (fun h => ?_) <;> cbv)
      | (refine Br.mk (fun h => ?_) (fun h => ?_) <;> cbv)
      | (refine Ob.mk ?_ ?_; rotate_left; cbv)
      | (refine Lex.mk (by kernel_rfl) ?_; cbv)
    all_goals (try simp only [Unit.unit, Int.ofNat_lt, Int.ofNat_le, BE.val, IE.val, NE.val, ltB_iff, ltB_no, leB_iff, leB_no, Int.toNat_natCast, Nat.zero_add, Nat.add_zero, Nat.mul_one, forced, beq_iff_eq, beq_eq_false_iff_ne] at *)
    all_goals first | with_reducible rfl | (simp_all [inI, leB]; done) | grind [inI, leB]
  · cases hs
theorem fn64 : FnOk Tryz.prog 64 Tryz.f64 (bodyOf Tryz.f64) := ⟨Tryz.func64, rfl, by rfl⟩
def s64 : Spec := hspec fun args H => match args, H with
  | [.c (.i .i64 (.x a))], [] => some (vB (isCount (a ())), [], [])
  | _, _ => none
theorem ok64 : Ok Tryz.prog 64 (s64) := ok_of_wpaH (E := envGetL []) mixed tts (envOk_nil _) fn64 fun args H v H' o hs ho => by
  split at hs
  · rename_i a
    cases hs
    refine ⟨_, HLe.nil, ?_⟩
    cbv
    repeat' first
      | (refine alt_t (by assumption) ?_; cbv)
      | (refine alt_f (by assumption) ?_; cbv)
      | (refine alt_b (fun h => ?_) (fun h => ?_) <;> cbv)
      | (refine Br.mk (fun h => ?_) (fun h => ?_) <;> cbv)
      | (refine Ob.mk ?_ ?_; rotate_left; cbv)
      | (refine Lex.mk (by kernel_rfl) ?_; cbv)
    all_goals (try simp only [Unit.unit, Int.ofNat_lt, Int.ofNat_le, BE.val, IE.val, NE.val, ltB_iff, ltB_no, leB_iff, leB_no, Int.toNat_natCast, Nat.zero_add, Nat.add_zero, Nat.mul_one, forced, beq_iff_eq, beq_eq_false_iff_ne] at *)
    all_goals first | with_reducible rfl | (simp_all [isCount, inI, leB]; done) | grind [isCount, inI, leB]
  · cases hs
theorem fn77 : FnOk Tryz.prog 77 Tryz.f77 (bodyOf Tryz.f77) := ⟨Tryz.func77, rfl, by rfl⟩
def s77 : Spec := hspec fun args H => match args, H with
  | [.c (.i .i64 (.x a))], [] => some (vB (isCount (a ())), [], [])
  | _, _ => none
def E77 : Env := fun g => envGetL [(120, ⟨true, s120, none⟩)] g
theorem E77ok : EnvOk Tryz.prog E77 := envOk_cons ok120 (envOk_nil _)
theorem ok77 : Ok Tryz.prog 77 (s77) := ok_of_wpaH (E := E77) mixed tts E77ok fn77 fun args H v H' o hs ho => by
  split at hs
  · rename_i a
    cases hs
    refine ⟨_, HLe.nil, ?_⟩
    cbv
    repeat' first
      | (refine alt_t (by assumption) ?_; cbv)
      | (refine alt_f (by assumption) ?_; cbv)
      | (refine alt_b (fun h => ?_) (fun h => ?_) <;> cbv)
      | (refine Br.mk (fun h => ?_) (fun h => ?_) <;> cbv)
      | (refine Ob.mk ?_ ?_; rotate_left; cbv)
      | (refine Lex.mk (by kernel_rfl) ?_; cbv)
    all_goals (try simp only [Unit.unit, Int.ofNat_lt, Int.ofNat_le, BE.val, IE.val, NE.val, ltB_iff, ltB_no, leB_iff, leB_no, Int.toNat_natCast, Nat.zero_add, Nat.add_zero, Nat.mul_one, forced, beq_iff_eq, beq_eq_false_iff_ne] at *)
    all_goals first | with_reducible rfl | (simp_all [isCount]; done) | grind [isCount]
  · cases hs
theorem webOk_no {st sp fd : Nat} {l : List Nat} {n i : Nat} (h : i < n) (hs : spanOk l i = false) : webOk st sp fd l n = false := by
  unfold webOk
  rw [allI_no h hs, Bool.and_false]
theorem fn12 : FnOk Tryz.prog 12 Tryz.f12 (bodyOf Tryz.f12) := ⟨Tryz.func12, rfl, by rfl⟩
def s12 : Spec := hspec fun args H => match args, H with
  | [.a [.f .f32 st, .f .f32 sp, .f .f32 fd, .sl 0 (.x o) (.x n)]], [some ⟨false, 0, x⟩] => match x.toFl with
    | some l => some (vB (webOk (st ()) (sp ()) (fd ()) (l ()) (n ())), [none], [fun _ => o () = 0 ∧ (l ()).length = 3 * n () ∧ n () ≤ 1048576])
    | _ => none
  | _, _ => none
def E12 : Env := fun g => envGetL [(60, ⟨true, s60, none⟩), (61, ⟨true, s61, none⟩), (62, ⟨true, s62, none⟩)] g
theorem E12ok : EnvOk Tryz.prog E12 := envOk_cons ok60 (envOk_cons ok61 (envOk_cons ok62 (envOk_nil _)))
set_option maxRecDepth 100000 in
set_option maxHeartbeats 1000000 in
theorem ok12 : Ok Tryz.prog 12 (s12) := ok_of_wpaH (E := E12) mixed tts E12ok fn12 fun args H v H' o hs ho => by
  split at hs
  · rename_i st sp fd o n x
    split at hs
    · rename_i l hl
      cases hs
      obtain ⟨ho0, hlen, hbig⟩ := ho.one
      try simp only [Unit.unit] at ho0 hlen hbig
      refine ⟨_, HLe.cons (BLe.fl hl) HLe.nil, ?_⟩
      cbv
      repeat' first
        | (refine Br.mk (fun h => ?_) (fun h => ?_) <;> cbv)
        | (refine Ob.mk ?_ ?_; rotate_left; cbv)
      all_goals try (simp only [Unit.unit, Int.ofNat_lt, Int.ofNat_le, BE.val, IE.val, NE.val, ltB_iff, ltB_no, leB_iff, leB_no, Int.toNat_natCast, Nat.zero_add, Nat.add_zero, Nat.mul_one, forced, beq_iff_eq, beq_eq_false_iff_ne] at *; done)
      all_goals try (simp only [Unit.unit, Int.ofNat_lt, Int.ofNat_le, BE.val, IE.val, NE.val, ltB_iff, ltB_no, leB_iff, leB_no, Int.toNat_natCast, Nat.zero_add, Nat.add_zero, Nat.mul_one, forced, beq_iff_eq, beq_eq_false_iff_ne] at *; grind [webOk, isStiff, isFeed, isIn])
      all_goals
        refine loop_rule (α := Unit → Nat) (c := ⟨tt, E12, 1⟩)
            (fun i => fr 57 [(34, .c (.sl 0 (.x o) (.x n))), (35, .c (.i .i64 (.x fun _ => n ()))), (36, .c (.i .i64 (.x fun _ => i ())))]) (fun i => [some ⟨false, 0, .fl l⟩])
            (fun i => i () ≤ n () ∧ allI (spanOk (l ())) (i ()) = true) (fun i => n () - i ()) (fun _ => n () + 1) ?_ ?_
        · refine .mk (fun _ => 0) ⟨Nat.zero_le _, rfl⟩ (by dsimp only; omega) ?_
          cbv
          repeat' (refine Ob.mk ?_ ?_; rotate_left)
          all_goals (try simp only [Unit.unit, Int.ofNat_lt, Int.ofNat_le, BE.val, IE.val, NE.val, ltB_iff, ltB_no, leB_iff, leB_no, Int.toNat_natCast, Nat.zero_add, Nat.add_zero, Nat.mul_one, forced, beq_iff_eq, beq_eq_false_iff_ne] at *)
          all_goals first | with_reducible rfl | trivial
        · intro i hi
          cbv
          repeat' first
            | (refine alt_t (by assumption) ?_; cbv)
            | (refine alt_f (by assumption) ?_; cbv)
            | (refine alt_b (fun h => ?_) (fun h => ?_) <;> cbv)
            | (refine Br.mk (fun h => ?_) (fun h => ?_) <;> cbv)
            | (refine Ob.mk ?_ ?_; rotate_left; cbv)
            | (refine Lex.mk (by kernel_rfl) ?_; cbv)
            | (refine Next.mk (fun _ => i () + 1) ?_ ?_ ?_)
          all_goals (try simp only [Unit.unit, Int.ofNat_lt, Int.ofNat_le, BE.val, IE.val, NE.val, ltB_iff, ltB_no, leB_iff, leB_no, Int.toNat_natCast, Nat.zero_add, Nat.add_zero, Nat.mul_one, forced, beq_iff_eq, beq_eq_false_iff_ne] at *)
          all_goals (try simp only [ho0, Nat.zero_add] at *)
          all_goals first | with_reducible rfl | omega | exact wrap64_nat (by omega) | (refine ⟨Int.natCast_nonneg _, ?_⟩; omega) | (rw [webOk_no (i := i ⟨⟩) (by omega) (by simp_all [spanOk])]; done) | (refine ⟨by omega, ?_⟩; simp_all [allI, spanOk]; done) | ((try rw [show i ⟨⟩ = n ⟨⟩ by omega] at hi); (try simp only [Unit.unit, Int.ofNat_lt, Int.ofNat_le, BE.val, IE.val, NE.val, ltB_iff, ltB_no, leB_iff, leB_no, Int.toNat_natCast, Nat.zero_add, Nat.add_zero, Nat.mul_one, forced, beq_iff_eq, beq_eq_false_iff_ne] at *); grind [webOk, isStiff, isFeed, isIn, inI, leB])
    · cases hs
  · cases hs
end Go.Proofs.YteifneielgnniaaGreatDoor.Sh
end
section
namespace Go.Proofs.YteifneielgnniaaGreatDoor.Sh
open Go Go.Proofs
theorem fn119 : FnOk Tryz.prog 119 Tryz.f119 (bodyOf Tryz.f119) := ⟨Tryz.func119, rfl, by rfl⟩
def s119 : Spec := hspec fun args H => match args, H with
  | [.c (.p 0 (.l 0))], [some ⟨false, 0, .lit [.f .f32 st, .f .f32 sp, .f .f32 fd, .sl 1 (.x o) (.x n)]⟩, some ⟨false, 0, x⟩] => match x.toFl with
    | some l => some (vB (webOk (st ()) (sp ()) (fd ()) (l ()) (n ())), [none, none], [fun _ => o () = 0 ∧ (l ()).length = 3 * n () ∧ n () ≤ 1048576])
    | _ => none
  | _, _ => none
def E119 : Env := fun g => envGetL [(145, ⟨true, s145, none⟩), (146, ⟨true, s146, none⟩), (120, ⟨true, s120, none⟩)] g
theorem E119ok : EnvOk Tryz.prog E119 := envOk_cons ok145 (envOk_cons ok146 (envOk_cons ok120 (envOk_nil _)))
set_option maxRecDepth 100000 in
set_option maxHeartbeats 1000000 in
theorem ok119 : Ok Tryz.prog 119 (s119) := ok_of_wpaH (E := E119) mixed tts E119ok fn119 fun args H v H' o hs ho => by
  split at hs
  · rename_i st sp fd o n x
    split at hs
    · rename_i l hl
      cases hs
      obtain ⟨ho0, hlen, hbig⟩ := ho.one
      try simp only [Unit.unit] at ho0 hlen hbig
      refine ⟨_, HLe.cons (BLe.refl _) (HLe.cons (BLe.fl hl) HLe.nil), ?_⟩
      cbv
      repeat' first
        | (refine Br.mk (fun h => ?_) (fun h => ?_) <;> cbv)
        | (refine Ob.mk ?_ ?_; rotate_left; cbv)
      all_goals try (simp only [Unit.unit, Int.ofNat_lt, Int.ofNat_le, BE.val, IE.val, NE.val, ltB_iff, ltB_no, leB_iff, leB_no, Int.toNat_natCast, Nat.zero_add, Nat.add_zero, Nat.mul_one, forced, beq_iff_eq, beq_eq_false_iff_ne] at *; done)
      all_goals try (simp only [Unit.unit, Int.ofNat_lt, Int.ofNat_le, BE.val, IE.val, NE.val, ltB_iff, ltB_no, leB_iff, leB_no, Int.toNat_natCast, Nat.zero_add, Nat.add_zero, Nat.mul_one, forced, beq_iff_eq, beq_eq_false_iff_ne] at *; grind [webOk, isStiff, isFeed, isIn])
      all_goals
        refine loop_rule (α := Unit → Nat) (c := ⟨tt, E119, 2⟩)
            (fun i => fr 89 [(0, .c (.p 0 (.l 0))), (3, .c (.i .i64 (.x fun _ => i ())))]) (fun i => [some ⟨false, 0, .lit [.f .f32 st, .f .f32 sp, .f .f32 fd, .sl 1 (.x o) (.x n)]⟩, some ⟨false, 0, .fl l⟩])
            (fun i => i () ≤ n () ∧ allI (spanOk (l ())) (i ()) = true) (fun i => n () - i ()) (fun _ => n () + 1) ?_ ?_
        · refine .mk (fun _ => 0) ⟨Nat.zero_le _, rfl⟩ (by dsimp only; omega) ?_
          cbv
          repeat' (refine Ob.mk ?_ ?_; rotate_left)
          all_goals (try simp only [Unit.unit, Int.ofNat_lt, Int.ofNat_le, BE.val, IE.val, NE.val, ltB_iff, ltB_no, leB_iff, leB_no, Int.toNat_natCast, Nat.zero_add, Nat.add_zero, Nat.mul_one, forced, beq_iff_eq, beq_eq_false_iff_ne] at *)
          all_goals first | with_reducible rfl | trivial
        · intro i hi
          cbv
          repeat' first
            | (refine alt_t (by assumption) ?_; cbv)
            | (refine alt_f (by assumption) ?_; cbv)
            | (refine alt_b (fun h => ?_) (fun h => ?_) <;> cbv)
            | (refine Br.mk (fun h => ?_) (fun h => ?_) <;> cbv)
            | (refine Ob.mk ?_ ?_; rotate_left; cbv)
            | (refine Lex.mk (by kernel_rfl) ?_; cbv)
            | (refine Next.mk (fun _ => i () + 1) ?_ ?_ ?_)
          all_goals (try simp only [Unit.unit, Int.ofNat_lt, Int.ofNat_le, BE.val, IE.val, NE.val, ltB_iff, ltB_no, leB_iff, leB_no, Int.toNat_natCast, Nat.zero_add, Nat.add_zero, Nat.mul_one, forced, beq_iff_eq, beq_eq_false_iff_ne] at *)
          all_goals (try simp only [ho0, Nat.zero_add] at *)
          all_goals first | with_reducible rfl | omega | exact wrap64_nat (by omega) | (refine ⟨Int.natCast_nonneg _, ?_⟩; omega) | (rw [webOk_no (i := i ⟨⟩) (by omega) (by simp_all [spanOk])]; done) | (refine ⟨by omega, ?_⟩; simp_all [allI, spanOk]; done) | ((try rw [show i ⟨⟩ = n ⟨⟩ by omega] at hi); (try simp only [Unit.unit, Int.ofNat_lt, Int.ofNat_le, BE.val, IE.val, NE.val, ltB_iff, ltB_no, leB_iff, leB_no, Int.toNat_natCast, Nat.zero_add, Nat.add_zero, Nat.mul_one, forced, beq_iff_eq, beq_eq_false_iff_ne] at *); grind [webOk, isStiff, isFeed, isIn, inI, leB])
    · cases hs
  · cases hs
end Go.Proofs.YteifneielgnniaaGreatDoor.Sh
end
section
namespace Go.Proofs.YteifneielgnniaaGreatDoor.Sh
open Go Go.Proofs
theorem fn65 : FnOk Tryz.prog 65 Tryz.f65 (bodyOf Tryz.f65) := ⟨Tryz.func65, rfl, by rfl⟩
def s65 : Spec := hspec fun args H => match args, H with
  | [.a [.f .f32 st, .f .f32 sp, .f .f32 fd, .sl 0 (.x o) (.x n)]], [some ⟨false, 0, x⟩] => match x.toFl with
    | some l => some (.a [.f .f32 st, .f .f32 sp, .f .f32 fd, .sl 1 (.l 0) (.x n)], [none, some ⟨true, 3, .fl l⟩], [fun _ => o () = 0 ∧ (l ()).length = 3 * n () ∧ n () ≤ 1048576])
    | _ => none
  | _, _ => none
theorem ok65 : Ok Tryz.prog 65 (s65) := ok_of_wpaH (E := envGetL []) mixed tts (envOk_nil _) fn65 fun args H v H' o hs ho => by
  split at hs
  · rename_i st sp fd o n x
    split at hs
    · rename_i l hl
      cases hs
      obtain ⟨ho0, hlen, hbig⟩ := ho.one
      try simp only [Unit.unit] at ho0 hlen hbig
      refine ⟨_, HLe.cons (BLe.fl hl) HLe.nil, ?_⟩
      cbv
      repeat' first
        | (refine alt_t (by assumption) ?_; cbv)
        | (refine alt_f (by assumption) ?_; cbv)
        | (refine alt_b (fun h => ?_) (fun h => ?_) <;> cbv)
        | (refine Br.mk (fun h => ?_) (fun h => ?_) <;> cbv)
        | (refine Ob.mk ?_ ?_; rotate_left; cbv)
        | (refine Lex.mk (by kernel_rfl) ?_; cbv)
      all_goals (try simp only [Unit.unit, Int.ofNat_lt, Int.ofNat_le, BE.val, IE.val, NE.val, ltB_iff, ltB_no, leB_iff, leB_no, Int.toNat_natCast, Nat.zero_add, Nat.add_zero, Nat.mul_one, forced, beq_iff_eq, beq_eq_false_iff_ne] at *)
      all_goals first | with_reducible rfl | (rw [ho0, seg_all hlen]; rfl) | (rw [ho0]; exact seg_all hlen) | (simp only [ho0, List.nil_append, seg_all hlen]; done) | grind
    · cases hs
  · cases hs
theorem fn78 : FnOk Tryz.prog 78 Tryz.f78 (bodyOf Tryz.f78) := ⟨Tryz.func78, rfl, by rfl⟩
def s78 : Spec := hspec fun args H => match args, H with
  | [.c (.p 0 (.l 0))], [some ⟨false, 0, .lit [.f .f32 st, .f .f32 sp, .f .f32 fd, .sl 1 (.x o) (.x n)]⟩, some ⟨false, 0, x⟩] => match x.toFl with
    | some l => some (.a [.f .f32 st, .f .f32 sp, .f .f32 fd, .sl 2 (.l 0) (.x n)], [none, none, some ⟨true, 3, .fl l⟩], [fun _ => o () = 0 ∧ (l ()).length = 3 * n () ∧ n () ≤ 1048576])
    | _ => none
  | _, _ => none
theorem ok78 : Ok Tryz.prog 78 (s78) := ok_of_wpaH (E := envGetL []) mixed tts (envOk_nil _) fn78 fun args H v H' o hs ho => by
  split at hs
  · rename_i st sp fd o n x
    split at hs
    · rename_i l hl
      cases hs
      obtain ⟨ho0, hlen, hbig⟩ := ho.one
      try simp only [Unit.unit] at ho0 hlen hbig
      refine ⟨_, HLe.cons (BLe.refl _) (HLe.cons (BLe.fl hl) HLe.nil), ?_⟩
      cbv
      repeat' first
        | (refine alt_t (by assumption) ?_; cbv)
        | (refine alt_f (by assumption) ?_; cbv)
        | (refine alt_b (fun h => ?_) (fun h => ?_) <;> cbv)
        | (refine Br.mk (fun h => ?_) (fun h => ?_) <;> cbv)
        | (refine Ob.mk ?_ ?_; rotate_left; cbv)
        | (refine Lex.mk (by kernel_rfl) ?_; cbv)
      all_goals (try simp only [Unit.unit, Int.ofNat_lt, Int.ofNat_le, BE.val, IE.val, NE.val, ltB_iff, ltB_no, leB_iff, leB_no, Int.toNat_natCast, Nat.zero_add, Nat.add_zero, Nat.mul_one, forced, beq_iff_eq, beq_eq_false_iff_ne] at *)
      all_goals first | with_reducible rfl | (rw [ho0, seg_all hlen]; rfl) | (rw [ho0]; exact seg_all hlen) | (simp only [ho0, List.nil_append, seg_all hlen]; done) | grind
    · cases hs
  · cases hs
theorem fn69 : FnOk Tryz.prog 69 Tryz.f69 (bodyOf Tryz.f69) := ⟨Tryz.func69, rfl, by rfl⟩
def s69 : Spec := hspec fun args H => match args, H with
  | [.a [.f .f32 st, .f .f32 sp, .f .f32 fd, .sl 0 (.x o) (.x n)], .c (.i .i64 (.x k))], [some ⟨false, 0, x⟩] => match x.toFl with
    | some l => some (vI (askedC (webOk (st ()) (sp ()) (fd ()) (l ()) (n ())) (k ()) (n ())), [none], [fun _ => o () = 0 ∧ (l ()).length = 3 * n () ∧ n () ≤ 1048576])
    | _ => none
  | _, _ => none
def E69 : Env := fun g => envGetL [(12, ⟨true, s12, none⟩)] g
theorem E69ok : EnvOk Tryz.prog E69 := envOk_cons ok12 (envOk_nil _)
theorem ok69 : Ok Tryz.prog 69 (s69) := ok_of_wpaH (E := E69) mixed tts E69ok fn69 fun args H v H' o hs ho => by
  split at hs
  · rename_i st sp fd o n k x
    split at hs
    · rename_i l hl
      cases hs
      obtain ⟨ho0, hlen, hbig⟩ := ho.one
      try simp only [Unit.unit] at ho0 hlen hbig
      refine ⟨_, HLe.cons (BLe.fl hl) HLe.nil, ?_⟩
      cbv
      repeat' first
        | (refine alt_t (by assumption) ?_; cbv)
        | (refine alt_f (by assumption) ?_; cbv)
        | (refine alt_b (fun h => ?_) (fun h => ?_) <;> cbv)
        | (refine Br.mk (fun h => ?_) (fun h => ?_) <;> cbv)
        | (refine Ob.mk ?_ ?_; rotate_left; cbv)
        | (refine Lex.mk (by kernel_rfl) ?_; cbv)
      all_goals (try simp only [Unit.unit, Int.ofNat_lt, Int.ofNat_le, BE.val, IE.val, NE.val, ltB_iff, ltB_no, leB_iff, leB_no, Int.toNat_natCast, Nat.zero_add, Nat.add_zero, Nat.mul_one, forced, beq_iff_eq, beq_eq_false_iff_ne] at *)
      all_goals first | with_reducible rfl | exact ⟨ho0, hlen, hbig⟩ | (simp_all [askedC, inI, leB]; done) | grind [askedC, inI, leB]
    · cases hs
  · cases hs
theorem fn71 : FnOk Tryz.prog 71 Tryz.f71 (bodyOf Tryz.f71) := ⟨Tryz.func71, rfl, by rfl⟩
def s71 : Spec := hspec fun args H => match args, H with
  | [.c (.p 0 (.l 0)), .c (.i .i64 (.x k))], [some ⟨false, 0, .lit [.f .f32 st, .f .f32 sp, .f .f32 fd, .sl 1 (.x o) (.x n)]⟩, some ⟨false, 0, x⟩] => match x.toFl with
    | some l => some (vI (askedC (webOk (st ()) (sp ()) (fd ()) (l ()) (n ())) (k ()) (n ())), [none, none], [fun _ => o () = 0 ∧ (l ()).length = 3 * n () ∧ n () ≤ 1048576])
    | _ => none
  | _, _ => none
def E71 : Env := fun g => envGetL [(119, ⟨true, s119, none⟩), (120, ⟨true, s120, none⟩)] g
theorem E71ok : EnvOk Tryz.prog E71 := envOk_cons ok119 (envOk_cons ok120 (envOk_nil _))
theorem ok71 : Ok Tryz.prog 71 (s71) := ok_of_wpaH (E := E71) mixed tts E71ok fn71 fun args H v H' o hs ho => by
  split at hs
  · rename_i k st sp fd o n x
    split at hs
    · rename_i l hl
      cases hs
      obtain ⟨ho0, hlen, hbig⟩ := ho.one
      try simp only [Unit.unit] at ho0 hlen hbig
      have hwn : IntKind.wrap .i64 ((n ⟨⟩ : Int) - 1) = (n ⟨⟩ : Int) - 1 := wrap64 (by omega) (by omega)
      refine ⟨_, HLe.cons (BLe.refl _) (HLe.cons (BLe.fl hl) HLe.nil), ?_⟩
      cbv
      repeat' first
        | (refine alt_t (by assumption) ?_; cbv)
        | (refine alt_f (by assumption) ?_; cbv)
        | (refine alt_b (fun h => ?_) (fun h => ?_) <;> cbv)
        | (refine Br.mk (fun h => ?_) (fun h => ?_) <;> cbv)
        | (refine Ob.mk ?_ ?_; rotate_left; cbv)
        | (refine Lex.mk (by kernel_rfl) ?_; cbv)
      all_goals (try simp only [Unit.unit, Int.ofNat_lt, Int.ofNat_le, BE.val, IE.val, NE.val, ltB_iff, ltB_no, leB_iff, leB_no, Int.toNat_natCast, Nat.zero_add, Nat.add_zero, Nat.mul_one, forced, beq_iff_eq, beq_eq_false_iff_ne] at *)
      all_goals first | with_reducible rfl | exact ⟨ho0, hlen, hbig⟩ | ((try simp only [hwn] at *); first | (simp_all [askedC]; done) | grind [askedC])
    · cases hs
  · cases hs
theorem kn {k : Int} {n : Nat} (h : 0 ≤ k ∧ k.toNat < n) : 0 ≤ k ∧ k < (n : Int) := by omega
theorem wrapPred {k : Int} (h : 0 < k) (hk : k < 4611686018427387904) : (IntKind.wrap .i64 (k - 1)).toNat = k.toNat - 1 := by
  rw [wrap64 (by omega) (by omega)]; omega
end Go.Proofs.YteifneielgnniaaGreatDoor.Sh
end
section
namespace Go.Proofs.YteifneielgnniaaGreatDoor.Sh
open Go Go.Proofs
theorem fn72 : FnOk Tryz.prog 72 Tryz.f72 (bodyOf Tryz.f72) := ⟨Tryz.func72, rfl, by rfl⟩
def s72 : Spec := hspec fun args H => match args, H with
  | [.c (.p 0 (.l 0)), .c (.i .i64 (.x k))], [some ⟨false, 0, .lit [.f .f32 st, .f .f32 sp, .f .f32 fd, .sl 1 (.x o) (.x n)]⟩, some ⟨false, 0, x⟩] => match x.toFl with
    | some l => some (.t [F (uB (sp ()) (l ()) (k ()).toNat), F (tB (fd ()) (l ()) (k ()).toNat)], [none, none], [fun _ => o () = 0 ∧ (l ()).length = 3 * n () ∧ n () ≤ 1048576, fun _ => 0 ≤ k () ∧ (k ()).toNat < n ()])
    | _ => none
  | _, _ => none
theorem ok72 : Ok Tryz.prog 72 (s72) := ok_of_wpaH (E := envGetL []) mixed tts (envOk_nil _) fn72 fun args H v H' o hs ho => by
  split at hs
  · rename_i k st sp fd o n x
    split at hs
    · rename_i l hl
      cases hs
      obtain ⟨⟨ho0, hlen, hbig⟩, hx0⟩ := ho.two
      try simp only [Unit.unit] at ho0 hlen hbig hx0
      have hw : 0 < k ⟨⟩ → (IntKind.wrap .i64 (k ⟨⟩ - 1)).toNat = (k ⟨⟩).toNat - 1 := fun h => wrapPred h (by omega)
      have hw3 : 0 < k ⟨⟩ → 0 ≤ IntKind.wrap .i64 (k ⟨⟩ - 1) ∧ IntKind.wrap .i64 (k ⟨⟩ - 1) < (n ⟨⟩ : Int) := fun h => by rw [wrap64 (by omega) (by omega)]; omega
      have hw4 : 0 < k ⟨⟩ → (IntKind.wrap .i64 (k ⟨⟩ - 1)).toNat < n ⟨⟩ := fun h => by rw [wrap64 (by omega) (by omega)]; omega
      refine ⟨_, HLe.cons (BLe.refl _) (HLe.cons (BLe.fl hl) HLe.nil), ?_⟩
      cbv
      repeat' first
        | (refine alt_t (by assumption) ?_; cbv)
        | (refine alt_f (by assumption) ?_; cbv)
        | (refine alt_b (fun h => ?_) (fun h => ?_) <;> cbv)
        | (refine Br.mk (fun h => ?_) (fun h => ?_) <;> cbv)
        | (refine Ob.mk ?_ ?_; rotate_left; cbv)
        | (refine Lex.mk (by kernel_rfl) ?_; cbv)
      all_goals (try simp only [Unit.unit, Int.ofNat_lt, Int.ofNat_le, BE.val, IE.val, NE.val, ltB_iff, ltB_no, leB_iff, leB_no, Int.toNat_natCast, Nat.zero_add, Nat.add_zero, Nat.mul_one, forced, beq_iff_eq, beq_eq_false_iff_ne] at *)
      all_goals first | with_reducible rfl | (unfold uB; rw [if_pos (by omega)]; done) | (unfold tB; rw [if_pos (by omega)]; done) | (rw [hw (by omega), ho0, Nat.zero_add]; unfold uB; rw [if_neg (by omega)]; done) | (rw [hw (by omega), ho0, Nat.zero_add]; unfold tB; rw [if_neg (by omega)]; done) | (rw [hw (by omega)]; omega) | exact hw3 (by omega) | (have h3 := hw4 (by omega); omega)
    · cases hs
  · cases hs
theorem fn70 : FnOk Tryz.prog 70 Tryz.f70 (bodyOf Tryz.f70) := ⟨Tryz.func70, rfl, by rfl⟩
def s70 : Spec := hspec fun args H => match args, H with
  | [.c (.p 0 (.l 0)), .c (.i .i64 (.x k))], [some ⟨false, 0, .lit [.f .f32 st, .f .f32 sp, .f .f32 fd, .sl 1 (.x o) (.x n)]⟩, some ⟨false, 0, x⟩] => match x.toFl with
    | some l => some (.t [F (uB (sp ()) (l ()) (k ()).toNat), F (tB (fd ()) (l ()) (k ()).toNat)], [none, none], [fun _ => o () = 0 ∧ (l ()).length = 3 * n () ∧ n () ≤ 1048576, fun _ => 0 ≤ k () ∧ (k ()).toNat < n ()])
    | _ => none
  | _, _ => none
theorem ok70 : Ok Tryz.prog 70 (s70) := ok_of_wpaH (E := envGetL []) mixed tts (envOk_nil _) fn70 fun args H v H' o hs ho => by
  split at hs
  · rename_i k st sp fd o n x
    split at hs
    · rename_i l hl
      cases hs
      obtain ⟨⟨ho0, hlen, hbig⟩, hx0⟩ := ho.two
      try simp only [Unit.unit] at ho0 hlen hbig hx0
      have hw : 0 < k ⟨⟩ → (IntKind.wrap .i64 (k ⟨⟩ - 1)).toNat = (k ⟨⟩).toNat - 1 := fun h => wrapPred h (by omega)
      have hw3 : 0 < k ⟨⟩ → 0 ≤ IntKind.wrap .i64 (k ⟨⟩ - 1) ∧ IntKind.wrap .i64 (k ⟨⟩ - 1) < (n ⟨⟩ : Int) := fun h => by rw [wrap64 (by omega) (by omega)]; omega
      have hw4 : 0 < k ⟨⟩ → (IntKind.wrap .i64 (k ⟨⟩ - 1)).toNat < n ⟨⟩ := fun h => by rw [wrap64 (by omega) (by omega)]; omega
      refine ⟨_, HLe.cons (BLe.refl _) (HLe.cons (BLe.fl hl) HLe.nil), ?_⟩
      cbv
      repeat' first
        | (refine alt_t (by assumption) ?_; cbv)
        | (refine alt_f (by assumption) ?_; cbv)
        | (refine alt_b (fun h => ?_) (fun h => ?_) <;> cbv)
        | (refine Br.mk (fun h => ?_) (fun h => ?_) <;> cbv)
        | (refine Ob.mk ?_ ?_; rotate_left; cbv)
        | (refine Lex.mk (by kernel_rfl) ?_; cbv)
      all_goals (try simp only [Unit.unit, Int.ofNat_lt, Int.ofNat_le, BE.val, IE.val, NE.val, ltB_iff, ltB_no, leB_iff, leB_no, Int.toNat_natCast, Nat.zero_add, Nat.add_zero, Nat.mul_one, forced, beq_iff_eq, beq_eq_false_iff_ne] at *)
      all_goals first | with_reducible rfl | (unfold uB; rw [if_pos (by omega)]; done) | (unfold tB; rw [if_pos (by omega)]; done) | (rw [hw (by omega), ho0, Nat.zero_add]; unfold uB; rw [if_neg (by omega)]; done) | (rw [hw (by omega), ho0, Nat.zero_add]; unfold tB; rw [if_neg (by omega)]; done) | (rw [hw (by omega)]; omega) | exact hw3 (by omega) | (have h3 := hw4 (by omega); omega)
    · cases hs
  · cases hs
end Go.Proofs.YteifneielgnniaaGreatDoor.Sh
end
section
namespace Go.Proofs.YteifneielgnniaaGreatDoor.Sh
open Go Go.Proofs
theorem fn73 : FnOk Tryz.prog 73 Tryz.f73 (bodyOf Tryz.f73) := ⟨Tryz.func73, rfl, by rfl⟩
def s73 : Spec := hspec fun args H => match args, H with
  | [.c (.p 0 (.l 0)), .c (.i .i64 (.x k))], [some ⟨false, 0, .lit [.f .f32 st, .f .f32 sp, .f .f32 fd, .sl 1 (.x o) (.x n)]⟩, some ⟨false, 0, x⟩] => match x.toFl with
    | some l => some (F (rateW (st ()) (sp ()) (fd ()) (l ()) (k ()).toNat), [none, none], [fun _ => o () = 0 ∧ (l ()).length = 3 * n () ∧ n () ≤ 1048576, fun _ => 0 ≤ k () ∧ (k ()).toNat < n ()])
    | _ => none
  | _, _ => none
def E73 : Env := fun g => envGetL [(70, ⟨true, s70, none⟩), (92, ⟨true, s92, none⟩)] g
theorem E73ok : EnvOk Tryz.prog E73 := envOk_cons ok70 (envOk_cons ok92 (envOk_nil _))
theorem ok73 : Ok Tryz.prog 73 (s73) := ok_of_wpaH (E := E73) mixed tts E73ok fn73 fun args H v H' o hs ho => by
  split at hs
  · rename_i k st sp fd o n x
    split at hs
    · rename_i l hl
      cases hs
      obtain ⟨⟨ho0, hlen, hbig⟩, hx0⟩ := ho.two
      try simp only [Unit.unit] at ho0 hlen hbig hx0
      refine ⟨_, HLe.cons (BLe.refl _) (HLe.cons (BLe.fl hl) HLe.nil), ?_⟩
      cbv
      repeat' first
        | (refine alt_t (by assumption) ?_; cbv)
        | (refine alt_f (by assumption) ?_; cbv)
        | (refine alt_b (fun h => ?_) (fun h => ?_) <;> cbv)
        | (refine Br.mk (fun h => ?_) (fun h => ?_) <;> cbv)
        | (refine Ob.mk ?_ ?_; rotate_left; cbv)
        | (refine Lex.mk (by kernel_rfl) ?_; cbv)
      all_goals (try simp only [Unit.unit, Int.ofNat_lt, Int.ofNat_le, BE.val, IE.val, NE.val, ltB_iff, ltB_no, leB_iff, leB_no, Int.toNat_natCast, Nat.zero_add, Nat.add_zero, Nat.mul_one, forced, beq_iff_eq, beq_eq_false_iff_ne] at *)
      all_goals first | with_reducible rfl | exact ⟨ho0, hlen, hbig⟩ | exact hx0 | exact kn hx0 | omega | (simp only [rateW, ho0, Nat.zero_add]; done) | (rw [ho0, Nat.zero_add]; rfl)
    · cases hs
  · cases hs
theorem fn74 : FnOk Tryz.prog 74 Tryz.f74 (bodyOf Tryz.f74) := ⟨Tryz.func74, rfl, by rfl⟩
def s74 : Spec := hspec fun args H => match args, H with
  | [.c (.p 0 (.l 0)), .c (.i .i64 (.x k))], [some ⟨false, 0, .lit [.f .f32 st, .f .f32 sp, .f .f32 fd, .sl 1 (.x o) (.x n)]⟩, some ⟨false, 0, x⟩] => match x.toFl with
    | some l => some (F (rateW (st ()) (sp ()) (fd ()) (l ()) (k ()).toNat), [none, none], [fun _ => o () = 0 ∧ (l ()).length = 3 * n () ∧ n () ≤ 1048576, fun _ => 0 ≤ k () ∧ (k ()).toNat < n ()])
    | _ => none
  | _, _ => none
def E74 : Env := fun g => envGetL [(72, ⟨true, s72, none⟩)] g
theorem E74ok : EnvOk Tryz.prog E74 := envOk_cons ok72 (envOk_nil _)
theorem ok74 : Ok Tryz.prog 74 (s74) := ok_of_wpaH (E := E74) mixed tts E74ok fn74 fun args H v H' o hs ho => by
  split at hs
  · rename_i k st sp fd o n x
    split at hs
    · rename_i l hl
      cases hs
      obtain ⟨⟨ho0, hlen, hbig⟩, hx0⟩ := ho.two
      try simp only [Unit.unit] at ho0 hlen hbig hx0
      refine ⟨_, HLe.cons (BLe.refl _) (HLe.cons (BLe.fl hl) HLe.nil), ?_⟩
      cbv
      repeat' first
        | (refine alt_t (by assumption) ?_; cbv)
        | (refine alt_f (by assumption) ?_; cbv)
        | (refine alt_b (fun h => ?_) (fun h => ?_) <;> cbv)
        | (refine Br.mk (fun h => ?_) (fun h => ?_) <;> cbv)
        | (refine Ob.mk ?_ ?_; rotate_left; cbv)
        | (refine Lex.mk (by kernel_rfl) ?_; cbv)
      all_goals (try simp only [Unit.unit, Int.ofNat_lt, Int.ofNat_le, BE.val, IE.val, NE.val, ltB_iff, ltB_no, leB_iff, leB_no, Int.toNat_natCast, Nat.zero_add, Nat.add_zero, Nat.mul_one, forced, beq_iff_eq, beq_eq_false_iff_ne] at *)
      all_goals first | with_reducible rfl | exact ⟨ho0, hlen, hbig⟩ | exact hx0 | exact kn hx0 | omega | (simp only [rateW, ho0, Nat.zero_add]; done) | (rw [ho0, Nat.zero_add]; rfl)
    · cases hs
  · cases hs
theorem fn75 : FnOk Tryz.prog 75 Tryz.f75 (bodyOf Tryz.f75) := ⟨Tryz.func75, rfl, by rfl⟩
def s75 : Spec := hspec fun args H => match args, H with
  | [.c (.p 0 (.l 0)), .c (.b (.x q))], [some ⟨false, 0, .lit [.f .f32 st, .f .f32 sp, .f .f32 fd, .sl 1 (.x o) (.x n)]⟩, some ⟨false, 0, x⟩] => match x.toFl with
    | some l => some (vI (givenC (webOk (st ()) (sp ()) (fd ()) (l ()) (n ())) (q ())), [none, none], [fun _ => o () = 0 ∧ (l ()).length = 3 * n () ∧ n () ≤ 1048576])
    | _ => none
  | _, _ => none
def E75 : Env := fun g => envGetL [(119, ⟨true, s119, none⟩)] g
theorem E75ok : EnvOk Tryz.prog E75 := envOk_cons ok119 (envOk_nil _)
theorem ok75 : Ok Tryz.prog 75 (s75) := ok_of_wpaH (E := E75) mixed tts E75ok fn75 fun args H v H' o hs ho => by
  split at hs
  · rename_i q st sp fd o n x
    split at hs
    · rename_i l hl
      cases hs
      obtain ⟨ho0, hlen, hbig⟩ := ho.one
      try simp only [Unit.unit] at ho0 hlen hbig
      refine ⟨_, HLe.cons (BLe.refl _) (HLe.cons (BLe.fl hl) HLe.nil), ?_⟩
      cbv
      repeat' first
        | (refine alt_t (by assumption) ?_; cbv)
        | (refine alt_f (by assumption) ?_; cbv)
        | (refine alt_b (fun h => ?_) (fun h => ?_) <;> cbv)
        | (refine Br.mk (fun h => ?_) (fun h => ?_) <;> cbv)
        | (refine Ob.mk ?_ ?_; rotate_left; cbv)
        | (refine Lex.mk (by kernel_rfl) ?_; cbv)
      all_goals (try simp only [Unit.unit, Int.ofNat_lt, Int.ofNat_le, BE.val, IE.val, NE.val, ltB_iff, ltB_no, leB_iff, leB_no, Int.toNat_natCast, Nat.zero_add, Nat.add_zero, Nat.mul_one, forced, beq_iff_eq, beq_eq_false_iff_ne] at *)
      all_goals first | with_reducible rfl | exact ⟨ho0, hlen, hbig⟩ | (simp_all [givenC]; done) | grind [givenC]
    · cases hs
  · cases hs
end Go.Proofs.YteifneielgnniaaGreatDoor.Sh
end
section
namespace Go.Proofs.YteifneielgnniaaGreatDoor.Sh
open Go Go.Proofs
theorem fn66 : FnOk Tryz.prog 66 Tryz.f66 (bodyOf Tryz.f66) := ⟨Tryz.func66, rfl, by rfl⟩
def s66 : Spec := hspec fun args H => match args, H with
  | [.a [.f .f32 st, .f .f32 sp, .f .f32 fd, .sl 0 (.x o) (.x n)], .c (.f .f32 tm)], [some ⟨false, 0, x⟩] => match x.toFl with
    | some l => some (.t [.a [.f .f32 st, .f .f32 sp, .f .f32 fd, .sl 1 (.l 0) (.x n)], vB (webOk (st ()) (sp ()) (fd ()) (stepW (st ()) (sp ()) (fd ()) (tm ()) (l ()) (n ())) (n ()))], [none, some ⟨true, 3, .fl fun _ => stepW (st ()) (sp ()) (fd ()) (tm ()) (l ()) (n ())⟩], [fun _ => o () = 0 ∧ (l ()).length = 3 * n () ∧ n () ≤ 1048576])
    | _ => none
  | _, _ => none
def E66 : Env := fun g => envGetL [(65, ⟨true, s65, none⟩), (73, ⟨true, s73, none⟩), (92, ⟨true, s92, none⟩), (12, ⟨true, s12, none⟩)] g
theorem E66ok : EnvOk Tryz.prog E66 := envOk_cons ok65 (envOk_cons ok73 (envOk_cons ok92 (envOk_cons ok12 (envOk_nil _))))
set_option maxRecDepth 100000 in
set_option maxHeartbeats 1000000 in
theorem ok66 : Ok Tryz.prog 66 (s66) := ok_of_wpaH (E := E66) mixed tts E66ok fn66 fun args H v H' o hs ho => by
  split at hs
  · rename_i st sp fd o n tm x
    split at hs
    · rename_i l hl
      cases hs
      obtain ⟨ho0, hlen, hbig⟩ := ho.one
      try simp only [Unit.unit] at ho0 hlen hbig
      refine ⟨_, HLe.cons (BLe.fl hl) HLe.nil, ?_⟩
      cbv
      refine Ob.mk ⟨ho0, hlen, hbig⟩ ?_
      cbv
      refine loop_rule (α := Unit → Nat) (c := ⟨tt, E66, 1⟩)
          (fun i => fr 36 [(1, .c (.f .f32 tm)), (2, .c (.p 1 (.l 0))), (4, .c (.p 2 (.l 0))), (6, .c (.p 4 (.l 0))), (12, .c (.i .i64 (.x fun _ => n ()))), (13, .c (.i .i64 (.x fun _ => i ())))]) (fun i => [some ⟨false, 0, .fl l⟩, some ⟨true, 0, .lit [.f .f32 st, .f .f32 sp, .f .f32 fd, .sl 0 (.x o) (.x n)]⟩, some ⟨true, 0, .lit [.f .f32 fun _ => 0, .f .f32 fun _ => 0, .f .f32 fun _ => 0, .sn]⟩, some ⟨true, 3, .fl fun _ => tenTo (l ()) (stepF (st ()) (sp ()) (fd ()) (tm ()) (l ())) (i ())⟩, some ⟨true, 0, .lit [.f .f32 st, .f .f32 sp, .f .f32 fd, .sl 3 (.l 0) (.x n)]⟩])
          (fun i => i () ≤ n ()) (fun i => n () - i ()) (fun _ => n () + 1) ?_ ?_
      · refine .mk (fun _ => 0) (Nat.zero_le _) (by dsimp only; omega) ?_
        cbv
        repeat' (refine Ob.mk ?_ ?_; rotate_left)
        all_goals (try simp only [Unit.unit, Int.ofNat_lt, Int.ofNat_le, BE.val, IE.val, NE.val, ltB_iff, ltB_no, leB_iff, leB_no, Int.toNat_natCast, Nat.zero_add, Nat.add_zero, Nat.mul_one, forced, beq_iff_eq, beq_eq_false_iff_ne] at *)
        all_goals first | with_reducible rfl | trivial | exact (tenTo_zero _ _).symm
      · intro i hi
        cbv
        repeat' first
          | (refine alt_t (by assumption) ?_; cbv)
          | (refine alt_f (by assumption) ?_; cbv)
          | (refine alt_b (fun h => ?_) (fun h => ?_) <;> cbv)
          | (refine Br.mk (fun h => ?_) (fun h => ?_) <;> cbv)
          | (refine Ob.mk ?_ ?_; rotate_left; cbv)
          | (refine Lex.tail 16 (by decide +kernel) ?_; cbv)
          | (refine Lex.tail 3 (by decide +kernel) ?_; cbv)
          | (refine Next.mk (fun _ => i () + 1) ?_ ?_ ?_)
        all_goals (try simp only [Unit.unit, Int.ofNat_lt, Int.ofNat_le, BE.val, IE.val, NE.val, ltB_iff, ltB_no, leB_iff, leB_no, Int.toNat_natCast, Nat.zero_add, Nat.add_zero, Nat.mul_one, forced, beq_iff_eq, beq_eq_false_iff_ne] at *)
        all_goals (try simp only [ho0, Nat.zero_add, List.length_set] at *)
        all_goals first | with_reducible rfl | omega | exact wrap64_nat (by omega) | (refine ⟨Int.natCast_nonneg _, ?_⟩; omega) | exact tenTo_step (l ⟨⟩) (stepF (st ⟨⟩) (sp ⟨⟩) (fd ⟨⟩) (tm ⟨⟩) (l ⟨⟩)) (by omega) | exact ⟨by trivial, by rw [tenTo_len _ _ (by omega)]; exact hlen, hbig⟩ | exact ⟨ho0, hlen, hbig⟩ | (rw [tenTo_len _ _ (by omega)]; omega) | exact ⟨Int.natCast_nonneg _, by simpa using (by omega)⟩ | (rw [show i ⟨⟩ = n ⟨⟩ by omega]; rfl) | exact (tenTo_zero _ _).symm
    · cases hs
  · cases hs
end Go.Proofs.YteifneielgnniaaGreatDoor.Sh
end
section
namespace Go.Proofs.YteifneielgnniaaGreatDoor.Sh
open Go Go.Proofs
theorem fn79 : FnOk Tryz.prog 79 Tryz.f79 (bodyOf Tryz.f79) := ⟨Tryz.func79, rfl, by rfl⟩
def s79T : Spec := hspec fun args H => match args, H with
  | [.c (.p 0 (.l 0)), .c (.f .f32 tm)], [some ⟨false, 0, .lit [.f .f32 st, .f .f32 sp, .f .f32 fd, .sl 1 (.x o) (.x n)]⟩, some ⟨false, 0, x⟩] => match x.toFl with
    | some l => some (.t [.a [.f .f32 st, .f .f32 sp, .f .f32 fd, .sl 2 (.l 0) (.x n)], vI 0], [none, none, some ⟨true, 3, .fl fun _ => stepW (st ()) (sp ()) (fd ()) (tm ()) (l ()) (n ())⟩], [fun _ => webOk (st ()) (sp ()) (fd ()) (stepW (st ()) (sp ()) (fd ()) (tm ()) (l ()) (n ())) (n ()) = true, fun _ => o () = 0 ∧ (l ()).length = 3 * n () ∧ n () ≤ 1048576])
    | _ => none
  | _, _ => none
def E79T : Env := fun g => envGetL [(78, ⟨true, s78, none⟩), (74, ⟨true, s74, none⟩), (119, ⟨true, s119, none⟩)] g
theorem E79Tok : EnvOk Tryz.prog E79T := envOk_cons ok78 (envOk_cons ok74 (envOk_cons ok119 (envOk_nil _)))
set_option maxRecDepth 100000 in
set_option maxHeartbeats 1000000 in
theorem ok79T : Ok Tryz.prog 79 (s79T) := ok_of_wpaH (E := E79T) mixed tts E79Tok fn79 fun args H v H' o hs ho => by
  split at hs
  · rename_i tm st sp fd o n x
    split at hs
    · rename_i l hl
      cases hs
      obtain ⟨hc, ⟨ho0, hlen, hbig⟩⟩ := ho.two
      try simp only [Unit.unit] at hc ho0 hlen hbig
      refine ⟨_, HLe.cons (BLe.refl _) (HLe.cons (BLe.fl hl) HLe.nil), ?_⟩
      cbv
      refine Ob.mk ⟨ho0, hlen, hbig⟩ ?_
      cbv
      refine loop_rule (α := Unit → Nat) (c := ⟨tt, E79T, 2⟩)
          (fun i => fr 42 [(0, .c (.p 0 (.l 0))), (1, .c (.f .f32 tm)), (4, .c (.p 2 (.l 0))), (6, .c (.p 4 (.l 0))), (7, .c (.i .i64 (.x fun _ => i ())))]) (fun i => [some ⟨false, 0, .lit [.f .f32 st, .f .f32 sp, .f .f32 fd, .sl 1 (.x o) (.x n)]⟩, some ⟨false, 0, .fl l⟩, some ⟨true, 0, .lit [.f .f32 fun _ => 0, .f .f32 fun _ => 0, .f .f32 fun _ => 0, .sn]⟩, some ⟨true, 3, .fl fun _ => tenTo (l ()) (stepF (st ()) (sp ()) (fd ()) (tm ()) (l ())) (i ())⟩, some ⟨true, 0, .lit [.f .f32 st, .f .f32 sp, .f .f32 fd, .sl 3 (.l 0) (.x n)]⟩])
          (fun i => i () ≤ n ()) (fun i => n () - i ()) (fun _ => n () + 1) ?_ ?_
      · refine .mk (fun _ => 0) (Nat.zero_le _) (by dsimp only; omega) ?_
        cbv
        repeat' (refine Ob.mk ?_ ?_; rotate_left)
        all_goals (try simp only [Unit.unit, Int.ofNat_lt, Int.ofNat_le, BE.val, IE.val, NE.val, ltB_iff, ltB_no, leB_iff, leB_no, Int.toNat_natCast, Nat.zero_add, Nat.add_zero, Nat.mul_one, forced, beq_iff_eq, beq_eq_false_iff_ne] at *)
        all_goals first | with_reducible rfl | trivial | exact (tenTo_zero _ _).symm
      · intro i hi
        cbv
        repeat' first
          | (refine alt_t (by assumption) ?_; cbv)
          | (refine alt_f (by assumption) ?_; cbv)
          | (refine alt_b (fun h => ?_) (fun h => ?_) <;> cbv)
          | (refine Br.mk (fun h => ?_) (fun h => ?_) <;> cbv)
          | (refine Ob.mk ?_ ?_; rotate_left; cbv)
          | (refine Lex.tail 19 (by decide +kernel) ?_; cbv)
          | (refine Next.mk (fun _ => i () + 1) ?_ ?_ ?_)
        all_goals (try simp only [Unit.unit, Int.ofNat_lt, Int.ofNat_le, BE.val, IE.val, NE.val, ltB_iff, ltB_no, leB_iff, leB_no, Int.toNat_natCast, Nat.zero_add, Nat.add_zero, Nat.mul_one, forced, beq_iff_eq, beq_eq_false_iff_ne] at *)
        all_goals (try simp only [ho0, Nat.zero_add, List.length_set] at *)
        all_goals first | with_reducible rfl | (exfalso; have e : i ⟨⟩ = n ⟨⟩ := (by omega); have hq := ‹(!webOk (st ⟨⟩) (sp ⟨⟩) (fd ⟨⟩) (tenTo (l ⟨⟩) (stepF (st ⟨⟩) (sp ⟨⟩) (fd ⟨⟩) (tm ⟨⟩) (l ⟨⟩)) (i ⟨⟩)) (n ⟨⟩)) = true›; rw [e] at hq; have hc' : webOk (st ⟨⟩) (sp ⟨⟩) (fd ⟨⟩) (tenTo (l ⟨⟩) (stepF (st ⟨⟩) (sp ⟨⟩) (fd ⟨⟩) (tm ⟨⟩) (l ⟨⟩)) (n ⟨⟩)) (n ⟨⟩) = true := hc; rw [hc'] at hq; simp at hq; done) | omega | exact wrap64_nat (by omega) | (refine ⟨Int.natCast_nonneg _, ?_⟩; omega) | exact tenTo_step (l ⟨⟩) (stepF (st ⟨⟩) (sp ⟨⟩) (fd ⟨⟩) (tm ⟨⟩) (l ⟨⟩)) (by omega) | exact ⟨by trivial, by rw [tenTo_len _ _ (by omega)]; exact hlen, hbig⟩ | exact ⟨ho0, hlen, hbig⟩ | (rw [tenTo_len _ _ (by omega)]; omega) | exact ⟨Int.natCast_nonneg _, by simpa using (by omega)⟩ | (rw [show i ⟨⟩ = n ⟨⟩ by omega]; rfl) | exact (tenTo_zero _ _).symm
    · cases hs
  · cases hs
end Go.Proofs.YteifneielgnniaaGreatDoor.Sh
end
section
namespace Go.Proofs.YteifneielgnniaaGreatDoor.Sh
open Go Go.Proofs
def s79F : Spec := hspec fun args H => match args, H with
  | [.c (.p 0 (.l 0)), .c (.f .f32 tm)], [some ⟨false, 0, .lit [.f .f32 st, .f .f32 sp, .f .f32 fd, .sl 1 (.x o) (.x n)]⟩, some ⟨false, 0, x⟩] => match x.toFl with
    | some l => some (.t [.a [.f .f32 fun _ => 0, .f .f32 fun _ => 0, .f .f32 fun _ => 0, .sn], vI 4], [none, none], [fun _ => webOk (st ()) (sp ()) (fd ()) (stepW (st ()) (sp ()) (fd ()) (tm ()) (l ()) (n ())) (n ()) = false, fun _ => o () = 0 ∧ (l ()).length = 3 * n () ∧ n () ≤ 1048576])
    | _ => none
  | _, _ => none
def E79F : Env := fun g => envGetL [(78, ⟨true, s78, none⟩), (74, ⟨true, s74, none⟩), (119, ⟨true, s119, none⟩)] g
theorem E79Fok : EnvOk Tryz.prog E79F := envOk_cons ok78 (envOk_cons ok74 (envOk_cons ok119 (envOk_nil _)))
set_option maxRecDepth 100000 in
set_option maxHeartbeats 1000000 in
theorem ok79F : Ok Tryz.prog 79 (s79F) := ok_of_wpaH (E := E79F) mixed tts E79Fok fn79 fun args H v H' o hs ho => by
  split at hs
  · rename_i tm st sp fd o n x
    split at hs
    · rename_i l hl
      cases hs
      obtain ⟨hc, ⟨ho0, hlen, hbig⟩⟩ := ho.two
      try simp only [Unit.unit] at hc ho0 hlen hbig
      refine ⟨_, HLe.cons (BLe.refl _) (HLe.cons (BLe.fl hl) HLe.nil), ?_⟩
      cbv
      refine Ob.mk ⟨ho0, hlen, hbig⟩ ?_
      cbv
      refine loop_rule (α := Unit → Nat) (c := ⟨tt, E79F, 2⟩)
          (fun i => fr 42 [(0, .c (.p 0 (.l 0))), (1, .c (.f .f32 tm)), (4, .c (.p 2 (.l 0))), (6, .c (.p 4 (.l 0))), (7, .c (.i .i64 (.x fun _ => i ())))]) (fun i => [some ⟨false, 0, .lit [.f .f32 st, .f .f32 sp, .f .f32 fd, .sl 1 (.x o) (.x n)]⟩, some ⟨false, 0, .fl l⟩, some ⟨true, 0, .lit [.f .f32 fun _ => 0, .f .f32 fun _ => 0, .f .f32 fun _ => 0, .sn]⟩, some ⟨true, 3, .fl fun _ => tenTo (l ()) (stepF (st ()) (sp ()) (fd ()) (tm ()) (l ())) (i ())⟩, some ⟨true, 0, .lit [.f .f32 st, .f .f32 sp, .f .f32 fd, .sl 3 (.l 0) (.x n)]⟩])
          (fun i => i () ≤ n ()) (fun i => n () - i ()) (fun _ => n () + 1) ?_ ?_
      · refine .mk (fun _ => 0) (Nat.zero_le _) (by dsimp only; omega) ?_
        cbv
        repeat' (refine Ob.mk ?_ ?_; rotate_left)
        all_goals (try simp only [Unit.unit, Int.ofNat_lt, Int.ofNat_le, BE.val, IE.val, NE.val, ltB_iff, ltB_no, leB_iff, leB_no, Int.toNat_natCast, Nat.zero_add, Nat.add_zero, Nat.mul_one, forced, beq_iff_eq, beq_eq_false_iff_ne] at *)
        all_goals first | with_reducible rfl | trivial | exact (tenTo_zero _ _).symm
      · intro i hi
        cbv
        repeat' first
          | (refine alt_t (by assumption) ?_; cbv)
          | (refine alt_f (by assumption) ?_; cbv)
          | (refine alt_b (fun h => ?_) (fun h => ?_) <;> cbv)
          | (refine Br.mk (fun h => ?_) (fun h => ?_) <;> cbv)
          | (refine Ob.mk ?_ ?_; rotate_left; cbv)
          | (refine Lex.tail 19 (by decide +kernel) ?_; cbv)
          | (refine Next.mk (fun _ => i () + 1) ?_ ?_ ?_)
        all_goals (try simp only [Unit.unit, Int.ofNat_lt, Int.ofNat_le, BE.val, IE.val, NE.val, ltB_iff, ltB_no, leB_iff, leB_no, Int.toNat_natCast, Nat.zero_add, Nat.add_zero, Nat.mul_one, forced, beq_iff_eq, beq_eq_false_iff_ne] at *)
        all_goals (try simp only [ho0, Nat.zero_add, List.length_set] at *)
        all_goals first | with_reducible rfl | (exfalso; have e : i ⟨⟩ = n ⟨⟩ := (by omega); have hq := ‹(!webOk (st ⟨⟩) (sp ⟨⟩) (fd ⟨⟩) (tenTo (l ⟨⟩) (stepF (st ⟨⟩) (sp ⟨⟩) (fd ⟨⟩) (tm ⟨⟩) (l ⟨⟩)) (i ⟨⟩)) (n ⟨⟩)) = false›; rw [e] at hq; have hc' : webOk (st ⟨⟩) (sp ⟨⟩) (fd ⟨⟩) (tenTo (l ⟨⟩) (stepF (st ⟨⟩) (sp ⟨⟩) (fd ⟨⟩) (tm ⟨⟩) (l ⟨⟩)) (n ⟨⟩)) (n ⟨⟩) = false := hc; rw [hc'] at hq; simp at hq; done) | omega | exact wrap64_nat (by omega) | (refine ⟨Int.natCast_nonneg _, ?_⟩; omega) | exact tenTo_step (l ⟨⟩) (stepF (st ⟨⟩) (sp ⟨⟩) (fd ⟨⟩) (tm ⟨⟩) (l ⟨⟩)) (by omega) | exact ⟨by trivial, by rw [tenTo_len _ _ (by omega)]; exact hlen, hbig⟩ | exact ⟨ho0, hlen, hbig⟩ | (rw [tenTo_len _ _ (by omega)]; omega) | exact ⟨Int.natCast_nonneg _, by simpa using (by omega)⟩ | (rw [show i ⟨⟩ = n ⟨⟩ by omega]; rfl) | exact (tenTo_zero _ _).symm
    · cases hs
  · cases hs
end Go.Proofs.YteifneielgnniaaGreatDoor.Sh
end
section
namespace Go.Proofs.YteifneielgnniaaGreatDoor.Sh
open Go Go.Proofs
theorem asked_ok {ok : Bool} {i : Int} {n : Nat} (h : askedC ok i n = 0) : ok = true ∧ 0 ≤ i ∧ i.toNat < n := by
  unfold askedC at h
  split at h
  · rename_i hk
    split at h
    · rename_i hi
      rw [inI_iff] at hi
      exact ⟨hk, by omega, by omega⟩
    · cases h
  · cases h
theorem not_f {b : Bool} (h : (!b) = false) : b = true := by cases b <;> simp_all
theorem not_t {b : Bool} (h : (!b) = true) : b = false := by cases b <;> simp_all
theorem lt_k {i : Nat} {k : Int} (h : ltB (i : Int) k = true) : i < k.toNat := by have := ltB_iff.1 h; omega
theorem le_k {i : Nat} {k : Int} (h : ltB (i : Int) k = false) : k.toNat ≤ i := by have := ltB_no.1 h; omega
def pullW (sp : Nat) (l : List Nat) (i : Nat) : Nat := fop .quo .f32 (fop .sub .f32 (l.getD (i * 3 + 1) 0) (uB sp l i)) (uB sp l i)
theorem fn18 : FnOk Tryz.prog 18 Tryz.f18 (bodyOf Tryz.f18) := ⟨Tryz.func18, rfl, by rfl⟩
def s18 : Spec := hspec fun args H => match args, H with
  | [.a [.f .f32 st, .f .f32 sp, .f .f32 fd, .sl 0 (.x o) (.x n)], .c (.i .i64 (.x k))], [some ⟨false, 0, x⟩] => match x.toFl with
    | some l => some (.t [F (if askedC (webOk (st ()) (sp ()) (fd ()) (l ()) (n ())) (k ()) (n ()) = 0 then fop .quo .f32 ((l ()).getD ((k ()).toNat * 3 + 2) 0) (st ()) else 0), vI (askedC (webOk (st ()) (sp ()) (fd ()) (l ()) (n ())) (k ()) (n ()))], [none], [fun _ => o () = 0 ∧ (l ()).length = 3 * n () ∧ n () ≤ 1048576])
    | _ => none
  | _, _ => none
def E18 : Env := fun g => envGetL [(71, ⟨true, s71, none⟩)] g
theorem E18ok : EnvOk Tryz.prog E18 := envOk_cons ok71 (envOk_nil _)
set_option maxRecDepth 100000 in
set_option maxHeartbeats 1000000 in
theorem ok18 : Ok Tryz.prog 18 (s18) := ok_of_wpaH (E := E18) mixed tts E18ok fn18 fun args H v H' o hs ho => by
  split at hs
  · rename_i st sp fd o n k x
    split at hs
    · rename_i l hl
      cases hs
      obtain ⟨ho0, hlen, hbig⟩ := ho.one
      try simp only [Unit.unit] at ho0 hlen hbig
      refine ⟨_, HLe.cons (BLe.fl hl) HLe.nil, ?_⟩
      cbv
      repeat' first
        | (refine alt_t (by assumption) ?_; cbv)
        | (refine alt_f (by assumption) ?_; cbv)
        | (refine alt_b (fun h => ?_) (fun h => ?_) <;> cbv)
        | (refine Br.mk (fun h => ?_) (fun h => ?_) <;> cbv)
        | (refine Ob.mk ?_ ?_; rotate_left; cbv)
        | (refine Lex.mk (by kernel_rfl) ?_; cbv)
      all_goals (try simp only [Unit.unit, Int.ofNat_lt, Int.ofNat_le, BE.val, IE.val, NE.val, ltB_iff, ltB_no, leB_iff, leB_no, Int.toNat_natCast, Nat.zero_add, Nat.add_zero, Nat.mul_one, forced, beq_iff_eq, beq_eq_false_iff_ne, bne_iff_ne, bne_eq_false_iff_eq] at *)
      all_goals first | with_reducible rfl | exact ⟨ho0, hlen, hbig⟩ | exact ⟨by trivial, hlen, hbig⟩ | exact kn (asked_ok (by assumption)).2 | exact (asked_ok (by assumption)).2 | (have ha := (asked_ok (by assumption)).2; omega) | (rw [if_pos (by assumption)]; simp only [ho0, Nat.zero_add]; done) | (rw [if_pos (by assumption), ho0, Nat.zero_add]; rfl) | (rw [if_pos (by assumption)]; rfl) | (simp_all; done)
    · cases hs
  · cases hs
theorem fn17 : FnOk Tryz.prog 17 Tryz.f17 (bodyOf Tryz.f17) := ⟨Tryz.func17, rfl, by rfl⟩
def s17 : Spec := hspec fun args H => match args, H with
  | [.a [.f .f32 st, .f .f32 sp, .f .f32 fd, .sl 0 (.x o) (.x n)], .c (.i .i64 (.x k))], [some ⟨false, 0, x⟩] => match x.toFl with
    | some l => some (.t [F (if askedC (webOk (st ()) (sp ()) (fd ()) (l ()) (n ())) (k ()) (n ()) = 0 then fop .quo .f32 ((l ()).getD ((k ()).toNat * 3 + 2) 0) (st ()) else 0), vI (askedC (webOk (st ()) (sp ()) (fd ()) (l ()) (n ())) (k ()) (n ()))], [none], [fun _ => o () = 0 ∧ (l ()).length = 3 * n () ∧ n () ≤ 1048576])
    | _ => none
  | _, _ => none
def E17 : Env := fun g => envGetL [(69, ⟨true, s69, none⟩)] g
theorem E17ok : EnvOk Tryz.prog E17 := envOk_cons ok69 (envOk_nil _)
set_option maxRecDepth 100000 in
set_option maxHeartbeats 1000000 in
theorem ok17 : Ok Tryz.prog 17 (s17) := ok_of_wpaH (E := E17) mixed tts E17ok fn17 fun args H v H' o hs ho => by
  split at hs
  · rename_i st sp fd o n k x
    split at hs
    · rename_i l hl
      cases hs
      obtain ⟨ho0, hlen, hbig⟩ := ho.one
      try simp only [Unit.unit] at ho0 hlen hbig
      refine ⟨_, HLe.cons (BLe.fl hl) HLe.nil, ?_⟩
      cbv
      repeat' first
        | (refine alt_t (by assumption) ?_; cbv)
        | (refine alt_f (by assumption) ?_; cbv)
        | (refine alt_b (fun h => ?_) (fun h => ?_) <;> cbv)
        | (refine Br.mk (fun h => ?_) (fun h => ?_) <;> cbv)
        | (refine Ob.mk ?_ ?_; rotate_left; cbv)
        | (refine Lex.mk (by kernel_rfl) ?_; cbv)
      all_goals (try simp only [Unit.unit, Int.ofNat_lt, Int.ofNat_le, BE.val, IE.val, NE.val, ltB_iff, ltB_no, leB_iff, leB_no, Int.toNat_natCast, Nat.zero_add, Nat.add_zero, Nat.mul_one, forced, beq_iff_eq, beq_eq_false_iff_ne, bne_iff_ne, bne_eq_false_iff_eq] at *)
      all_goals first | with_reducible rfl | exact ⟨ho0, hlen, hbig⟩ | exact ⟨by trivial, hlen, hbig⟩ | exact kn (asked_ok (by assumption)).2 | exact (asked_ok (by assumption)).2 | (have ha := (asked_ok (by assumption)).2; omega) | (rw [if_pos (by assumption)]; simp only [ho0, Nat.zero_add]; done) | (rw [if_pos (by assumption), ho0, Nat.zero_add]; rfl) | (rw [if_pos (by assumption)]; rfl) | (simp_all; done)
    · cases hs
  · cases hs
theorem fn16 : FnOk Tryz.prog 16 Tryz.f16 (bodyOf Tryz.f16) := ⟨Tryz.func16, rfl, by rfl⟩
def s16 : Spec := hspec fun args H => match args, H with
  | [.a [.f .f32 st, .f .f32 sp, .f .f32 fd, .sl 0 (.x o) (.x n)], .c (.i .i64 (.x k))], [some ⟨false, 0, x⟩] => match x.toFl with
    | some l => some (.t [F (if askedC (webOk (st ()) (sp ()) (fd ()) (l ()) (n ())) (k ()) (n ()) = 0 then pullW (sp ()) (l ()) (k ()).toNat else 0), vI (askedC (webOk (st ()) (sp ()) (fd ()) (l ()) (n ())) (k ()) (n ()))], [none], [fun _ => o () = 0 ∧ (l ()).length = 3 * n () ∧ n () ≤ 1048576])
    | _ => none
  | _, _ => none
def E16 : Env := fun g => envGetL [(71, ⟨true, s71, none⟩), (72, ⟨true, s72, none⟩)] g
theorem E16ok : EnvOk Tryz.prog E16 := envOk_cons ok71 (envOk_cons ok72 (envOk_nil _))
set_option maxRecDepth 100000 in
set_option maxHeartbeats 1000000 in
theorem ok16 : Ok Tryz.prog 16 (s16) := ok_of_wpaH (E := E16) mixed tts E16ok fn16 fun args H v H' o hs ho => by
  split at hs
  · rename_i st sp fd o n k x
    split at hs
    · rename_i l hl
      cases hs
      obtain ⟨ho0, hlen, hbig⟩ := ho.one
      try simp only [Unit.unit] at ho0 hlen hbig
      refine ⟨_, HLe.cons (BLe.fl hl) HLe.nil, ?_⟩
      cbv
      repeat' first
        | (refine alt_t (by assumption) ?_; cbv)
        | (refine alt_f (by assumption) ?_; cbv)
        | (refine alt_b (fun h => ?_) (fun h => ?_) <;> cbv)
        | (refine Br.mk (fun h => ?_) (fun h => ?_) <;> cbv)
        | (refine Ob.mk ?_ ?_; rotate_left; cbv)
        | (refine Lex.mk (by kernel_rfl) ?_; cbv)
      all_goals (try simp only [Unit.unit, Int.ofNat_lt, Int.ofNat_le, BE.val, IE.val, NE.val, ltB_iff, ltB_no, leB_iff, leB_no, Int.toNat_natCast, Nat.zero_add, Nat.add_zero, Nat.mul_one, forced, beq_iff_eq, beq_eq_false_iff_ne, bne_iff_ne, bne_eq_false_iff_eq] at *)
      all_goals first | with_reducible rfl | exact ⟨ho0, hlen, hbig⟩ | exact ⟨by trivial, hlen, hbig⟩ | exact kn (asked_ok (by assumption)).2 | exact (asked_ok (by assumption)).2 | (have ha := (asked_ok (by assumption)).2; omega) | (rw [if_pos (by assumption)]; simp only [pullW, ho0, Nat.zero_add]; done) | (rw [if_pos (by assumption), ho0, Nat.zero_add]; rfl) | (rw [if_pos (by assumption)]; rfl) | (simp_all; done)
    · cases hs
  · cases hs
theorem fn15 : FnOk Tryz.prog 15 Tryz.f15 (bodyOf Tryz.f15) := ⟨Tryz.func15, rfl, by rfl⟩
def s15 : Spec := hspec fun args H => match args, H with
  | [.a [.f .f32 st, .f .f32 sp, .f .f32 fd, .sl 0 (.x o) (.x n)], .c (.i .i64 (.x k))], [some ⟨false, 0, x⟩] => match x.toFl with
    | some l => some (.t [F (if askedC (webOk (st ()) (sp ()) (fd ()) (l ()) (n ())) (k ()) (n ()) = 0 then pullW (sp ()) (l ()) (k ()).toNat else 0), vI (askedC (webOk (st ()) (sp ()) (fd ()) (l ()) (n ())) (k ()) (n ()))], [none], [fun _ => o () = 0 ∧ (l ()).length = 3 * n () ∧ n () ≤ 1048576])
    | _ => none
  | _, _ => none
def E15 : Env := fun g => envGetL [(69, ⟨true, s69, none⟩), (70, ⟨true, s70, none⟩)] g
theorem E15ok : EnvOk Tryz.prog E15 := envOk_cons ok69 (envOk_cons ok70 (envOk_nil _))
set_option maxRecDepth 100000 in
set_option maxHeartbeats 1000000 in
theorem ok15 : Ok Tryz.prog 15 (s15) := ok_of_wpaH (E := E15) mixed tts E15ok fn15 fun args H v H' o hs ho => by
  split at hs
  · rename_i st sp fd o n k x
    split at hs
    · rename_i l hl
      cases hs
      obtain ⟨ho0, hlen, hbig⟩ := ho.one
      try simp only [Unit.unit] at ho0 hlen hbig
      refine ⟨_, HLe.cons (BLe.fl hl) HLe.nil, ?_⟩
      cbv
      repeat' first
        | (refine alt_t (by assumption) ?_; cbv)
        | (refine alt_f (by assumption) ?_; cbv)
        | (refine alt_b (fun h => ?_) (fun h => ?_) <;> cbv)
        | (refine Br.mk (fun h => ?_) (fun h => ?_) <;> cbv)
        | (refine Ob.mk ?_ ?_; rotate_left; cbv)
        | (refine Lex.mk (by kernel_rfl) ?_; cbv)
      all_goals (try simp only [Unit.unit, Int.ofNat_lt, Int.ofNat_le, BE.val, IE.val, NE.val, ltB_iff, ltB_no, leB_iff, leB_no, Int.toNat_natCast, Nat.zero_add, Nat.add_zero, Nat.mul_one, forced, beq_iff_eq, beq_eq_false_iff_ne, bne_iff_ne, bne_eq_false_iff_eq] at *)
      all_goals first | with_reducible rfl | exact ⟨ho0, hlen, hbig⟩ | exact ⟨by trivial, hlen, hbig⟩ | exact kn (asked_ok (by assumption)).2 | exact (asked_ok (by assumption)).2 | (have ha := (asked_ok (by assumption)).2; omega) | (rw [if_pos (by assumption)]; simp only [pullW, ho0, Nat.zero_add]; done) | (rw [if_pos (by assumption), ho0, Nat.zero_add]; rfl) | (rw [if_pos (by assumption)]; rfl) | (simp_all; done)
    · cases hs
  · cases hs
theorem fn20 : FnOk Tryz.prog 20 Tryz.f20 (bodyOf Tryz.f20) := ⟨Tryz.func20, rfl, by rfl⟩
def s20 : Spec := hspec fun args H => match args, H with
  | [.a [.f .f32 st, .f .f32 sp, .f .f32 fd, .sl 0 (.x o) (.x n)], .c (.i .i64 (.x k))], [some ⟨false, 0, x⟩] => match x.toFl with
    | some l => some (.t [F (if askedC (webOk (st ()) (sp ()) (fd ()) (l ()) (n ())) (k ()) (n ()) = 0 then rateW (st ()) (sp ()) (fd ()) (l ()) (k ()).toNat else 0), vI (askedC (webOk (st ()) (sp ()) (fd ()) (l ()) (n ())) (k ()) (n ()))], [none], [fun _ => o () = 0 ∧ (l ()).length = 3 * n () ∧ n () ≤ 1048576])
    | _ => none
  | _, _ => none
def E20 : Env := fun g => envGetL [(71, ⟨true, s71, none⟩), (74, ⟨true, s74, none⟩)] g
theorem E20ok : EnvOk Tryz.prog E20 := envOk_cons ok71 (envOk_cons ok74 (envOk_nil _))
set_option maxRecDepth 100000 in
set_option maxHeartbeats 1000000 in
theorem ok20 : Ok Tryz.prog 20 (s20) := ok_of_wpaH (E := E20) mixed tts E20ok fn20 fun args H v H' o hs ho => by
  split at hs
  · rename_i st sp fd o n k x
    split at hs
    · rename_i l hl
      cases hs
      obtain ⟨ho0, hlen, hbig⟩ := ho.one
      try simp only [Unit.unit] at ho0 hlen hbig
      refine ⟨_, HLe.cons (BLe.fl hl) HLe.nil, ?_⟩
      cbv
      repeat' first
        | (refine alt_t (by assumption) ?_; cbv)
        | (refine alt_f (by assumption) ?_; cbv)
        | (refine alt_b (fun h => ?_) (fun h => ?_) <;> cbv)
        | (refine Br.mk (fun h => ?_) (fun h => ?_) <;> cbv)
        | (refine Ob.mk ?_ ?_; rotate_left; cbv)
        | (refine Lex.mk (by kernel_rfl) ?_; cbv)
      all_goals (try simp only [Unit.unit, Int.ofNat_lt, Int.ofNat_le, BE.val, IE.val, NE.val, ltB_iff, ltB_no, leB_iff, leB_no, Int.toNat_natCast, Nat.zero_add, Nat.add_zero, Nat.mul_one, forced, beq_iff_eq, beq_eq_false_iff_ne, bne_iff_ne, bne_eq_false_iff_eq] at *)
      all_goals first | with_reducible rfl | exact ⟨ho0, hlen, hbig⟩ | exact ⟨by trivial, hlen, hbig⟩ | exact kn (asked_ok (by assumption)).2 | exact (asked_ok (by assumption)).2 | (have ha := (asked_ok (by assumption)).2; omega) | (rw [if_pos (by assumption)]; simp only [ho0, Nat.zero_add]; done) | (rw [if_pos (by assumption), ho0, Nat.zero_add]; rfl) | (rw [if_pos (by assumption)]; rfl) | (simp_all; done)
    · cases hs
  · cases hs
theorem fn19 : FnOk Tryz.prog 19 Tryz.f19 (bodyOf Tryz.f19) := ⟨Tryz.func19, rfl, by rfl⟩
def s19 : Spec := hspec fun args H => match args, H with
  | [.a [.f .f32 st, .f .f32 sp, .f .f32 fd, .sl 0 (.x o) (.x n)], .c (.i .i64 (.x k))], [some ⟨false, 0, x⟩] => match x.toFl with
    | some l => some (.t [F (if askedC (webOk (st ()) (sp ()) (fd ()) (l ()) (n ())) (k ()) (n ()) = 0 then rateW (st ()) (sp ()) (fd ()) (l ()) (k ()).toNat else 0), vI (askedC (webOk (st ()) (sp ()) (fd ()) (l ()) (n ())) (k ()) (n ()))], [none], [fun _ => o () = 0 ∧ (l ()).length = 3 * n () ∧ n () ≤ 1048576])
    | _ => none
  | _, _ => none
def E19 : Env := fun g => envGetL [(69, ⟨true, s69, none⟩), (73, ⟨true, s73, none⟩)] g
theorem E19ok : EnvOk Tryz.prog E19 := envOk_cons ok69 (envOk_cons ok73 (envOk_nil _))
set_option maxRecDepth 100000 in
set_option maxHeartbeats 1000000 in
theorem ok19 : Ok Tryz.prog 19 (s19) := ok_of_wpaH (E := E19) mixed tts E19ok fn19 fun args H v H' o hs ho => by
  split at hs
  · rename_i st sp fd o n k x
    split at hs
    · rename_i l hl
      cases hs
      obtain ⟨ho0, hlen, hbig⟩ := ho.one
      try simp only [Unit.unit] at ho0 hlen hbig
      refine ⟨_, HLe.cons (BLe.fl hl) HLe.nil, ?_⟩
      cbv
      repeat' first
        | (refine alt_t (by assumption) ?_; cbv)
        | (refine alt_f (by assumption) ?_; cbv)
        | (refine alt_b (fun h => ?_) (fun h => ?_) <;> cbv)
        | (refine Br.mk (fun h => ?_) (fun h => ?_) <;> cbv)
        | (refine Ob.mk ?_ ?_; rotate_left; cbv)
        | (refine Lex.mk (by kernel_rfl) ?_; cbv)
      all_goals (try simp only [Unit.unit, Int.ofNat_lt, Int.ofNat_le, BE.val, IE.val, NE.val, ltB_iff, ltB_no, leB_iff, leB_no, Int.toNat_natCast, Nat.zero_add, Nat.add_zero, Nat.mul_one, forced, beq_iff_eq, beq_eq_false_iff_ne, bne_iff_ne, bne_eq_false_iff_eq] at *)
      all_goals first | with_reducible rfl | exact ⟨ho0, hlen, hbig⟩ | exact ⟨by trivial, hlen, hbig⟩ | exact kn (asked_ok (by assumption)).2 | exact (asked_ok (by assumption)).2 | (have ha := (asked_ok (by assumption)).2; omega) | (rw [if_pos (by assumption)]; simp only [ho0, Nat.zero_add]; done) | (rw [if_pos (by assumption), ho0, Nat.zero_add]; rfl) | (rw [if_pos (by assumption)]; rfl) | (simp_all; done)
    · cases hs
  · cases hs
end Go.Proofs.YteifneielgnniaaGreatDoor.Sh
end
section
namespace Go.Proofs.YteifneielgnniaaGreatDoor.Sh
open Go Go.Proofs
theorem steps_ok {st sp fd : Nat} {l : List Nat} {n tm : Nat} {k : Int} (h : (stepsC st sp fd l n tm k == 0) = true) : webOk st sp fd l n = true ∧ isTime tm = true ∧ isCount k = true ∧ allI (goodW st sp fd tm n l) k.toNat = true := by
  rw [beq_iff_eq] at h
  unfold stepsC at h
  split at h
  · rename_i h1
    split at h
    · rename_i h2
      split at h
      · rename_i h3
        simp only [Bool.and_eq_true] at h2
        exact ⟨h1, h2.1, h2.2, h3⟩
      · cases h
    · cases h
  · cases h
theorem steps_1 {st sp fd : Nat} {l : List Nat} {n tm : Nat} {k : Int} (h : webOk st sp fd l n = false) : stepsC st sp fd l n tm k = 1 := by simp [stepsC, h]
theorem steps_2 {st sp fd : Nat} {l : List Nat} {n tm : Nat} {k : Int} (h : webOk st sp fd l n = true) (h2 : (isTime tm && isCount k) = false) : stepsC st sp fd l n tm k = 2 := by simp [stepsC, h, h2]
theorem steps_4 {st sp fd : Nat} {l : List Nat} {n tm : Nat} {k : Int} (h : webOk st sp fd l n = true) (h2 : isTime tm = true) (h3 : isCount k = true) {i : Nat} (hi : i < k.toNat) (hg : webOk st sp fd (stepW st sp fd tm (runW st sp fd tm n l i) n) n = false) : stepsC st sp fd l n tm k = 4 := by
  have : allI (goodW st sp fd tm n l) k.toNat = false := allI_no hi hg
  simp [stepsC, h, h2, h3, this]
theorem steps_0 {st sp fd : Nat} {l : List Nat} {n tm : Nat} {k : Int} (h : webOk st sp fd l n = true) (h2 : isTime tm = true) (h3 : isCount k = true) (hg : allI (goodW st sp fd tm n l) k.toNat = true) : stepsC st sp fd l n tm k = 0 := by
  simp [stepsC, h, h2, h3, hg]
theorem count_le {k : Int} (h : isCount k = true) : 0 ≤ k ∧ k ≤ 1000 := by
  unfold isCount at h; rw [inI_iff] at h; exact h
theorem good_step {st sp fd tm n : Nat} {l : List Nat} {i : Nat} (h : allI (goodW st sp fd tm n l) i = true) (hg : webOk st sp fd (stepW st sp fd tm (runW st sp fd tm n l i) n) n = true) : allI (goodW st sp fd tm n l) (i + 1) = true := by
  simp only [allI, h, Bool.true_and]; exact hg
theorem fn13 : FnOk Tryz.prog 13 Tryz.f13 (bodyOf Tryz.f13) := ⟨Tryz.func13, rfl, by rfl⟩
def s13T : Spec := hspec fun args H => match args, H with
  | [.a [.f .f32 st, .f .f32 sp, .f .f32 fd, .sl 0 (.x o) (.x n)], .c (.f .f32 tm), .c (.i .i64 (.x k))], [some ⟨false, 0, x⟩] => match x.toFl with
    | some l => some (.t [.a [.f .f32 st, .f .f32 sp, .f .f32 fd, .sl 1 (.l 0) (.x n)], vI 0], [none, some ⟨true, 3, .fl fun _ => runW (st ()) (sp ()) (fd ()) (tm ()) (n ()) (l ()) (k ()).toNat⟩], [fun _ => (stepsC (st ()) (sp ()) (fd ()) (l ()) (n ()) (tm ()) (k ()) == 0) = true, fun _ => o () = 0 ∧ (l ()).length = 3 * n () ∧ n () ≤ 1048576])
    | _ => none
  | _, _ => none
def E13T : Env := fun g => envGetL [(12, ⟨true, s12, none⟩), (63, ⟨true, s63, none⟩), (64, ⟨true, s64, none⟩), (65, ⟨true, s65, none⟩), (66, ⟨true, s66, none⟩)] g
theorem E13Tok : EnvOk Tryz.prog E13T := envOk_cons ok12 (envOk_cons ok63 (envOk_cons ok64 (envOk_cons ok65 (envOk_cons ok66 (envOk_nil _)))))
set_option maxRecDepth 100000 in
set_option maxHeartbeats 2000000 in
theorem ok13T : Ok Tryz.prog 13 (s13T) := ok_of_wpaH (E := E13T) mixed tts E13Tok fn13 fun args H v H' o hs ho => by
  split at hs
  · rename_i st sp fd o n tm k x
    split at hs
    · rename_i l hl
      cases hs
      obtain ⟨hc, ⟨ho0, hlen, hbig⟩⟩ := ho.two
      try simp only [Unit.unit] at hc ho0 hlen hbig
      have hok := steps_ok hc
      refine ⟨_, HLe.cons (BLe.fl hl) HLe.nil, ?_⟩
      cbv
      refine Ob.mk ⟨ho0, hlen, hbig⟩ ?_
      cbv
      refine Br.mk (fun hv => ?_) (fun hv => ?_)
      · exact absurd hok.1 (by rw [show webOk (st ⟨⟩) (sp ⟨⟩) (fd ⟨⟩) (l ⟨⟩) (n ⟨⟩) = false from not_t hv]; decide)
      have hv' : webOk (st ⟨⟩) (sp ⟨⟩) (fd ⟨⟩) (l ⟨⟩) (n ⟨⟩) = true := not_f hv
      clear hv
      cbv
      by_cases htk : (isTime (tm ⟨⟩) && isCount (k ⟨⟩)) = true
      rotate_left
      · have htk' : (isTime (tm ⟨⟩) && isCount (k ⟨⟩)) = false := by simpa using htk
        exact absurd (by rw [hok.2.1, hok.2.2.1]; rfl) htk
      have ht' : isTime (tm ⟨⟩) = true := by simp only [Bool.and_eq_true] at htk; exact htk.1
      have hk' : isCount (k ⟨⟩) = true := by simp only [Bool.and_eq_true] at htk; exact htk.2
      have hk2 := count_le hk'
      repeat' first
        | (refine Br.mk (fun h => ?_) (fun h => ?_) <;> cbv)
        | (refine Ob.mk ?_ ?_; rotate_left; cbv)
      all_goals try (first | exact ⟨ho0, hlen, hbig⟩ | (exfalso; simp only [Unit.unit, Int.ofNat_lt, Int.ofNat_le, BE.val, IE.val, NE.val, ltB_iff, ltB_no, leB_iff, leB_no, Int.toNat_natCast, Nat.zero_add, Nat.add_zero, Nat.mul_one, forced, beq_iff_eq, beq_eq_false_iff_ne, bne_iff_ne, bne_eq_false_iff_eq] at *; simp_all; done))
      refine loop_rule (α := Unit → Nat) (c := ⟨tt, E13T, 1⟩)
          (fun i => fr 43 [(1, .c (.f .f32 tm)), (3, .c (.p 1 (.l 0))), (6, .c (.p 2 (.l 0))), (8, .c (.p 4 (.l 0))), (28, .c (.i .i64 (.x k))), (29, .c (.i .i64 (.x fun _ => i ())))]) (fun i => [some ⟨false, 0, .fl l⟩, some ⟨true, 0, .lit [.f .f32 st, .f .f32 sp, .f .f32 fd, .sl 0 (.x o) (.x n)]⟩, some ⟨true, 0, .lit [.f .f32 fun _ => 0, .f .f32 fun _ => 0, .f .f32 fun _ => 0, .sn]⟩, some ⟨true, 3, .fl fun _ => runW (st ()) (sp ()) (fd ()) (tm ()) (n ()) (l ()) (i ())⟩, some ⟨true, 0, .lit [.f .f32 st, .f .f32 sp, .f .f32 fd, .sl 3 (.l 0) (.x n)]⟩])
          (fun i => i () ≤ (k ()).toNat ∧ allI (goodW (st ()) (sp ()) (fd ()) (tm ()) (n ()) (l ())) (i ()) = true) (fun i => (k ()).toNat - i ()) (fun _ => (k ()).toNat + 1) ?_ ?_
      · refine .mk (fun _ => 0) ⟨Nat.zero_le _, rfl⟩ (by dsimp only; omega) ?_
        cbv
        repeat' (refine Ob.mk ?_ ?_; rotate_left)
        all_goals (try simp only [Unit.unit, Int.ofNat_lt, Int.ofNat_le, BE.val, IE.val, NE.val, ltB_iff, ltB_no, leB_iff, leB_no, Int.toNat_natCast, Nat.zero_add, Nat.add_zero, Nat.mul_one, forced, beq_iff_eq, beq_eq_false_iff_ne, bne_iff_ne, bne_eq_false_iff_eq] at *)
        all_goals first | with_reducible rfl | trivial
      · intro i hi
        have hrl := runW_len (st ⟨⟩) (sp ⟨⟩) (fd ⟨⟩) (tm ⟨⟩) (n ⟨⟩) (l ⟨⟩) hlen (i ⟨⟩)
        cbv
        refine Br.mk (fun h1 => ?_) (fun h1 => ?_)
        · have h1n : i ⟨⟩ < (k ⟨⟩).toNat := lt_k h1
          cbv
          repeat' first
            | (refine alt_t (by assumption) ?_; cbv)
            | (refine alt_f (by assumption) ?_; cbv)
            | (refine alt_b (fun h => ?_) (fun h => ?_) <;> cbv)
            | (refine Br.mk (fun h => ?_) (fun h => ?_) <;> cbv)
            | (refine Ob.mk ?_ ?_; rotate_left; cbv)
            | (refine Lex.mk (by kernel_rfl) ?_; cbv)
            | (refine Next.ren [1, 2, 5, 4] (fun _ => i () + 1) ?_ ?_ ?_)
          all_goals (try simp only [Unit.unit, Int.ofNat_lt, Int.ofNat_le, BE.val, IE.val, NE.val, ltB_iff, ltB_no, leB_iff, leB_no, Int.toNat_natCast, Nat.zero_add, Nat.add_zero, Nat.mul_one, forced, beq_iff_eq, beq_eq_false_iff_ne, bne_iff_ne, bne_eq_false_iff_eq] at *)
          all_goals (try simp only [ho0, Nat.zero_add] at *)
          all_goals first | with_reducible rfl | omega | (refine ⟨by trivial, ?_, hbig⟩; exact hrl) | (exfalso; have hg := allI_at hok.2.2.2 h1n; simp_all [goodW, runW]; done) | exact ⟨h1n, good_step hi.2 (by simp_all)⟩ | exact wrap64_nat (by omega) | (rw [hik]; done) | rfl
        · have h1n : (k ⟨⟩).toNat ≤ i ⟨⟩ := le_k h1
          have hik : i ⟨⟩ = (k ⟨⟩).toNat := Nat.le_antisymm hi.1 h1n
          cbv
          repeat' first
            | (refine alt_t (by assumption) ?_; cbv)
            | (refine alt_f (by assumption) ?_; cbv)
            | (refine alt_b (fun h => ?_) (fun h => ?_) <;> cbv)
            | (refine Br.mk (fun h => ?_) (fun h => ?_) <;> cbv)
            | (refine Ob.mk ?_ ?_; rotate_left; cbv)
            | (refine Lex.mk (by kernel_rfl) ?_; cbv)
            | (refine Next.ren [1, 2, 5, 4] (fun _ => i () + 1) ?_ ?_ ?_)
          all_goals (try simp only [Unit.unit, Int.ofNat_lt, Int.ofNat_le, BE.val, IE.val, NE.val, ltB_iff, ltB_no, leB_iff, leB_no, Int.toNat_natCast, Nat.zero_add, Nat.add_zero, Nat.mul_one, forced, beq_iff_eq, beq_eq_false_iff_ne, bne_iff_ne, bne_eq_false_iff_eq] at *)
          all_goals (try simp only [ho0, Nat.zero_add] at *)
          all_goals first | with_reducible rfl | omega | (refine ⟨by trivial, ?_, hbig⟩; exact hrl) | (exfalso; have hg := allI_at hok.2.2.2 h1n; simp_all [goodW, runW]; done) | exact ⟨h1n, good_step hi.2 (by simp_all)⟩ | exact wrap64_nat (by omega) | (rw [hik]; done) | rfl
    · cases hs
  · cases hs
def s13F : Spec := hspec fun args H => match args, H with
  | [.a [.f .f32 st, .f .f32 sp, .f .f32 fd, .sl 0 (.x o) (.x n)], .c (.f .f32 tm), .c (.i .i64 (.x k))], [some ⟨false, 0, x⟩] => match x.toFl with
    | some l => some (.t [.a [.f .f32 fun _ => 0, .f .f32 fun _ => 0, .f .f32 fun _ => 0, .sn], vI (stepsC (st ()) (sp ()) (fd ()) (l ()) (n ()) (tm ()) (k ()))], [none], [fun _ => (stepsC (st ()) (sp ()) (fd ()) (l ()) (n ()) (tm ()) (k ()) == 0) = false, fun _ => o () = 0 ∧ (l ()).length = 3 * n () ∧ n () ≤ 1048576])
    | _ => none
  | _, _ => none
def E13F : Env := fun g => envGetL [(12, ⟨true, s12, none⟩), (63, ⟨true, s63, none⟩), (64, ⟨true, s64, none⟩), (65, ⟨true, s65, none⟩), (66, ⟨true, s66, none⟩)] g
theorem E13Fok : EnvOk Tryz.prog E13F := envOk_cons ok12 (envOk_cons ok63 (envOk_cons ok64 (envOk_cons ok65 (envOk_cons ok66 (envOk_nil _)))))
set_option maxRecDepth 100000 in
set_option maxHeartbeats 2000000 in
theorem ok13F : Ok Tryz.prog 13 (s13F) := ok_of_wpaH (E := E13F) mixed tts E13Fok fn13 fun args H v H' o hs ho => by
  split at hs
  · rename_i st sp fd o n tm k x
    split at hs
    · rename_i l hl
      cases hs
      obtain ⟨hc, ⟨ho0, hlen, hbig⟩⟩ := ho.two
      try simp only [Unit.unit] at hc ho0 hlen hbig
      refine ⟨_, HLe.cons (BLe.fl hl) HLe.nil, ?_⟩
      cbv
      refine Ob.mk ⟨ho0, hlen, hbig⟩ ?_
      cbv
      refine Br.mk (fun hv => ?_) (fun hv => ?_)
      · have hv' : webOk (st ⟨⟩) (sp ⟨⟩) (fd ⟨⟩) (l ⟨⟩) (n ⟨⟩) = false := not_t hv
        cbv
        repeat' (refine Ob.mk ?_ ?_; rotate_left; cbv)
        all_goals (try simp only [Unit.unit, Int.ofNat_lt, Int.ofNat_le, BE.val, IE.val, NE.val, ltB_iff, ltB_no, leB_iff, leB_no, Int.toNat_natCast, Nat.zero_add, Nat.add_zero, Nat.mul_one, forced, beq_iff_eq, beq_eq_false_iff_ne, bne_iff_ne, bne_eq_false_iff_eq] at *)
        all_goals first | with_reducible rfl | (rw [steps_1 hv']; done)
      have hv' : webOk (st ⟨⟩) (sp ⟨⟩) (fd ⟨⟩) (l ⟨⟩) (n ⟨⟩) = true := not_f hv
      clear hv
      cbv
      by_cases htk : (isTime (tm ⟨⟩) && isCount (k ⟨⟩)) = true
      rotate_left
      · have htk' : (isTime (tm ⟨⟩) && isCount (k ⟨⟩)) = false := by simpa using htk
        repeat' first
          | (refine Br.mk (fun h => ?_) (fun h => ?_) <;> cbv)
          | (refine Ob.mk ?_ ?_; rotate_left; cbv)
        all_goals (try simp only [Unit.unit, Int.ofNat_lt, Int.ofNat_le, BE.val, IE.val, NE.val, ltB_iff, ltB_no, leB_iff, leB_no, Int.toNat_natCast, Nat.zero_add, Nat.add_zero, Nat.mul_one, forced, beq_iff_eq, beq_eq_false_iff_ne, bne_iff_ne, bne_eq_false_iff_eq] at *)
        all_goals first | with_reducible rfl | exact ⟨ho0, hlen, hbig⟩ | (rw [steps_2 hv' htk']; done) | (exfalso; simp_all; done)
      have ht' : isTime (tm ⟨⟩) = true := by simp only [Bool.and_eq_true] at htk; exact htk.1
      have hk' : isCount (k ⟨⟩) = true := by simp only [Bool.and_eq_true] at htk; exact htk.2
      have hk2 := count_le hk'
      repeat' first
        | (refine Br.mk (fun h => ?_) (fun h => ?_) <;> cbv)
        | (refine Ob.mk ?_ ?_; rotate_left; cbv)
      all_goals try (first | exact ⟨ho0, hlen, hbig⟩ | (exfalso; simp only [Unit.unit, Int.ofNat_lt, Int.ofNat_le, BE.val, IE.val, NE.val, ltB_iff, ltB_no, leB_iff, leB_no, Int.toNat_natCast, Nat.zero_add, Nat.add_zero, Nat.mul_one, forced, beq_iff_eq, beq_eq_false_iff_ne, bne_iff_ne, bne_eq_false_iff_eq] at *; simp_all; done))
      refine loop_rule (α := Unit → Nat) (c := ⟨tt, E13F, 1⟩)
          (fun i => fr 43 [(1, .c (.f .f32 tm)), (3, .c (.p 1 (.l 0))), (6, .c (.p 2 (.l 0))), (8, .c (.p 4 (.l 0))), (28, .c (.i .i64 (.x k))), (29, .c (.i .i64 (.x fun _ => i ())))]) (fun i => [some ⟨false, 0, .fl l⟩, some ⟨true, 0, .lit [.f .f32 st, .f .f32 sp, .f .f32 fd, .sl 0 (.x o) (.x n)]⟩, some ⟨true, 0, .lit [.f .f32 fun _ => 0, .f .f32 fun _ => 0, .f .f32 fun _ => 0, .sn]⟩, some ⟨true, 3, .fl fun _ => runW (st ()) (sp ()) (fd ()) (tm ()) (n ()) (l ()) (i ())⟩, some ⟨true, 0, .lit [.f .f32 st, .f .f32 sp, .f .f32 fd, .sl 3 (.l 0) (.x n)]⟩])
          (fun i => i () ≤ (k ()).toNat ∧ allI (goodW (st ()) (sp ()) (fd ()) (tm ()) (n ()) (l ())) (i ()) = true) (fun i => (k ()).toNat - i ()) (fun _ => (k ()).toNat + 1) ?_ ?_
      · refine .mk (fun _ => 0) ⟨Nat.zero_le _, rfl⟩ (by dsimp only; omega) ?_
        cbv
        repeat' (refine Ob.mk ?_ ?_; rotate_left)
        all_goals (try simp only [Unit.unit, Int.ofNat_lt, Int.ofNat_le, BE.val, IE.val, NE.val, ltB_iff, ltB_no, leB_iff, leB_no, Int.toNat_natCast, Nat.zero_add, Nat.add_zero, Nat.mul_one, forced, beq_iff_eq, beq_eq_false_iff_ne, bne_iff_ne, bne_eq_false_iff_eq] at *)
        all_goals first | with_reducible rfl | trivial
      · intro i hi
        have hrl := runW_len (st ⟨⟩) (sp ⟨⟩) (fd ⟨⟩) (tm ⟨⟩) (n ⟨⟩) (l ⟨⟩) hlen (i ⟨⟩)
        cbv
        refine Br.mk (fun h1 => ?_) (fun h1 => ?_)
        · have h1n : i ⟨⟩ < (k ⟨⟩).toNat := lt_k h1
          cbv
          repeat' first
            | (refine alt_t (by assumption) ?_; cbv)
            | (refine alt_f (by assumption) ?_; cbv)
            | (refine alt_b (fun h => ?_) (fun h => ?_) <;> cbv)
            | (refine Br.mk (fun h => ?_) (fun h => ?_) <;> cbv)
            | (refine Ob.mk ?_ ?_; rotate_left; cbv)
            | (refine Lex.mk (by kernel_rfl) ?_; cbv)
            | (refine Next.ren [1, 2, 5, 4] (fun _ => i () + 1) ?_ ?_ ?_)
          all_goals (try simp only [Unit.unit, Int.ofNat_lt, Int.ofNat_le, BE.val, IE.val, NE.val, ltB_iff, ltB_no, leB_iff, leB_no, Int.toNat_natCast, Nat.zero_add, Nat.add_zero, Nat.mul_one, forced, beq_iff_eq, beq_eq_false_iff_ne, bne_iff_ne, bne_eq_false_iff_eq] at *)
          all_goals (try simp only [ho0, Nat.zero_add] at *)
          all_goals first | with_reducible rfl | omega | (refine ⟨by trivial, ?_, hbig⟩; exact hrl) | exact (steps_4 hv' ht' hk' h1n (by simp_all)).symm | exact ⟨h1n, good_step hi.2 (by simp_all)⟩ | exact wrap64_nat (by omega) | (exfalso; rw [hik] at hi; have h0 := steps_0 hv' ht' hk' hi.2; simp_all; done) | rfl
        · have h1n : (k ⟨⟩).toNat ≤ i ⟨⟩ := le_k h1
          have hik : i ⟨⟩ = (k ⟨⟩).toNat := Nat.le_antisymm hi.1 h1n
          cbv
          repeat' first
            | (refine alt_t (by assumption) ?_; cbv)
            | (refine alt_f (by assumption) ?_; cbv)
            | (refine alt_b (fun h => ?_) (fun h => ?_) <;> cbv)
            | (refine Br.mk (fun h => ?_) (fun h => ?_) <;> cbv)
            | (refine Ob.mk ?_ ?_; rotate_left; cbv)
            | (refine Lex.mk (by kernel_rfl) ?_; cbv)
            | (refine Next.ren [1, 2, 5, 4] (fun _ => i () + 1) ?_ ?_ ?_)
          all_goals (try simp only [Unit.unit, Int.ofNat_lt, Int.ofNat_le, BE.val, IE.val, NE.val, ltB_iff, ltB_no, leB_iff, leB_no, Int.toNat_natCast, Nat.zero_add, Nat.add_zero, Nat.mul_one, forced, beq_iff_eq, beq_eq_false_iff_ne, bne_iff_ne, bne_eq_false_iff_eq] at *)
          all_goals (try simp only [ho0, Nat.zero_add] at *)
          all_goals first | with_reducible rfl | omega | (refine ⟨by trivial, ?_, hbig⟩; exact hrl) | exact (steps_4 hv' ht' hk' h1n (by simp_all)).symm | exact ⟨h1n, good_step hi.2 (by simp_all)⟩ | exact wrap64_nat (by omega) | (exfalso; rw [hik] at hi; have h0 := steps_0 hv' ht' hk' hi.2; simp_all; done) | rfl
    · cases hs
  · cases hs
end Go.Proofs.YteifneielgnniaaGreatDoor.Sh
end
section
namespace Go.Proofs.YteifneielgnniaaGreatDoor.Sh
open Go Go.Proofs
theorem fn23 : FnOk Tryz.prog 23 Tryz.f23 (bodyOf Tryz.f23) := ⟨Tryz.func23, rfl, by rfl⟩
def s23T : Spec := hspec fun args H => match args, H with
  | [.a [.f .f32 st, .f .f32 sp, .f .f32 fd, .sl 0 (.x o) (.x n)], .c (.f .f32 tm)], [some ⟨false, 0, x⟩] => match x.toFl with
    | some l => some (.t [.a [.f .f32 st, .f .f32 sp, .f .f32 fd, .sl 1 (.l 0) (.x n)], vI 0], [none, some ⟨true, 3, .fl fun _ => runW (st ()) (sp ()) (fd ()) (tm ()) (n ()) (l ()) 1⟩], [fun _ => (stepsC (st ()) (sp ()) (fd ()) (l ()) (n ()) (tm ()) 1 == 0) = true, fun _ => o () = 0 ∧ (l ()).length = 3 * n () ∧ n () ≤ 1048576])
    | _ => none
  | _, _ => none
def E23T : Env := fun g => envGetL [(13, ⟨true, sNo, some (s13T, s13F)⟩)] g
theorem E23Tok : EnvOk Tryz.prog E23T := envOk_alt ok13T ok13F (envOk_nil _)
set_option maxRecDepth 100000 in
set_option maxHeartbeats 2000000 in
theorem ok23T : Ok Tryz.prog 23 (s23T) := ok_of_wpaH (E := E23T) mixed tts E23Tok fn23 fun args H v H' o hs ho => by
  split at hs
  · rename_i st sp fd o n tm x
    split at hs
    · rename_i l hl
      cases hs
      obtain ⟨hc, ⟨ho0, hlen, hbig⟩⟩ := ho.two
      try simp only [Unit.unit] at hc ho0 hlen hbig
      refine ⟨_, HLe.cons (BLe.fl hl) HLe.nil, ?_⟩
      cbv
      repeat' first
        | (refine alt_t (by assumption) ?_; cbv)
        | (refine alt_f (by assumption) ?_; cbv)
        | (refine alt_b (fun h => ?_) (fun h => ?_) <;> cbv)
        | (refine Br.mk (fun h => ?_) (fun h => ?_) <;> cbv)
        | (refine Ob.mk ?_ ?_; rotate_left; cbv)
        | (refine Lex.mk (by kernel_rfl) ?_; cbv)
      all_goals (try simp only [Unit.unit, Int.ofNat_lt, Int.ofNat_le, BE.val, IE.val, NE.val, ltB_iff, ltB_no, leB_iff, leB_no, Int.toNat_natCast, Nat.zero_add, Nat.add_zero, Nat.mul_one, forced, beq_iff_eq, beq_eq_false_iff_ne, bne_iff_ne, bne_eq_false_iff_eq] at *)
      all_goals first | with_reducible rfl | exact ⟨ho0, hlen, hbig⟩ | exact ⟨by trivial, hlen, hbig⟩ | exact hc | (simp_all; done)
    · cases hs
  · cases hs
def s23F : Spec := hspec fun args H => match args, H with
  | [.a [.f .f32 st, .f .f32 sp, .f .f32 fd, .sl 0 (.x o) (.x n)], .c (.f .f32 tm)], [some ⟨false, 0, x⟩] => match x.toFl with
    | some l => some (.t [.a [.f .f32 fun _ => 0, .f .f32 fun _ => 0, .f .f32 fun _ => 0, .sn], vI (stepsC (st ()) (sp ()) (fd ()) (l ()) (n ()) (tm ()) 1)], [none], [fun _ => (stepsC (st ()) (sp ()) (fd ()) (l ()) (n ()) (tm ()) 1 == 0) = false, fun _ => o () = 0 ∧ (l ()).length = 3 * n () ∧ n () ≤ 1048576])
    | _ => none
  | _, _ => none
def E23F : Env := fun g => envGetL [(13, ⟨true, sNo, some (s13T, s13F)⟩)] g
theorem E23Fok : EnvOk Tryz.prog E23F := envOk_alt ok13T ok13F (envOk_nil _)
set_option maxRecDepth 100000 in
set_option maxHeartbeats 2000000 in
theorem ok23F : Ok Tryz.prog 23 (s23F) := ok_of_wpaH (E := E23F) mixed tts E23Fok fn23 fun args H v H' o hs ho => by
  split at hs
  · rename_i st sp fd o n tm x
    split at hs
    · rename_i l hl
      cases hs
      obtain ⟨hc, ⟨ho0, hlen, hbig⟩⟩ := ho.two
      try simp only [Unit.unit] at hc ho0 hlen hbig
      refine ⟨_, HLe.cons (BLe.fl hl) HLe.nil, ?_⟩
      cbv
      repeat' first
        | (refine alt_t (by assumption) ?_; cbv)
        | (refine alt_f (by assumption) ?_; cbv)
        | (refine alt_b (fun h => ?_) (fun h => ?_) <;> cbv)
        | (refine Br.mk (fun h => ?_) (fun h => ?_) <;> cbv)
        | (refine Ob.mk ?_ ?_; rotate_left; cbv)
        | (refine Lex.mk (by kernel_rfl) ?_; cbv)
      all_goals (try simp only [Unit.unit, Int.ofNat_lt, Int.ofNat_le, BE.val, IE.val, NE.val, ltB_iff, ltB_no, leB_iff, leB_no, Int.toNat_natCast, Nat.zero_add, Nat.add_zero, Nat.mul_one, forced, beq_iff_eq, beq_eq_false_iff_ne, bne_iff_ne, bne_eq_false_iff_eq] at *)
      all_goals first | with_reducible rfl | exact ⟨ho0, hlen, hbig⟩ | exact ⟨by trivial, hlen, hbig⟩ | exact hc | (simp_all; done)
    · cases hs
  · cases hs
end Go.Proofs.YteifneielgnniaaGreatDoor.Sh
end
section
namespace Go.Proofs.YteifneielgnniaaGreatDoor.Sh
open Go Go.Proofs
theorem given_0 {a b : Bool} (h : a = true ∧ b = true) : givenC a b = 0 := by simp [givenC, h.1, h.2]
theorem given_no {a b : Bool} (h : ¬ (a = true ∧ b = true)) : givenC a b ≠ 0 := by
  unfold givenC
  split
  · rename_i ha
    split
    · rename_i hb; exact absurd ⟨ha, hb⟩ h
    · decide
  · decide
theorem steps_g {st sp fd : Nat} {l : List Nat} {n tm : Nat} {k : Int} {b : Bool} (hb : b = (isTime tm && isCount k)) (h : ¬ (webOk st sp fd l n = true ∧ b = true)) : stepsC st sp fd l n tm k = givenC (webOk st sp fd l n) b := by
  unfold stepsC givenC
  rw [← hb]
  split
  · rename_i ha
    split
    · rename_i hb; exact absurd ⟨ha, hb⟩ h
    · rfl
  · rfl
theorem fn22 : FnOk Tryz.prog 22 Tryz.f22 (bodyOf Tryz.f22) := ⟨Tryz.func22, rfl, by rfl⟩
def s22T : Spec := hspec fun args H => match args, H with
  | [.a [.f .f32 st, .f .f32 sp, .f .f32 fd, .sl 0 (.x o) (.x n)], .c (.f .f32 tm), .c (.i .i64 (.x k))], [some ⟨false, 0, x⟩] => match x.toFl with
    | some l => some (.t [.a [.f .f32 st, .f .f32 sp, .f .f32 fd, .sl 1 (.l 0) (.x n)], vI 0], [none, some ⟨true, 3, .fl fun _ => runW (st ()) (sp ()) (fd ()) (tm ()) (n ()) (l ()) (k ()).toNat⟩], [fun _ => (stepsC (st ()) (sp ()) (fd ()) (l ()) (n ()) (tm ()) (k ()) == 0) = true, fun _ => o () = 0 ∧ (l ()).length = 3 * n () ∧ n () ≤ 1048576])
    | _ => none
  | _, _ => none
def E22T : Env := fun g => envGetL [(76, ⟨true, s76, none⟩), (77, ⟨true, s77, none⟩), (75, ⟨true, s75, none⟩), (78, ⟨true, s78, none⟩), (79, ⟨true, sNo, some (s79T, s79F)⟩)] g
theorem E22Tok : EnvOk Tryz.prog E22T := envOk_cons ok76 (envOk_cons ok77 (envOk_cons ok75 (envOk_cons ok78 (envOk_alt ok79T ok79F (envOk_nil _)))))
set_option maxRecDepth 100000 in
set_option maxHeartbeats 2000000 in
theorem ok22T : Ok Tryz.prog 22 (s22T) := ok_of_wpaH (E := E22T) mixed tts E22Tok fn22 fun args H v H' o hs ho => by
  split at hs
  · rename_i st sp fd o n tm k x
    split at hs
    · rename_i l hl
      cases hs
      obtain ⟨hc, ⟨ho0, hlen, hbig⟩⟩ := ho.two
      try simp only [Unit.unit] at hc ho0 hlen hbig
      have hok := steps_ok hc
      refine ⟨_, HLe.cons (BLe.fl hl) HLe.nil, ?_⟩
      cbv
      repeat' first
        | (refine Br.mk (fun h => ?_) (fun h => ?_) <;> cbv)
        | (refine Ob.mk ?_ ?_; rotate_left; cbv)
      all_goals try (first | exact ⟨ho0, hlen, hbig⟩ | (exfalso; simp only [Unit.unit, Int.ofNat_lt, Int.ofNat_le, BE.val, IE.val, NE.val, ltB_iff, ltB_no, leB_iff, leB_no, Int.toNat_natCast, Nat.zero_add, Nat.add_zero, Nat.mul_one, forced, beq_iff_eq, beq_eq_false_iff_ne, bne_iff_ne, bne_eq_false_iff_eq] at *; simp_all; done))
      refine loop_rule (α := (Unit → Nat) ⊕ ((Unit → Nat) × (Unit → Int))) (c := ⟨tt, E22T, 1⟩)
          (fun a => match a with | .inl i => fr 38 [(1, .c (.f .f32 tm)), (2, .c (.i .i64 (.x k))), (3, .c (.p 1 (.l 0))), (6, .c (.p 2 (.l 0))), (8, .c (.i .i64 (.l 0))), (9, .c (.p 4 (.l 0))), (10, .c (.i .i64 (.x fun _ => i ())))] | .inr q => fr 38 [(2, .c (.i .i64 (.x k))), (6, .c (.p 2 (.l 0))), (8, .c (.i .i64 (.x fun _ => q.2 ()))), (10, .c (.i .i64 (.x fun _ => q.1 ())))]) (fun a => match a with | .inl i => [some ⟨false, 0, .fl l⟩, some ⟨true, 0, .lit [.f .f32 st, .f .f32 sp, .f .f32 fd, .sl 0 (.x o) (.x n)]⟩, some ⟨true, 0, .lit [.f .f32 fun _ => 0, .f .f32 fun _ => 0, .f .f32 fun _ => 0, .sn]⟩, some ⟨true, 3, .fl fun _ => runW (st ()) (sp ()) (fd ()) (tm ()) (n ()) (l ()) (i ())⟩, some ⟨true, 0, .lit [.f .f32 st, .f .f32 sp, .f .f32 fd, .sl 3 (.l 0) (.x n)]⟩] | .inr q => [some ⟨false, 0, .fl l⟩, none, some ⟨true, 0, .lit [.f .f32 fun _ => 0, .f .f32 fun _ => 0, .f .f32 fun _ => 0, .sn]⟩])
          (fun a => match a with | .inl i => (i () ≤ (k ()).toNat ∧ allI (goodW (st ()) (sp ()) (fd ()) (tm ()) (n ()) (l ())) (i ()) = true) ∧ (webOk (st ()) (sp ()) (fd ()) (l ()) (n ()) = true ∧ isTime (tm ()) = true ∧ isCount (k ()) = true) | .inr q => q.2 () ≠ 0 ∧ stepsC (st ()) (sp ()) (fd ()) (l ()) (n ()) (tm ()) (k ()) = q.2 ()) (fun a => match a with | .inl i => (k ()).toNat - i () + 1 | .inr q => 0) (fun _ => (k ()).toNat + 2) ?_ ?_
      · refine .mk (.inl fun _ => 0) ⟨⟨Nat.zero_le _, rfl⟩, hok.1, hok.2.1, hok.2.2.1⟩ (by dsimp only; omega) ?_
        cbv
        repeat' (refine Ob.mk ?_ ?_; rotate_left)
        all_goals (try simp only [Unit.unit, Int.ofNat_lt, Int.ofNat_le, BE.val, IE.val, NE.val, ltB_iff, ltB_no, leB_iff, leB_no, Int.toNat_natCast, Nat.zero_add, Nat.add_zero, Nat.mul_one, forced, beq_iff_eq, beq_eq_false_iff_ne, bne_iff_ne, bne_eq_false_iff_eq] at *)
        all_goals first | with_reducible rfl | trivial | exact given_0 (by simp_all) | (rw [given_0 (by simp_all)]; done)
      · rintro (i | ⟨i, c⟩) hi
        · have hrl := runW_len (st ⟨⟩) (sp ⟨⟩) (fd ⟨⟩) (tm ⟨⟩) (n ⟨⟩) (l ⟨⟩) hlen (i ⟨⟩)
          have hk2 : 0 ≤ k ⟨⟩ ∧ k ⟨⟩ ≤ 1000 := count_le hi.2.2.2
          cbv
          refine Br.mk (fun h1 => ?_) (fun h1 => ?_)
          · have h1n : i ⟨⟩ < (k ⟨⟩).toNat := lt_k h1
            cbv
            repeat' (refine Ob.mk ?_ ?_; rotate_left; cbv)
            refine alt_b (fun h => ?_) (fun h => ?_)
            · cbv
              repeat' first | (refine Ob.mk ?_ ?_; rotate_left; cbv) | (refine Lex.mk (by kernel_rfl) ?_; cbv) | (refine Next.ren [1, 2, 5, 4] (.inl fun _ => i () + 1) ?_ ?_ ?_)
              all_goals (try simp only [Unit.unit, Int.ofNat_lt, Int.ofNat_le, BE.val, IE.val, NE.val, ltB_iff, ltB_no, leB_iff, leB_no, Int.toNat_natCast, Nat.zero_add, Nat.add_zero, Nat.mul_one, forced, beq_iff_eq, beq_eq_false_iff_ne, bne_iff_ne, bne_eq_false_iff_eq] at *)
              all_goals (try simp only [ho0, Nat.zero_add] at *)
              all_goals first | with_reducible rfl | (refine ⟨by trivial, ?_, hbig⟩; exact hrl) | exact wrap64_nat (by omega) | omega | (exfalso; have hg := allI_at hok.2.2.2 h1n; simp_all [goodW, runW]; done) | exact ⟨⟨h1n, good_step hi.1.2 (by assumption)⟩, hi.2⟩ | (rw [hik]; done) | rfl
            · cbv
              repeat' first | (refine Ob.mk ?_ ?_; rotate_left; cbv) | (refine Lex.mk (by kernel_rfl) ?_; cbv) | (refine Next.mk (.inr (fun _ => i () + 1, fun _ => 4)) ?_ ?_ ?_)
              all_goals (try simp only [Unit.unit, Int.ofNat_lt, Int.ofNat_le, BE.val, IE.val, NE.val, ltB_iff, ltB_no, leB_iff, leB_no, Int.toNat_natCast, Nat.zero_add, Nat.add_zero, Nat.mul_one, forced, beq_iff_eq, beq_eq_false_iff_ne, bne_iff_ne, bne_eq_false_iff_eq] at *)
              all_goals (try simp only [ho0, Nat.zero_add] at *)
              all_goals first | with_reducible rfl | (refine ⟨by trivial, ?_, hbig⟩; exact hrl) | exact wrap64_nat (by omega) | omega | (exfalso; have hg := allI_at hok.2.2.2 h1n; simp_all [goodW, runW]; done) | exact ⟨⟨h1n, good_step hi.1.2 (by assumption)⟩, hi.2⟩ | (rw [hik]; done) | rfl
            all_goals (try simp only [Unit.unit, Int.ofNat_lt, Int.ofNat_le, BE.val, IE.val, NE.val, ltB_iff, ltB_no, leB_iff, leB_no, Int.toNat_natCast, Nat.zero_add, Nat.add_zero, Nat.mul_one, forced, beq_iff_eq, beq_eq_false_iff_ne, bne_iff_ne, bne_eq_false_iff_eq] at *)
            all_goals first | (refine ⟨by trivial, ?_, hbig⟩; exact hrl) | exact wrap64_nat (by omega) | omega | (exfalso; have hg := allI_at hok.2.2.2 h1n; simp_all [goodW, runW]; done) | exact ⟨⟨h1n, good_step hi.1.2 (by assumption)⟩, hi.2⟩ | (rw [hik]; done) | rfl
          · have h1n : (k ⟨⟩).toNat ≤ i ⟨⟩ := le_k h1
            have hik : i ⟨⟩ = (k ⟨⟩).toNat := Nat.le_antisymm hi.1.1 h1n
            cbv
            repeat' first | (refine Ob.mk ?_ ?_; rotate_left; cbv) | (refine Br.mk (fun h => ?_) (fun h => ?_) <;> cbv)
            all_goals (try simp only [Unit.unit, Int.ofNat_lt, Int.ofNat_le, BE.val, IE.val, NE.val, ltB_iff, ltB_no, leB_iff, leB_no, Int.toNat_natCast, Nat.zero_add, Nat.add_zero, Nat.mul_one, forced, beq_iff_eq, beq_eq_false_iff_ne, bne_iff_ne, bne_eq_false_iff_eq] at *)
            all_goals first | with_reducible rfl | (refine ⟨by trivial, ?_, hbig⟩; exact hrl) | exact wrap64_nat (by omega) | omega | (exfalso; have hg := allI_at hok.2.2.2 h1n; simp_all [goodW, runW]; done) | exact ⟨⟨h1n, good_step hi.1.2 (by assumption)⟩, hi.2⟩ | (rw [hik]; done) | rfl
        · have hi1 : c ⟨⟩ ≠ 0 := hi.1
          have hi2 : stepsC (st ⟨⟩) (sp ⟨⟩) (fd ⟨⟩) (l ⟨⟩) (n ⟨⟩) (tm ⟨⟩) (k ⟨⟩) = c ⟨⟩ := hi.2
          exact absurd (hi2.symm.trans (beq_iff_eq.1 hc)) hi1
    · cases hs
  · cases hs
def s22F : Spec := hspec fun args H => match args, H with
  | [.a [.f .f32 st, .f .f32 sp, .f .f32 fd, .sl 0 (.x o) (.x n)], .c (.f .f32 tm), .c (.i .i64 (.x k))], [some ⟨false, 0, x⟩] => match x.toFl with
    | some l => some (.t [.a [.f .f32 fun _ => 0, .f .f32 fun _ => 0, .f .f32 fun _ => 0, .sn], vI (stepsC (st ()) (sp ()) (fd ()) (l ()) (n ()) (tm ()) (k ()))], [none], [fun _ => (stepsC (st ()) (sp ()) (fd ()) (l ()) (n ()) (tm ()) (k ()) == 0) = false, fun _ => o () = 0 ∧ (l ()).length = 3 * n () ∧ n () ≤ 1048576])
    | _ => none
  | _, _ => none
def E22F : Env := fun g => envGetL [(76, ⟨true, s76, none⟩), (77, ⟨true, s77, none⟩), (75, ⟨true, s75, none⟩), (78, ⟨true, s78, none⟩), (79, ⟨true, sNo, some (s79T, s79F)⟩)] g
theorem E22Fok : EnvOk Tryz.prog E22F := envOk_cons ok76 (envOk_cons ok77 (envOk_cons ok75 (envOk_cons ok78 (envOk_alt ok79T ok79F (envOk_nil _)))))
set_option maxRecDepth 100000 in
set_option maxHeartbeats 2000000 in
theorem ok22F : Ok Tryz.prog 22 (s22F) := ok_of_wpaH (E := E22F) mixed tts E22Fok fn22 fun args H v H' o hs ho => by
  split at hs
  · rename_i st sp fd o n tm k x
    split at hs
    · rename_i l hl
      cases hs
      obtain ⟨hc, ⟨ho0, hlen, hbig⟩⟩ := ho.two
      try simp only [Unit.unit] at hc ho0 hlen hbig
      refine ⟨_, HLe.cons (BLe.fl hl) HLe.nil, ?_⟩
      cbv
      repeat' first
        | (refine Br.mk (fun h => ?_) (fun h => ?_) <;> cbv)
        | (refine Ob.mk ?_ ?_; rotate_left; cbv)
      all_goals try (first | exact ⟨ho0, hlen, hbig⟩ | (exfalso; simp only [Unit.unit, Int.ofNat_lt, Int.ofNat_le, BE.val, IE.val, NE.val, ltB_iff, ltB_no, leB_iff, leB_no, Int.toNat_natCast, Nat.zero_add, Nat.add_zero, Nat.mul_one, forced, beq_iff_eq, beq_eq_false_iff_ne, bne_iff_ne, bne_eq_false_iff_eq] at *; simp_all; done))
      · by_cases hno : ¬ (webOk (st ⟨⟩) (sp ⟨⟩) (fd ⟨⟩) (l ⟨⟩) (n ⟨⟩) = true ∧ isCount (k ⟨⟩) = true)
        · refine loop_rule (α := (Unit → Nat) ⊕ ((Unit → Nat) × (Unit → Int))) (c := ⟨tt, E22F, 1⟩)
              (fun a => match a with | .inl i => fr 38 [(1, .c (.f .f32 tm)), (2, .c (.i .i64 (.x k))), (3, .c (.p 1 (.l 0))), (6, .c (.p 2 (.l 0))), (8, .c (.i .i64 (.l 0))), (9, .c (.p 4 (.l 0))), (10, .c (.i .i64 (.x fun _ => i ())))] | .inr q => fr 38 [(2, .c (.i .i64 (.x k))), (6, .c (.p 2 (.l 0))), (8, .c (.i .i64 (.x fun _ => q.2 ()))), (10, .c (.i .i64 (.x fun _ => q.1 ())))]) (fun a => match a with | .inl i => [some ⟨false, 0, .fl l⟩, some ⟨true, 0, .lit [.f .f32 st, .f .f32 sp, .f .f32 fd, .sl 0 (.x o) (.x n)]⟩, some ⟨true, 0, .lit [.f .f32 fun _ => 0, .f .f32 fun _ => 0, .f .f32 fun _ => 0, .sn]⟩, some ⟨true, 3, .fl fun _ => runW (st ()) (sp ()) (fd ()) (tm ()) (n ()) (l ()) (i ())⟩, some ⟨true, 0, .lit [.f .f32 st, .f .f32 sp, .f .f32 fd, .sl 3 (.l 0) (.x n)]⟩] | .inr q => [some ⟨false, 0, .fl l⟩, none, some ⟨true, 0, .lit [.f .f32 fun _ => 0, .f .f32 fun _ => 0, .f .f32 fun _ => 0, .sn]⟩])
              (fun a => match a with | .inl i => (i () ≤ (k ()).toNat ∧ allI (goodW (st ()) (sp ()) (fd ()) (tm ()) (n ()) (l ())) (i ()) = true) ∧ (webOk (st ()) (sp ()) (fd ()) (l ()) (n ()) = true ∧ isTime (tm ()) = true ∧ isCount (k ()) = true) | .inr q => q.2 () ≠ 0 ∧ stepsC (st ()) (sp ()) (fd ()) (l ()) (n ()) (tm ()) (k ()) = q.2 ()) (fun a => match a with | .inl i => (k ()).toNat - i () + 1 | .inr q => 0) (fun _ => (k ()).toNat + 2) ?_ ?_
          · refine .mk (.inr (fun _ => 0, fun _ => givenC (webOk (st ⟨⟩) (sp ⟨⟩) (fd ⟨⟩) (l ⟨⟩) (n ⟨⟩)) (isCount (k ⟨⟩)))) ⟨given_no hno, steps_g (by simp_all) hno⟩ (by dsimp only; omega) ?_
            cbv
            repeat' (refine Ob.mk ?_ ?_; rotate_left)
            all_goals (try simp only [Unit.unit, Int.ofNat_lt, Int.ofNat_le, BE.val, IE.val, NE.val, ltB_iff, ltB_no, leB_iff, leB_no, Int.toNat_natCast, Nat.zero_add, Nat.add_zero, Nat.mul_one, forced, beq_iff_eq, beq_eq_false_iff_ne, bne_iff_ne, bne_eq_false_iff_eq] at *)
            all_goals first | with_reducible rfl | trivial
          · rintro (i | ⟨i, c⟩) hi
            · have hrl := runW_len (st ⟨⟩) (sp ⟨⟩) (fd ⟨⟩) (tm ⟨⟩) (n ⟨⟩) (l ⟨⟩) hlen (i ⟨⟩)
              have hk2 : 0 ≤ k ⟨⟩ ∧ k ⟨⟩ ≤ 1000 := count_le hi.2.2.2
              cbv
              refine Br.mk (fun h1 => ?_) (fun h1 => ?_)
              · have h1n : i ⟨⟩ < (k ⟨⟩).toNat := lt_k h1
                cbv
                repeat' (refine Ob.mk ?_ ?_; rotate_left; cbv)
                refine alt_b (fun h => ?_) (fun h => ?_)
                · cbv
                  repeat' first | (refine Ob.mk ?_ ?_; rotate_left; cbv) | (refine Lex.mk (by kernel_rfl) ?_; cbv) | (refine Next.ren [1, 2, 5, 4] (.inl fun _ => i () + 1) ?_ ?_ ?_)
                  all_goals (try simp only [Unit.unit, Int.ofNat_lt, Int.ofNat_le, BE.val, IE.val, NE.val, ltB_iff, ltB_no, leB_iff, leB_no, Int.toNat_natCast, Nat.zero_add, Nat.add_zero, Nat.mul_one, forced, beq_iff_eq, beq_eq_false_iff_ne, bne_iff_ne, bne_eq_false_iff_eq] at *)
                  all_goals (try simp only [ho0, Nat.zero_add] at *)
                  all_goals first | with_reducible rfl | (refine ⟨by trivial, ?_, hbig⟩; exact hrl) | exact wrap64_nat (by omega) | omega | exact ⟨by decide, steps_4 hi.2.1 hi.2.2.1 hi.2.2.2 h1n (by assumption)⟩ | exact ⟨⟨h1n, good_step hi.1.2 (by assumption)⟩, hi.2⟩ | (exfalso; have hg := hi.1.2; rw [hik] at hg; have h0 := steps_0 hi.2.1 hi.2.2.1 hi.2.2.2 hg; simp_all; done) | rfl
                · cbv
                  repeat' first | (refine Ob.mk ?_ ?_; rotate_left; cbv) | (refine Lex.mk (by kernel_rfl) ?_; cbv) | (refine Next.mk (.inr (fun _ => i () + 1, fun _ => 4)) ?_ ?_ ?_)
                  all_goals (try simp only [Unit.unit, Int.ofNat_lt, Int.ofNat_le, BE.val, IE.val, NE.val, ltB_iff, ltB_no, leB_iff, leB_no, Int.toNat_natCast, Nat.zero_add, Nat.add_zero, Nat.mul_one, forced, beq_iff_eq, beq_eq_false_iff_ne, bne_iff_ne, bne_eq_false_iff_eq] at *)
                  all_goals (try simp only [ho0, Nat.zero_add] at *)
                  all_goals first | with_reducible rfl | (refine ⟨by trivial, ?_, hbig⟩; exact hrl) | exact wrap64_nat (by omega) | omega | exact ⟨by decide, steps_4 hi.2.1 hi.2.2.1 hi.2.2.2 h1n (by assumption)⟩ | exact ⟨⟨h1n, good_step hi.1.2 (by assumption)⟩, hi.2⟩ | (exfalso; have hg := hi.1.2; rw [hik] at hg; have h0 := steps_0 hi.2.1 hi.2.2.1 hi.2.2.2 hg; simp_all; done) | rfl
                all_goals (try simp only [Unit.unit, Int.ofNat_lt, Int.ofNat_le, BE.val, IE.val, NE.val, ltB_iff, ltB_no, leB_iff, leB_no, Int.toNat_natCast, Nat.zero_add, Nat.add_zero, Nat.mul_one, forced, beq_iff_eq, beq_eq_false_iff_ne, bne_iff_ne, bne_eq_false_iff_eq] at *)
                all_goals first | (refine ⟨by trivial, ?_, hbig⟩; exact hrl) | exact wrap64_nat (by omega) | omega | exact ⟨by decide, steps_4 hi.2.1 hi.2.2.1 hi.2.2.2 h1n (by assumption)⟩ | exact ⟨⟨h1n, good_step hi.1.2 (by assumption)⟩, hi.2⟩ | (exfalso; have hg := hi.1.2; rw [hik] at hg; have h0 := steps_0 hi.2.1 hi.2.2.1 hi.2.2.2 hg; simp_all; done) | rfl
              · have h1n : (k ⟨⟩).toNat ≤ i ⟨⟩ := le_k h1
                have hik : i ⟨⟩ = (k ⟨⟩).toNat := Nat.le_antisymm hi.1.1 h1n
                cbv
                repeat' first | (refine Ob.mk ?_ ?_; rotate_left; cbv) | (refine Br.mk (fun h => ?_) (fun h => ?_) <;> cbv)
                all_goals (try simp only [Unit.unit, Int.ofNat_lt, Int.ofNat_le, BE.val, IE.val, NE.val, ltB_iff, ltB_no, leB_iff, leB_no, Int.toNat_natCast, Nat.zero_add, Nat.add_zero, Nat.mul_one, forced, beq_iff_eq, beq_eq_false_iff_ne, bne_iff_ne, bne_eq_false_iff_eq] at *)
                all_goals first | with_reducible rfl | (refine ⟨by trivial, ?_, hbig⟩; exact hrl) | exact wrap64_nat (by omega) | omega | exact ⟨by decide, steps_4 hi.2.1 hi.2.2.1 hi.2.2.2 h1n (by assumption)⟩ | exact ⟨⟨h1n, good_step hi.1.2 (by assumption)⟩, hi.2⟩ | (exfalso; have hg := hi.1.2; rw [hik] at hg; have h0 := steps_0 hi.2.1 hi.2.2.1 hi.2.2.2 hg; simp_all; done) | rfl
            · have hi1 : c ⟨⟩ ≠ 0 := hi.1
              have hi2 : stepsC (st ⟨⟩) (sp ⟨⟩) (fd ⟨⟩) (l ⟨⟩) (n ⟨⟩) (tm ⟨⟩) (k ⟨⟩) = c ⟨⟩ := hi.2
              skip
              cbv
              repeat' first
                | (refine Br.mk (fun h => ?_) (fun h => ?_) <;> cbv)
                | (refine Ob.mk ?_ ?_; rotate_left; cbv)
              all_goals (try simp only [Unit.unit, Int.ofNat_lt, Int.ofNat_le, BE.val, IE.val, NE.val, ltB_iff, ltB_no, leB_iff, leB_no, Int.toNat_natCast, Nat.zero_add, Nat.add_zero, Nat.mul_one, forced, beq_iff_eq, beq_eq_false_iff_ne, bne_iff_ne, bne_eq_false_iff_eq] at *)
              all_goals first | with_reducible rfl | exact hi2.symm | (exfalso; simp_all; done)
        · have hyes := Classical.not_not.1 hno
          refine loop_rule (α := (Unit → Nat) ⊕ ((Unit → Nat) × (Unit → Int))) (c := ⟨tt, E22F, 1⟩)
              (fun a => match a with | .inl i => fr 38 [(1, .c (.f .f32 tm)), (2, .c (.i .i64 (.x k))), (3, .c (.p 1 (.l 0))), (6, .c (.p 2 (.l 0))), (8, .c (.i .i64 (.l 0))), (9, .c (.p 4 (.l 0))), (10, .c (.i .i64 (.x fun _ => i ())))] | .inr q => fr 38 [(2, .c (.i .i64 (.x k))), (6, .c (.p 2 (.l 0))), (8, .c (.i .i64 (.x fun _ => q.2 ()))), (10, .c (.i .i64 (.x fun _ => q.1 ())))]) (fun a => match a with | .inl i => [some ⟨false, 0, .fl l⟩, some ⟨true, 0, .lit [.f .f32 st, .f .f32 sp, .f .f32 fd, .sl 0 (.x o) (.x n)]⟩, some ⟨true, 0, .lit [.f .f32 fun _ => 0, .f .f32 fun _ => 0, .f .f32 fun _ => 0, .sn]⟩, some ⟨true, 3, .fl fun _ => runW (st ()) (sp ()) (fd ()) (tm ()) (n ()) (l ()) (i ())⟩, some ⟨true, 0, .lit [.f .f32 st, .f .f32 sp, .f .f32 fd, .sl 3 (.l 0) (.x n)]⟩] | .inr q => [some ⟨false, 0, .fl l⟩, none, some ⟨true, 0, .lit [.f .f32 fun _ => 0, .f .f32 fun _ => 0, .f .f32 fun _ => 0, .sn]⟩])
              (fun a => match a with | .inl i => (i () ≤ (k ()).toNat ∧ allI (goodW (st ()) (sp ()) (fd ()) (tm ()) (n ()) (l ())) (i ()) = true) ∧ (webOk (st ()) (sp ()) (fd ()) (l ()) (n ()) = true ∧ isTime (tm ()) = true ∧ isCount (k ()) = true) | .inr q => q.2 () ≠ 0 ∧ stepsC (st ()) (sp ()) (fd ()) (l ()) (n ()) (tm ()) (k ()) = q.2 ()) (fun a => match a with | .inl i => (k ()).toNat - i () + 1 | .inr q => 0) (fun _ => (k ()).toNat + 2) ?_ ?_
          · refine .mk (.inl fun _ => 0) ⟨⟨Nat.zero_le _, rfl⟩, hyes.1, (by assumption), hyes.2⟩ (by dsimp only; omega) ?_
            cbv
            repeat' (refine Ob.mk ?_ ?_; rotate_left)
            all_goals (try simp only [Unit.unit, Int.ofNat_lt, Int.ofNat_le, BE.val, IE.val, NE.val, ltB_iff, ltB_no, leB_iff, leB_no, Int.toNat_natCast, Nat.zero_add, Nat.add_zero, Nat.mul_one, forced, beq_iff_eq, beq_eq_false_iff_ne, bne_iff_ne, bne_eq_false_iff_eq] at *)
            all_goals first | with_reducible rfl | trivial | exact given_0 (by simp_all) | (rw [given_0 (by simp_all)]; done)
          · rintro (i | ⟨i, c⟩) hi
            · have hrl := runW_len (st ⟨⟩) (sp ⟨⟩) (fd ⟨⟩) (tm ⟨⟩) (n ⟨⟩) (l ⟨⟩) hlen (i ⟨⟩)
              have hk2 : 0 ≤ k ⟨⟩ ∧ k ⟨⟩ ≤ 1000 := count_le hi.2.2.2
              cbv
              refine Br.mk (fun h1 => ?_) (fun h1 => ?_)
              · have h1n : i ⟨⟩ < (k ⟨⟩).toNat := lt_k h1
                cbv
                repeat' (refine Ob.mk ?_ ?_; rotate_left; cbv)
                refine alt_b (fun h => ?_) (fun h => ?_)
                · cbv
                  repeat' first | (refine Ob.mk ?_ ?_; rotate_left; cbv) | (refine Lex.mk (by kernel_rfl) ?_; cbv) | (refine Next.ren [1, 2, 5, 4] (.inl fun _ => i () + 1) ?_ ?_ ?_)
                  all_goals (try simp only [Unit.unit, Int.ofNat_lt, Int.ofNat_le, BE.val, IE.val, NE.val, ltB_iff, ltB_no, leB_iff, leB_no, Int.toNat_natCast, Nat.zero_add, Nat.add_zero, Nat.mul_one, forced, beq_iff_eq, beq_eq_false_iff_ne, bne_iff_ne, bne_eq_false_iff_eq] at *)
                  all_goals (try simp only [ho0, Nat.zero_add] at *)
                  all_goals first | with_reducible rfl | (refine ⟨by trivial, ?_, hbig⟩; exact hrl) | exact wrap64_nat (by omega) | omega | exact ⟨by decide, steps_4 hi.2.1 hi.2.2.1 hi.2.2.2 h1n (by assumption)⟩ | exact ⟨⟨h1n, good_step hi.1.2 (by assumption)⟩, hi.2⟩ | (exfalso; have hg := hi.1.2; rw [hik] at hg; have h0 := steps_0 hi.2.1 hi.2.2.1 hi.2.2.2 hg; simp_all; done) | rfl
                · cbv
                  repeat' first | (refine Ob.mk ?_ ?_; rotate_left; cbv) | (refine Lex.mk (by kernel_rfl) ?_; cbv) | (refine Next.mk (.inr (fun _ => i () + 1, fun _ => 4)) ?_ ?_ ?_)
                  all_goals (try simp only [Unit.unit, Int.ofNat_lt, Int.ofNat_le, BE.val, IE.val, NE.val, ltB_iff, ltB_no, leB_iff, leB_no, Int.toNat_natCast, Nat.zero_add, Nat.add_zero, Nat.mul_one, forced, beq_iff_eq, beq_eq_false_iff_ne, bne_iff_ne, bne_eq_false_iff_eq] at *)
                  all_goals (try simp only [ho0, Nat.zero_add] at *)
                  all_goals first | with_reducible rfl | (refine ⟨by trivial, ?_, hbig⟩; exact hrl) | exact wrap64_nat (by omega) | omega | exact ⟨by decide, steps_4 hi.2.1 hi.2.2.1 hi.2.2.2 h1n (by assumption)⟩ | exact ⟨⟨h1n, good_step hi.1.2 (by assumption)⟩, hi.2⟩ | (exfalso; have hg := hi.1.2; rw [hik] at hg; have h0 := steps_0 hi.2.1 hi.2.2.1 hi.2.2.2 hg; simp_all; done) | rfl
                all_goals (try simp only [Unit.unit, Int.ofNat_lt, Int.ofNat_le, BE.val, IE.val, NE.val, ltB_iff, ltB_no, leB_iff, leB_no, Int.toNat_natCast, Nat.zero_add, Nat.add_zero, Nat.mul_one, forced, beq_iff_eq, beq_eq_false_iff_ne, bne_iff_ne, bne_eq_false_iff_eq] at *)
                all_goals first | (refine ⟨by trivial, ?_, hbig⟩; exact hrl) | exact wrap64_nat (by omega) | omega | exact ⟨by decide, steps_4 hi.2.1 hi.2.2.1 hi.2.2.2 h1n (by assumption)⟩ | exact ⟨⟨h1n, good_step hi.1.2 (by assumption)⟩, hi.2⟩ | (exfalso; have hg := hi.1.2; rw [hik] at hg; have h0 := steps_0 hi.2.1 hi.2.2.1 hi.2.2.2 hg; simp_all; done) | rfl
              · have h1n : (k ⟨⟩).toNat ≤ i ⟨⟩ := le_k h1
                have hik : i ⟨⟩ = (k ⟨⟩).toNat := Nat.le_antisymm hi.1.1 h1n
                cbv
                repeat' first | (refine Ob.mk ?_ ?_; rotate_left; cbv) | (refine Br.mk (fun h => ?_) (fun h => ?_) <;> cbv)
                all_goals (try simp only [Unit.unit, Int.ofNat_lt, Int.ofNat_le, BE.val, IE.val, NE.val, ltB_iff, ltB_no, leB_iff, leB_no, Int.toNat_natCast, Nat.zero_add, Nat.add_zero, Nat.mul_one, forced, beq_iff_eq, beq_eq_false_iff_ne, bne_iff_ne, bne_eq_false_iff_eq] at *)
                all_goals first | with_reducible rfl | (refine ⟨by trivial, ?_, hbig⟩; exact hrl) | exact wrap64_nat (by omega) | omega | exact ⟨by decide, steps_4 hi.2.1 hi.2.2.1 hi.2.2.2 h1n (by assumption)⟩ | exact ⟨⟨h1n, good_step hi.1.2 (by assumption)⟩, hi.2⟩ | (exfalso; have hg := hi.1.2; rw [hik] at hg; have h0 := steps_0 hi.2.1 hi.2.2.1 hi.2.2.2 hg; simp_all; done) | rfl
            · have hi1 : c ⟨⟩ ≠ 0 := hi.1
              have hi2 : stepsC (st ⟨⟩) (sp ⟨⟩) (fd ⟨⟩) (l ⟨⟩) (n ⟨⟩) (tm ⟨⟩) (k ⟨⟩) = c ⟨⟩ := hi.2
              skip
              cbv
              repeat' first
                | (refine Br.mk (fun h => ?_) (fun h => ?_) <;> cbv)
                | (refine Ob.mk ?_ ?_; rotate_left; cbv)
              all_goals (try simp only [Unit.unit, Int.ofNat_lt, Int.ofNat_le, BE.val, IE.val, NE.val, ltB_iff, ltB_no, leB_iff, leB_no, Int.toNat_natCast, Nat.zero_add, Nat.add_zero, Nat.mul_one, forced, beq_iff_eq, beq_eq_false_iff_ne, bne_iff_ne, bne_eq_false_iff_eq] at *)
              all_goals first | with_reducible rfl | exact hi2.symm | (exfalso; simp_all; done)
      · have hno : ¬ (webOk (st ⟨⟩) (sp ⟨⟩) (fd ⟨⟩) (l ⟨⟩) (n ⟨⟩) = true ∧ false = true) := fun e => by cases e.2
        refine loop_rule (α := (Unit → Nat) ⊕ ((Unit → Nat) × (Unit → Int))) (c := ⟨tt, E22F, 1⟩)
            (fun a => match a with | .inl i => fr 38 [(1, .c (.f .f32 tm)), (2, .c (.i .i64 (.x k))), (3, .c (.p 1 (.l 0))), (6, .c (.p 2 (.l 0))), (8, .c (.i .i64 (.l 0))), (9, .c (.p 4 (.l 0))), (10, .c (.i .i64 (.x fun _ => i ())))] | .inr q => fr 38 [(2, .c (.i .i64 (.x k))), (6, .c (.p 2 (.l 0))), (8, .c (.i .i64 (.x fun _ => q.2 ()))), (10, .c (.i .i64 (.x fun _ => q.1 ())))]) (fun a => match a with | .inl i => [some ⟨false, 0, .fl l⟩, some ⟨true, 0, .lit [.f .f32 st, .f .f32 sp, .f .f32 fd, .sl 0 (.x o) (.x n)]⟩, some ⟨true, 0, .lit [.f .f32 fun _ => 0, .f .f32 fun _ => 0, .f .f32 fun _ => 0, .sn]⟩, some ⟨true, 3, .fl fun _ => runW (st ()) (sp ()) (fd ()) (tm ()) (n ()) (l ()) (i ())⟩, some ⟨true, 0, .lit [.f .f32 st, .f .f32 sp, .f .f32 fd, .sl 3 (.l 0) (.x n)]⟩] | .inr q => [some ⟨false, 0, .fl l⟩, none, some ⟨true, 0, .lit [.f .f32 fun _ => 0, .f .f32 fun _ => 0, .f .f32 fun _ => 0, .sn]⟩])
            (fun a => match a with | .inl i => (i () ≤ (k ()).toNat ∧ allI (goodW (st ()) (sp ()) (fd ()) (tm ()) (n ()) (l ())) (i ()) = true) ∧ (webOk (st ()) (sp ()) (fd ()) (l ()) (n ()) = true ∧ isTime (tm ()) = true ∧ isCount (k ()) = true) | .inr q => q.2 () ≠ 0 ∧ stepsC (st ()) (sp ()) (fd ()) (l ()) (n ()) (tm ()) (k ()) = q.2 ()) (fun a => match a with | .inl i => (k ()).toNat - i () + 1 | .inr q => 0) (fun _ => (k ()).toNat + 2) ?_ ?_
        · refine .mk (.inr (fun _ => 0, fun _ => givenC (webOk (st ⟨⟩) (sp ⟨⟩) (fd ⟨⟩) (l ⟨⟩) (n ⟨⟩)) false)) ⟨given_no hno, steps_g (by simp_all) hno⟩ (by dsimp only; omega) ?_
          cbv
          repeat' (refine Ob.mk ?_ ?_; rotate_left)
          all_goals (try simp only [Unit.unit, Int.ofNat_lt, Int.ofNat_le, BE.val, IE.val, NE.val, ltB_iff, ltB_no, leB_iff, leB_no, Int.toNat_natCast, Nat.zero_add, Nat.add_zero, Nat.mul_one, forced, beq_iff_eq, beq_eq_false_iff_ne, bne_iff_ne, bne_eq_false_iff_eq] at *)
          all_goals first | with_reducible rfl | trivial
        · rintro (i | ⟨i, c⟩) hi
          · have hrl := runW_len (st ⟨⟩) (sp ⟨⟩) (fd ⟨⟩) (tm ⟨⟩) (n ⟨⟩) (l ⟨⟩) hlen (i ⟨⟩)
            have hk2 : 0 ≤ k ⟨⟩ ∧ k ⟨⟩ ≤ 1000 := count_le hi.2.2.2
            cbv
            refine Br.mk (fun h1 => ?_) (fun h1 => ?_)
            · have h1n : i ⟨⟩ < (k ⟨⟩).toNat := lt_k h1
              cbv
              repeat' (refine Ob.mk ?_ ?_; rotate_left; cbv)
              refine alt_b (fun h => ?_) (fun h => ?_)
              · cbv
                repeat' first | (refine Ob.mk ?_ ?_; rotate_left; cbv) | (refine Lex.mk (by kernel_rfl) ?_; cbv) | (refine Next.ren [1, 2, 5, 4] (.inl fun _ => i () + 1) ?_ ?_ ?_)
                all_goals (try simp only [Unit.unit, Int.ofNat_lt, Int.ofNat_le, BE.val, IE.val, NE.val, ltB_iff, ltB_no, leB_iff, leB_no, Int.toNat_natCast, Nat.zero_add, Nat.add_zero, Nat.mul_one, forced, beq_iff_eq, beq_eq_false_iff_ne, bne_iff_ne, bne_eq_false_iff_eq] at *)
                all_goals (try simp only [ho0, Nat.zero_add] at *)
                all_goals first | with_reducible rfl | (refine ⟨by trivial, ?_, hbig⟩; exact hrl) | exact wrap64_nat (by omega) | omega | exact ⟨by decide, steps_4 hi.2.1 hi.2.2.1 hi.2.2.2 h1n (by assumption)⟩ | exact ⟨⟨h1n, good_step hi.1.2 (by assumption)⟩, hi.2⟩ | (exfalso; have hg := hi.1.2; rw [hik] at hg; have h0 := steps_0 hi.2.1 hi.2.2.1 hi.2.2.2 hg; simp_all; done) | rfl
              · cbv
                repeat' first | (refine Ob.mk ?_ ?_; rotate_left; cbv) | (refine Lex.mk (by kernel_rfl) ?_; cbv) | (refine Next.mk (.inr (fun _ => i () + 1, fun _ => 4)) ?_ ?_ ?_)
                all_goals (try simp only [Unit.unit, Int.ofNat_lt, Int.ofNat_le, BE.val, IE.val, NE.val, ltB_iff, ltB_no, leB_iff, leB_no, Int.toNat_natCast, Nat.zero_add, Nat.add_zero, Nat.mul_one, forced, beq_iff_eq, beq_eq_false_iff_ne, bne_iff_ne, bne_eq_false_iff_eq] at *)
                all_goals (try simp only [ho0, Nat.zero_add] at *)
                all_goals first | with_reducible rfl | (refine ⟨by trivial, ?_, hbig⟩; exact hrl) | exact wrap64_nat (by omega) | omega | exact ⟨by decide, steps_4 hi.2.1 hi.2.2.1 hi.2.2.2 h1n (by assumption)⟩ | exact ⟨⟨h1n, good_step hi.1.2 (by assumption)⟩, hi.2⟩ | (exfalso; have hg := hi.1.2; rw [hik] at hg; have h0 := steps_0 hi.2.1 hi.2.2.1 hi.2.2.2 hg; simp_all; done) | rfl
              all_goals (try simp only [Unit.unit, Int.ofNat_lt, Int.ofNat_le, BE.val, IE.val, NE.val, ltB_iff, ltB_no, leB_iff, leB_no, Int.toNat_natCast, Nat.zero_add, Nat.add_zero, Nat.mul_one, forced, beq_iff_eq, beq_eq_false_iff_ne, bne_iff_ne, bne_eq_false_iff_eq] at *)
              all_goals first | (refine ⟨by trivial, ?_, hbig⟩; exact hrl) | exact wrap64_nat (by omega) | omega | exact ⟨by decide, steps_4 hi.2.1 hi.2.2.1 hi.2.2.2 h1n (by assumption)⟩ | exact ⟨⟨h1n, good_step hi.1.2 (by assumption)⟩, hi.2⟩ | (exfalso; have hg := hi.1.2; rw [hik] at hg; have h0 := steps_0 hi.2.1 hi.2.2.1 hi.2.2.2 hg; simp_all; done) | rfl
            · have h1n : (k ⟨⟩).toNat ≤ i ⟨⟩ := le_k h1
              have hik : i ⟨⟩ = (k ⟨⟩).toNat := Nat.le_antisymm hi.1.1 h1n
              cbv
              repeat' first | (refine Ob.mk ?_ ?_; rotate_left; cbv) | (refine Br.mk (fun h => ?_) (fun h => ?_) <;> cbv)
              all_goals (try simp only [Unit.unit, Int.ofNat_lt, Int.ofNat_le, BE.val, IE.val, NE.val, ltB_iff, ltB_no, leB_iff, leB_no, Int.toNat_natCast, Nat.zero_add, Nat.add_zero, Nat.mul_one, forced, beq_iff_eq, beq_eq_false_iff_ne, bne_iff_ne, bne_eq_false_iff_eq] at *)
              all_goals first | with_reducible rfl | (refine ⟨by trivial, ?_, hbig⟩; exact hrl) | exact wrap64_nat (by omega) | omega | exact ⟨by decide, steps_4 hi.2.1 hi.2.2.1 hi.2.2.2 h1n (by assumption)⟩ | exact ⟨⟨h1n, good_step hi.1.2 (by assumption)⟩, hi.2⟩ | (exfalso; have hg := hi.1.2; rw [hik] at hg; have h0 := steps_0 hi.2.1 hi.2.2.1 hi.2.2.2 hg; simp_all; done) | rfl
          · have hi1 : c ⟨⟩ ≠ 0 := hi.1
            have hi2 : stepsC (st ⟨⟩) (sp ⟨⟩) (fd ⟨⟩) (l ⟨⟩) (n ⟨⟩) (tm ⟨⟩) (k ⟨⟩) = c ⟨⟩ := hi.2
            skip
            cbv
            repeat' first
              | (refine Br.mk (fun h => ?_) (fun h => ?_) <;> cbv)
              | (refine Ob.mk ?_ ?_; rotate_left; cbv)
            all_goals (try simp only [Unit.unit, Int.ofNat_lt, Int.ofNat_le, BE.val, IE.val, NE.val, ltB_iff, ltB_no, leB_iff, leB_no, Int.toNat_natCast, Nat.zero_add, Nat.add_zero, Nat.mul_one, forced, beq_iff_eq, beq_eq_false_iff_ne, bne_iff_ne, bne_eq_false_iff_eq] at *)
            all_goals first | with_reducible rfl | exact hi2.symm | (exfalso; simp_all; done)
    · cases hs
  · cases hs
end Go.Proofs.YteifneielgnniaaGreatDoor.Sh
end
section
namespace Go.Proofs.YteifneielgnniaaGreatDoor.Sh
open Go Go.Proofs
end Go.Proofs.YteifneielgnniaaGreatDoor.Sh
end
