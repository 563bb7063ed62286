/- Marks and sheets: sizes and offsets. No condition. -/
import Derived.Test.YteifneielgnniaaGreatDoorMa
set_option linter.unusedVariables false
set_option linter.unusedSimpArgs false
set_option linter.unusedSectionVars false
section
namespace Go.Proofs.YteifneielgnniaaGreatDoor.Sh
namespace Rg
open Go Go.Proofs
/-! ## numbers -/
def bodyOf (f : Func) : Code := f.body.getD .skip
abbrev F (x : Nat) : V := .c (.f .f32 fun _ => x)
abbrev vB (x : Bool) : V := .c (.b (.x fun _ => x))
abbrev vI (x : Int) : V := .c (.i .i64 (.x fun _ => x))
def isIn (a lo hi : Nat) : Bool := fcmp .geq .f32 a lo && fcmp .leq .f32 a hi
def inI (n lo hi : Int) : Bool := leB lo n && leB n hi
theorem ltB_iff {a b : Int} : ltB a b = true ↔ a < b := by simp [ltB]
theorem ltB_no {a b : Int} : ltB a b = false ↔ ¬ a < b := by simp [ltB]
theorem leB_iff {a b : Int} : leB a b = true ↔ a ≤ b := by simp [leB]
theorem leB_no {a b : Int} : leB a b = false ↔ ¬ a ≤ b := by simp [leB]
theorem inI_iff {n lo hi : Int} : inI n lo hi = true ↔ lo ≤ n ∧ n ≤ hi := by simp [inI, leB]
/-- for all smaller ones -/
def allI (p : Nat → Bool) : Nat → Bool
  | 0 => true
  | k + 1 => allI p k && p k
theorem allI_at {p : Nat → Bool} : ∀ {n i : Nat}, allI p n = true → i < n → p i = true
  | n + 1, i, h, hi => by
    simp only [allI, Bool.and_eq_true] at h
    by_cases e : i = n
    · subst e; simpa using h.2
    · exact allI_at h.1 (by omega)
theorem allI_no {p : Nat → Bool} {n i : Nat} (h : i < n) (hp : p i = false) : allI p n = false := by
  cases e : allI p n
  · rfl
  · rw [allI_at e h] at hp; cases hp
theorem allI_all {p : Nat → Bool} : ∀ {n : Nat}, (∀ i, i < n → p i = true) → allI p n = true
  | 0, _ => rfl
  | n + 1, h => by simp [allI, allI_all (n := n) (fun i hi => h i (by omega)), h n (by omega)]
def allR (n : Nat) (p : Nat → Bool) : Bool := (List.range n).all p
theorem allR_at {n : Nat} {p : Nat → Bool} (h : allR n p = true) {i : Nat} (hi : i < n) : p i = true := List.all_eq_true.1 h i (List.mem_range.2 hi)
abbrev cv (a : Nat) : Nat := cvU a
def dn (a : Nat) : Nat := (floatToFloatBits .f64 a .f32).getD (qn .f32)
def sqrtB (a : Nat) : Nat := (FloatKind.f64.format.sqrt a).getD (qn .f64)
/-! ## marks -/
abbrev M := Nat × Nat
def plusM (a b : M) : M := (fop .add .f32 a.1 b.1, fop .add .f32 a.2 b.2)
def minusM (a b : M) : M := (fop .sub .f32 a.1 b.1, fop .sub .f32 a.2 b.2)
def timesM (a b : M) : M := (fop .sub .f32 (fop .mul .f32 a.1 b.1) (fop .mul .f32 a.2 b.2), fop .add .f32 (fop .mul .f32 a.1 b.2) (fop .mul .f32 a.2 b.1))
def overM (a : M) (d : Nat) : M := (fop .quo .f32 a.1 d, fop .quo .f32 a.2 d)
def sqM (a : M) : Nat := fop .add .f32 (fop .mul .f32 a.1 a.1) (fop .mul .f32 a.2 a.2)
def sizeM (a : M) : Nat := dn (sqrtB (cv (sqM a)))
def okX (a : Nat) : Bool := isIn a 3313500160 1166016512
def okM (a : M) : Bool := okX a.1 && okX a.2
abbrev at2 (l : List M) (i : Nat) : M := l.getD i (0, 0)
def okS (l : List M) : Bool := allI (fun i => okM (at2 l i)) 16
def offM (l : List M) (c k : Nat) : M := minusM (at2 l (c * 4 + k)) (at2 l k)
def meanM (a b c d : M) : M := overM (plusM (plusM (plusM a b) c) d) 1082130432
def meanO (l : List M) (c : Nat) : M := meanM (offM l c 0) (offM l c 1) (offM l c 2) (offM l c 3)
def grS (l : List M) (c : Nat) : Nat → Nat × Nat
  | 0 => (0, sizeM (offM l c 0))
  | k + 1 => if fcmp .gtr .f32 (sizeM (offM l c (k + 1))) (grS l c k).2 = true then (k + 1, sizeM (offM l c (k + 1))) else grS l c k
def negM (m : M) (sh : Nat) : M := (fop .sub .f32 0 (fop .mul .f32 m.1 sh), fop .sub .f32 0 (fop .mul .f32 m.2 sh))
def noS : List M := List.replicate 16 (0, 0)
end Rg
end Go.Proofs.YteifneielgnniaaGreatDoor.Sh
end
section
namespace Go.Proofs.YteifneielgnniaaGreatDoor.Sh
namespace Rg
open Go Go.Proofs
/-! ## corrections -/
/-! ## marks that are drawn -/
def q16 (r : Nat) : Nat := fop .quo .f32 (floatOfInt .f32 ((r : Int) - 400)) 1098907648
def mvOk (cc q : Nat) : Bool :=
  fop .sub .f32 (fop .add .f32 cc q) cc == q && fop .add .f32 (fop .add .f32 cc q) (fop .sub .f32 0 (fop .mul .f32 q 1065353216)) == cc && okX (fop .add .f32 cc q)
theorem d_mv0 : allR 801 (fun r => mvOk 0 (q16 r)) = true := by decide +kernel
theorem d_mv1 : allR 801 (fun r => mvOk 1120403456 (q16 r)) = true := by decide +kernel
theorem d_mv2 : allR 801 (fun r => mvOk 1117782016 (q16 r)) = true := by decide +kernel
theorem d_okq : allR 801 (fun r => okX (q16 r)) = true := by decide +kernel
/-! ## steps -/
end Rg
end Go.Proofs.YteifneielgnniaaGreatDoor.Sh
end
section
namespace Go.Proofs.YteifneielgnniaaGreatDoor.Sh
namespace Rg
open Go Go.Proofs
/-! ## a sheet of which one colour is moved -/
def cnr (k : Nat) : M := [((0 : Nat), (0 : Nat)), (1120403456, 0), (1120403456, 1117782016), (0, 1117782016)].getD k (0, 0)
/-- a mark that is drawn -/
def drawnM (m : M) : Prop := ∃ a b : Nat, a < 801 ∧ b < 801 ∧ m = (q16 a, q16 b)
theorem mv_of {cc q : Nat} (h : mvOk cc q = true) : fop .sub .f32 (fop .add .f32 cc q) cc = q ∧ fop .add .f32 (fop .add .f32 cc q) (fop .sub .f32 0 (fop .mul .f32 q 1065353216)) = cc ∧ okX (fop .add .f32 cc q) = true := by
  unfold mvOk at h
  simp only [Bool.and_eq_true, beq_iff_eq] at h
  exact ⟨h.1.1, h.1.2, h.2⟩
theorem mv_cnr {m : M} (h : drawnM m) (k : Nat) (hk : k < 4) : minusM (plusM (cnr k) m) (cnr k) = m ∧ plusM (plusM (cnr k) m) (negM m 1065353216) = cnr k ∧ okM (plusM (cnr k) m) = true := by
  obtain ⟨a, b, ha, hb, rfl⟩ := h
  have x0 := mv_of (allR_at d_mv0 ha)
  have x1 := mv_of (allR_at d_mv1 ha)
  have y0 := mv_of (allR_at d_mv0 hb)
  have y2 := mv_of (allR_at d_mv2 hb)
  have key : ∀ (cx cy : Nat), (mvOk cx (q16 a) = true → True) → fop .sub .f32 (fop .add .f32 cx (q16 a)) cx = q16 a ∧ fop .add .f32 (fop .add .f32 cx (q16 a)) (fop .sub .f32 0 (fop .mul .f32 (q16 a) 1065353216)) = cx ∧ okX (fop .add .f32 cx (q16 a)) = true →
      fop .sub .f32 (fop .add .f32 cy (q16 b)) cy = q16 b ∧ fop .add .f32 (fop .add .f32 cy (q16 b)) (fop .sub .f32 0 (fop .mul .f32 (q16 b) 1065353216)) = cy ∧ okX (fop .add .f32 cy (q16 b)) = true →
      minusM (plusM (cx, cy) (q16 a, q16 b)) (cx, cy) = (q16 a, q16 b) ∧ plusM (plusM (cx, cy) (q16 a, q16 b)) (negM (q16 a, q16 b) 1065353216) = (cx, cy) ∧ okM (plusM (cx, cy) (q16 a, q16 b)) = true := by
    intro cx cy _ h1 h2
    refine ⟨?_, ?_, ?_⟩
    · show (fop .sub .f32 (fop .add .f32 cx (q16 a)) cx, fop .sub .f32 (fop .add .f32 cy (q16 b)) cy) = _
      rw [h1.1, h2.1]
    · show (fop .add .f32 (fop .add .f32 cx (q16 a)) (fop .sub .f32 0 (fop .mul .f32 (q16 a) 1065353216)), fop .add .f32 (fop .add .f32 cy (q16 b)) (fop .sub .f32 0 (fop .mul .f32 (q16 b) 1065353216))) = _
      rw [h1.2.1, h2.2.1]
    · show (okX (fop .add .f32 cx (q16 a)) && okX (fop .add .f32 cy (q16 b))) = true
      rw [h1.2.2, h2.2.2]; rfl
  match k, hk with
  | 0, _ => exact key _ _ (fun _ => trivial) x0 y0
  | 1, _ => exact key _ _ (fun _ => trivial) x1 y0
  | 2, _ => exact key _ _ (fun _ => trivial) x1 y2
  | 3, _ => exact key _ _ (fun _ => trivial) x0 y2
section
variable {c : Nat} {m : M} (hc : 1 ≤ c ∧ c ≤ 3) (h : drawnM m)
include hc
end
end Rg
end Go.Proofs.YteifneielgnniaaGreatDoor.Sh
end
section
namespace Go.Proofs.YteifneielgnniaaGreatDoor.Sh
namespace Rg
open Go Go.Proofs
open Ieee
/-! ## roots are not too great -/
theorem cut_le {n k b : Nat} (h : n < 2 ^ (b + k)) (hk : k ≤ n.log2 + 2) : Toward.even.cut false n k ≤ 2 ^ b := by
  unfold Toward.cut
  rw [Nat.min_eq_left hk, Nat.one_shiftLeft]
  have h1 : n / 2 ^ k < 2 ^ b := (Nat.div_lt_iff_lt_mul (Nat.two_pow_pos k)).2 (by rw [← Nat.pow_add]; exact h)
  simp only
  have h2 : ∀ c : Bool, c.toNat ≤ 1 := fun c => by cases c <;> simp
  have := h2 (decide (2 ^ k < 2 * (n % 2 ^ k)) || (2 ^ k == 2 * (n % 2 ^ k) && n / 2 ^ k % 2 == 1))
  omega
theorem near_q64 {m : Nat} {p K : Int} (hm : m ≠ 0) (hK : (m.log2 : Int) + p ≤ K) (h0 : -1022 ≤ K) (h1 : K ≤ 900) :
    ∃ q : Nat, double.nearest false m p = double.word false q ∧ (q : Int) ≤ (K + 1024) * 4503599627370496 := by
  unfold Format.nearest
  rw [if_neg hm]
  simp only [bin64, lp64, inf64, fb64]
  have hlt : m < 2 ^ (m.log2 + 1) := Nat.lt_log2_self
  generalize hL : max (p + (m.log2 : Int) - 52) (-1074) = last
  refine ⟨_, rfl, ?_⟩
  have hlast : last ≤ K - 52 ∨ last = -1074 := by omega
  have hcut : Toward.even.cut false (m <<< (p - last).toNat) (last - p).toNat ≤ 2 ^ 53 := by
    rw [Nat.shiftLeft_eq]
    by_cases hp : last ≤ p
    · rw [show (last - p).toNat = 0 by omega]
      refine cut_le (b := 53) ?_ (Nat.zero_le _)
      have : m * 2 ^ (p - last).toNat < 2 ^ (m.log2 + 1) * 2 ^ (p - last).toNat := Nat.mul_lt_mul_of_pos_right hlt (Nat.two_pow_pos _)
      rw [← Nat.pow_add] at this
      exact Nat.lt_of_lt_of_le this (Nat.pow_le_pow_right (by decide) (by omega))
    · rw [show (p - last).toNat = 0 by omega, Nat.pow_zero, Nat.mul_one]
      by_cases hd : (last - p).toNat ≤ m.log2 + 2
      · refine cut_le (b := 53) ?_ hd
        exact Nat.lt_of_lt_of_le hlt (Nat.pow_le_pow_right (by decide) (by omega))
      · unfold Toward.cut
        rw [Nat.min_eq_right (by omega), Nat.one_shiftLeft]
        have h3 : m / 2 ^ (m.log2 + 2) = 0 := Nat.div_eq_of_lt (Nat.lt_of_lt_of_le hlt (Nat.pow_le_pow_right (by decide) (by omega)))
        simp only
        rw [h3]
        have h2 : ∀ c : Bool, c.toNat ≤ 1 := fun c => by cases c <;> simp
        refine Nat.le_trans (Nat.add_le_add_left (h2 _) 0) ?_
        decide
  have h53 : (2 : Nat) ^ 53 = 9007199254740992 := by decide
  rw [h53] at hcut
  have hmin := Nat.min_le_left ((last - -1074).toNat * 4503599627370496 + Toward.even.cut false (m <<< (p - last).toNat) (last - p).toNat) 9218868437227405312
  have : (((last - -1074).toNat : Nat) : Int) ≤ K + 1022 := by omega
  omega
theorem cut_kept {m : Nat} {p last : Int} {b : Nat} (hm : m ≠ 0) (h : (m.log2 : Int) + 1 + p - last ≤ b) : Toward.even.cut false (m <<< (p - last).toNat) (last - p).toNat ≤ 2 ^ b := by
  have hlt : m < 2 ^ (m.log2 + 1) := Nat.lt_log2_self
  rw [Nat.shiftLeft_eq]
  by_cases hp : last ≤ p
  · rw [show (last - p).toNat = 0 by omega]
    refine cut_le (b := b) ?_ (Nat.zero_le _)
    have : m * 2 ^ (p - last).toNat < 2 ^ (m.log2 + 1) * 2 ^ (p - last).toNat := Nat.mul_lt_mul_of_pos_right hlt (Nat.two_pow_pos _)
    rw [← Nat.pow_add] at this
    exact Nat.lt_of_lt_of_le this (Nat.pow_le_pow_right (by decide) (by omega))
  · rw [show (p - last).toNat = 0 by omega, Nat.pow_zero, Nat.mul_one]
    by_cases hd : (last - p).toNat ≤ m.log2 + 2
    · refine cut_le (b := b) ?_ hd
      exact Nat.lt_of_lt_of_le hlt (Nat.pow_le_pow_right (by decide) (by omega))
    · unfold Toward.cut
      rw [Nat.min_eq_right (by omega), Nat.one_shiftLeft]
      have h3 : m / 2 ^ (m.log2 + 2) = 0 := Nat.div_eq_of_lt (Nat.lt_of_lt_of_le hlt (Nat.pow_le_pow_right (by decide) (by omega)))
      simp only
      rw [h3]
      have h2 : ∀ c : Bool, c.toNat ≤ 1 := fun c => by cases c <;> simp
      exact Nat.le_trans (Nat.add_le_add_left (h2 _) 0) (Nat.one_le_two_pow)
theorem near_fin32 {m : Nat} {p : Int} (hK : m = 0 ∨ (m.log2 : Int) + p ≤ 120) : (single.read (single.nearest false m p)).isInfinity = false := by
  have fin : ∀ q : Nat, q < 2139095040 → (single.read (single.word false q)).isInfinity = false := by
    intro q hq
    rw [read_word false (Nat.le_of_lt hq)]
    split
    · rfl
    · rfl
  by_cases hm : m = 0
  · unfold Format.nearest
    rw [if_pos hm]
    exact fin 0 (by decide)
  · have hK : (m.log2 : Int) + p ≤ 120 := by
      rcases hK with h | h
      · exact absurd h hm
      · exact h
    unfold Format.nearest
    rw [if_neg hm]
    simp only [bin32, lp32, inf32, fb32]
    generalize hL : max (p + (m.log2 : Int) - 23) (-149) = last
    refine fin _ ?_
    have hc := cut_kept (p := p) (last := last) (b := 24) hm (by omega)
    have h24 : (2 : Nat) ^ 24 = 16777216 := by decide
    rw [h24] at hc
    have hmin := Nat.min_le_left ((last - -149).toNat * 8388608 + Toward.even.cut false (m <<< (p - last).toNat) (last - p).toNat) 2139095040
    have : (last - -149).toNat ≤ 246 := by omega
    omega
/-- the root of a number that is not too great -/
theorem root_from : ∀ (n todo root : Nat), Datum.rootFrom n todo root < root + 2 ^ todo
  | n, 0, root => by unfold Datum.rootFrom; simp
  | n, todo + 1, root => by
    unfold Datum.rootFrom
    simp only
    rw [Nat.one_shiftLeft]
    have h := Nat.pow_succ 2 todo
    split
    · have := root_from n todo (root + 2 ^ todo); omega
    · have := root_from n todo root; omega
theorem root_le {m : Nat} {i : Int} {k : Nat} (hm : m ≠ 0) (h : (m.log2 : Int) + i ≤ 128) : ∃ n j, (Datum.number false m i).root k = some (.number false n j) ∧ (n = 0 ∨ (n.log2 : Int) + j ≤ 70) := by
  unfold Datum.root
  simp only [hm, if_false, Bool.false_eq_true]
  generalize hmore : (2 * k - m.log2 + ((i - ((2 * k - m.log2 : Nat) : Int)) % 2).toNat) = more
  refine ⟨_, _, rfl, ?_⟩
  generalize hn : m <<< more = n
  have hn0 : n ≠ 0 := by
    rw [← hn, Nat.shiftLeft_eq]
    exact Nat.mul_ne_zero hm (Nat.ne_of_gt (Nat.two_pow_pos _))
  have hlog : n.log2 = m.log2 + more := by
    have h1 : 2 ^ m.log2 ≤ m := Nat.log2_self_le hm
    have h2 : m < 2 ^ (m.log2 + 1) := Nat.lt_log2_self
    have g1 : m.log2 + more ≤ n.log2 := (Nat.le_log2 hn0).2 (by rw [← hn, Nat.shiftLeft_eq, Nat.pow_add]; exact Nat.mul_le_mul_right _ h1)
    have g2 : n.log2 < m.log2 + more + 1 := (Nat.log2_lt hn0).2 (by rw [← hn, Nat.shiftLeft_eq, show m.log2 + more + 1 = m.log2 + 1 + more by omega, Nat.pow_add]; exact Nat.mul_lt_mul_of_pos_right h2 (Nat.two_pow_pos _))
    omega
  have hw := root_from n (n.log2 / 2 + 1) 0
  rw [Nat.zero_add] at hw
  generalize Datum.rootFrom n (n.log2 / 2 + 1) 0 = whole at *
  have h2 : ∀ c : Bool, c.toNat ≤ 1 := fun c => by cases c <;> simp
  have hc := h2 (whole * whole != n)
  generalize (whole * whole != n).toNat = c at *
  by_cases e : 2 * whole + c = 0
  · exact .inl e
  · right
    have hlt : 2 * whole + c < 2 ^ (n.log2 / 2 + 1 + 1) := by rw [Nat.pow_succ]; omega
    have := (Nat.log2_lt e).2 hlt
    omega
theorem up_mag {a : Nat} {s : Bool} {m : Nat} {i : Int} (h : single.read a = .number s m i) : ∃ n j, double.read (cvU a) = .number s n j ∧ (n = 0 ∨ (n.log2 : Int) + j ≤ 127) := by
  obtain ⟨hc, hw, _⟩ := read_canon h
  obtain ⟨r, hr, h1, ⟨n, j, hd⟩, _⟩ := up_num h
  have e : cvU a = double.word s r := by unfold cvU; rw [h1]; rfl
  refine ⟨n, j, by rw [e]; exact hd s, ?_⟩
  by_cases hm : m = 0
  · left
    have h2 : floatToFloatBits .f32 a .f64 = some (double.word s 0) := by
      unfold floatToFloatBits
      rw [if_neg (by decide), show FloatKind.f32.decode a = .number s m i from h]
      have e2 : FloatKind.f64.encode (.number s m i) = double.word s 0 := by
        show double.nearest s m i = _
        unfold Format.nearest
        rw [if_pos hm]
      dsimp only
      rw [e2]
      have e3 : FloatKind.f64.decode (double.word s 0) = .number s 0 (-1074) := by
        show double.read _ = _
        rw [read_word64 s (by omega)]; rfl
      rw [e3]; rfl
    rw [h2] at h1
    have e4 : double.word s r = double.word s 0 := (Option.some.inj h1).symm
    have e5 := hd s
    rw [e4, read_word64 s (by omega)] at e5
    have e6 : Datum.number s 0 (-1074) = Datum.number s n j := e5
    injection e6 with _ e7 _
    exact e7.symm
  · right
    have hL : m.log2 ≤ 23 := by
      have : m.log2 < 24 := (Nat.log2_lt hm).2 (by omega)
      omega
    have hi1 : -149 ≤ i ∧ i ≤ 104 := by omega
    obtain ⟨k1, k2⟩ := shl52 hm (by omega)
    generalize hR : (i + m.log2 + 1022).toNat * 4503599627370496 + m <<< (52 - m.log2) = R
    have hR2 : R < 9218868437227405312 := by omega
    have hn := near64 s hm (p := i) (by omega) (by omega) (by omega)
    rw [hR] at hn
    have hd2 : double.read (double.word s R) = .number s (m <<< (52 - m.log2)) (i + m.log2 - 52) := by
      rw [read_word64 s (by omega), if_neg (by omega), if_pos hR2]
      congr 1 <;> omega
    have h2 : floatToFloatBits .f32 a .f64 = some (double.word s R) := by
      unfold floatToFloatBits
      rw [if_neg (by decide), show FloatKind.f32.decode a = .number s m i from h]
      have e2 : FloatKind.f64.encode (.number s m i) = double.word s R := hn
      dsimp only
      rw [e2]
      have e3 : FloatKind.f64.decode (double.word s R) = _ := hd2
      rw [e3]; rfl
    rw [h2] at h1
    have e4 : double.word s r = double.word s R := (Option.some.inj h1).symm
    have e5 := hd s
    rw [e4, hd2] at e5
    injection e5 with _ e7 e8
    have hM : m <<< (52 - m.log2) ≠ 0 := by omega
    have hML : (m <<< (52 - m.log2)).log2 < 53 := (Nat.log2_lt hM).2 (by omega)
    rw [← e7, ← e8]
    omega
theorem down_some {x : Nat} {n : Nat} {j : Int} {s : Bool} (h : double.read x = .number s n j) (hs : s = false ∨ n = 0) (hk : n = 0 ∨ (n.log2 : Int) + j ≤ 120) : (floatToFloatBits .f64 x .f32).isSome = true := by
  unfold floatToFloatBits
  rw [if_neg (by decide), show FloatKind.f64.decode x = .number s n j from h]
  dsimp only
  have : (FloatKind.f32.decode (FloatKind.f32.encode (.number s n j))).isInfinity = false := by
    show (single.read (single.nearest s n j)).isInfinity = false
    rcases hs with rfl | rfl
    · exact near_fin32 hk
    · unfold Format.nearest
      rw [if_pos rfl, read_word s (by decide)]
      rfl
  rw [this]
  rfl
theorem root_zero {s : Bool} {j : Int} {k : Nat} : (Datum.number s 0 j).root k = some (.number s 0 j) := by unfold Datum.root; simp
theorem root_neg {n : Nat} {j : Int} {k : Nat} (h : n ≠ 0) : (Datum.number true n j).root k = none := by unfold Datum.root; simp [h]
/-- a root is never too great -/
theorem sqrt_some (a : Nat) : (FloatKind.f64.decode (sqrtB (cv a))).isNaN = false → (floatToFloatBits .f64 (sqrtB (cv a)) .f32).isSome = true := by
  intro hn
  cases hd : single.read a with
  | number s m i =>
    obtain ⟨n, j, h1, h2⟩ := up_mag hd
    by_cases hz : n = 0
    · subst hz
      have e : sqrtB (cv a) = double.word s 0 := by
        unfold sqrtB
        show (((double.read (cvU a)).root _).map double.write).getD _ = _
        rw [h1, root_zero]
        show double.nearest s 0 j = _
        unfold Format.nearest
        rw [if_pos rfl]
      rw [e]
      exact down_some (n := 0) (j := -1074) (s := s) (by rw [read_word64 s (by omega)]; rfl) (.inr rfl) (.inl rfl)
    · have h2 : (n.log2 : Int) + j ≤ 127 := by
        rcases h2 with h | h
        · exact absurd h hz
        · exact h
      cases s with
      | true =>
        have e : sqrtB (cv a) = qn .f64 := by
          unfold sqrtB
          show (((double.read (cvU a)).root _).map double.write).getD _ = _
          rw [h1, root_neg hz]
          rfl
        rw [e, show (FloatKind.f64.decode (qn .f64)).isNaN = true from nan_qn .f64] at hn
        cases hn
      | false =>
        obtain ⟨n', j', h3, h4⟩ := root_le (k := double.fractionBits + 2) hz (i := j) (by omega)
        have e : sqrtB (cv a) = double.nearest false n' j' := by
          unfold sqrtB
          show (((double.read (cvU a)).root (double.fractionBits + 2)).map double.write).getD _ = _
          rw [h1, h3]
          rfl
        rw [e]
        by_cases hz' : n' = 0
        · unfold Format.nearest
          rw [if_pos hz']
          exact down_some (n := 0) (j := -1074) (s := false) (by rw [read_word64 false (by omega)]; rfl) (.inr rfl) (.inl rfl)
        · have h4 : (n'.log2 : Int) + j' ≤ 70 := by
            rcases h4 with h | h
            · exact absurd h hz'
            · exact h
          obtain ⟨q, hq, hb⟩ := near_q64 hz' h4 (by decide) (by decide)
          rw [hq]
          have hq2 : q < 9218868437227405312 := by omega
          have hr := read_word64 false (Nat.le_of_lt hq2)
          by_cases c : q < 4503599627370496
          · rw [if_pos c] at hr
            refine down_some hr (.inl rfl) ?_
            by_cases z : q = 0
            · exact .inl z
            · have : q.log2 < 53 := (Nat.log2_lt z).2 (by omega)
              right; omega
          · rw [if_neg c, if_pos hq2] at hr
            refine down_some hr (.inl rfl) (.inr ?_)
            have : (4503599627370496 + q % 4503599627370496).log2 < 53 := (Nat.log2_lt (by omega)).2 (by omega)
            omega
  | infinity s =>
    have e1 : cvU a = double.word s 9218868437227405312 := by
      unfold cvU floatToFloatBits
      rw [if_neg (by decide), show FloatKind.f32.decode a = .infinity s from hd]
      rfl
    have e2 : double.read (cvU a) = .infinity s := by rw [e1, read_word64 s (Nat.le_refl _)]; rfl
    cases s with
    | true =>
      have e : sqrtB (cv a) = qn .f64 := by
        unfold sqrtB
        show (((double.read (cvU a)).root _).map double.write).getD _ = _
        rw [e2]; rfl
      rw [e, show (FloatKind.f64.decode (qn .f64)).isNaN = true from nan_qn .f64] at hn
      cases hn
    | false =>
      have e : sqrtB (cv a) = double.word false 9218868437227405312 := by
        unfold sqrtB
        show (((double.read (cvU a)).root _).map double.write).getD _ = _
        rw [e2]; rfl
      rw [e]
      unfold floatToFloatBits
      rw [if_neg (by decide), show FloatKind.f64.decode (double.word false 9218868437227405312) = .infinity false from by show double.read _ = _; rw [read_word64 false (Nat.le_refl _)]; rfl]
      rfl
  | nan s t =>
    have e1 : cvU a = qn .f64 := by
      unfold cvU floatToFloatBits
      rw [if_neg (by decide), show FloatKind.f32.decode a = .nan s t from hd]
      rfl
    have e : sqrtB (cv a) = qn .f64 := by
      show sqrtB (cvU a) = _
      rw [e1]
      decide +kernel
    rw [e, show (FloatKind.f64.decode (qn .f64)).isNaN = true from nan_qn .f64] at hn
    cases hn
end Rg
end Go.Proofs.YteifneielgnniaaGreatDoor.Sh
end
section
namespace Go.Proofs.YteifneielgnniaaGreatDoor.Sh
namespace Rg
open Go Go.Proofs
open Ieee
/-! ## sizes are numbers -/
def nnD : Datum → Bool
  | .number false _ _ => true
  | .infinity false => true
  | _ => false
theorem nn_word32 {r : Nat} (h : r ≤ 2139095040) : nnD (single.read (single.word false r)) = true := by
  have e1 : single.signWeight = 2147483648 := by decide
  have e2 : single.infRung = 2139095040 := by decide
  have e3 : single.binade = 8388608 := by decide
  unfold Format.read Format.word
  rw [e1, e2, e3]
  simp only [Bool.false_eq_true, if_false]
  have h1 : r / 2147483648 % 2 = 0 := by omega
  have h2 : r % 2147483648 = r := by omega
  rw [h1, h2]
  have h3 : (0 == 1) = false := rfl
  rw [h3]
  split
  · rfl
  · split
    · rfl
    · rw [if_pos (by omega)]; rfl
theorem nn_word64 {r : Nat} (h : r ≤ 9218868437227405312) : nnD (double.read (double.word false r)) = true := by
  have e1 : double.signWeight = 9223372036854775808 := by decide
  have e2 : double.infRung = 9218868437227405312 := by decide
  have e3 : double.binade = 4503599627370496 := by decide
  unfold Format.read Format.word
  rw [e1, e2, e3]
  simp only [Bool.false_eq_true, if_false]
  have h1 : r / 9223372036854775808 % 2 = 0 := by omega
  have h2 : r % 9223372036854775808 = r := by omega
  rw [h1, h2]
  have h3 : (0 == 1) = false := rfl
  rw [h3]
  split
  · rfl
  · split
    · rfl
    · rw [if_pos (by omega)]; rfl
theorem nn_write32 {d : Datum} (h : nnD d = true) : nnD (single.read (single.write d)) = true := by
  have e2 : single.infRung = 2139095040 := by decide
  cases d with
  | number s m p =>
    cases s with
    | true => cases h
    | false =>
      show nnD (single.read (single.nearest false m p)) = true
      unfold Format.nearest
      split
      · exact nn_word32 (by decide)
      · exact nn_word32 (by rw [← e2]; exact Nat.min_le_right _ _)
  | infinity s =>
    cases s with
    | true => cases h
    | false => exact nn_word32 (by decide)
  | nan s t => cases h
theorem nn_write64 {d : Datum} (h : nnD d = true) : nnD (double.read (double.write d)) = true := by
  have e2 : double.infRung = 9218868437227405312 := by decide
  cases d with
  | number s m p =>
    cases s with
    | true => cases h
    | false =>
      show nnD (double.read (double.nearest false m p)) = true
      unfold Format.nearest
      split
      · exact nn_word64 (by decide)
      · exact nn_word64 (by rw [← e2]; exact Nat.min_le_right _ _)
  | infinity s =>
    cases s with
    | true => cases h
    | false => exact nn_word64 (by decide)
  | nan s t => cases h
theorem signed_nn (m k : Nat) : 0 ≤ signed false m k := by
  exact Int.natCast_nonneg (m <<< k)
theorem nn_sum {x y : Datum} (hx : nnD x = true) (hy : nnD y = true) : ∃ d, x.sum y = some d ∧ nnD d = true := by
  cases x with
  | nan => cases hx
  | infinity s =>
    cases s with
    | true => cases hx
    | false =>
      cases y with
      | nan => cases hy
      | infinity t => cases t with
        | true => cases hy
        | false => exact ⟨_, rfl, rfl⟩
      | number t n j => exact ⟨_, rfl, rfl⟩
  | number s m i =>
    cases s with
    | true => cases hx
    | false =>
      cases y with
      | nan => cases hy
      | infinity t => cases t with
        | true => cases hy
        | false => exact ⟨_, rfl, rfl⟩
      | number t n j => cases t with
        | true => cases hy
        | false =>
          refine ⟨_, rfl, ?_⟩
          have h := Int.add_nonneg (signed_nn m (i - min i j).toNat) (signed_nn n (j - min i j).toNat)
          generalize signed false m (i - min i j).toNat + signed false n (j - min i j).toNat = t at *
          have e : (if t = 0 then false && false else decide (t < 0)) = false := by
            split
            · rfl
            · exact decide_eq_false (by omega)
          rw [e]; rfl
theorem nn_root {x : Datum} {k : Nat} (hx : nnD x = true) : ∃ d, x.root k = some d ∧ nnD d = true := by
  cases x with
  | nan => cases hx
  | infinity s => cases s with
    | true => cases hx
    | false => exact ⟨_, rfl, rfl⟩
  | number s m i => cases s with
    | true => cases hx
    | false =>
      by_cases e : m = 0
      · subst e; exact ⟨_, root_zero, rfl⟩
      · unfold Datum.root
        simp only [e, if_false, Bool.false_eq_true]
        exact ⟨_, rfl, rfl⟩
def nn (a : Nat) : Prop := nnD (single.read a) = true
theorem nn_add {a b : Nat} (ha : nn a) (hb : nn b) : nn (fop .add .f32 a b) := by
  obtain ⟨d, h1, h2⟩ := nn_sum ha hb
  have e : floatBits .add .f32 a b = some (single.write d) := by
    show ((single.read a).sum (single.read b)).map single.write = _
    rw [h1]; rfl
  unfold nn fop
  rw [e]
  exact nn_write32 h2
theorem nn_sq {a : Nat} (h : ∃ s m i, single.read a = .number s m i) : nn (fop .mul .f32 a a) := by
  obtain ⟨s, m, i, h⟩ := h
  have e : floatBits .mul .f32 a a = some (single.write (.number (s ^^ s) (m * m) (i + i))) := by
    show ((single.read a).product (single.read a)).map single.write = _
    rw [h]; rfl
  unfold nn fop
  rw [e]
  rw [Bool.xor_self]
  exact nn_write32 (d := .number false (m * m) (i + i)) rfl
theorem nn_cv {a : Nat} (h : nn a) : nnD (double.read (cv a)) = true := by
  unfold nn at h
  cases hd : single.read a with
  | nan => rw [hd] at h; cases h
  | infinity s =>
    rw [hd] at h
    have e : cvU a = double.word s 9218868437227405312 := by
      unfold cvU floatToFloatBits
      rw [if_neg (by decide), show FloatKind.f32.decode a = .infinity s from hd]
      rfl
    show nnD (double.read (cvU a)) = true
    rw [e, read_word64 s (Nat.le_refl _)]
    cases s with
    | true => cases h
    | false => rfl
  | number s m i =>
    rw [hd] at h
    obtain ⟨n, j, h1, _⟩ := up_mag hd
    show nnD (double.read (cvU a)) = true
    rw [h1]
    cases s with
    | true => cases h
    | false => rfl
theorem nn_sqrt {a : Nat} (h : nnD (double.read a) = true) : nnD (double.read (sqrtB a)) = true := by
  obtain ⟨d, h1, h2⟩ := nn_root (k := double.fractionBits + 2) h
  have e : FloatKind.f64.format.sqrt a = some (double.write d) := by
    show ((double.read a).root (double.fractionBits + 2)).map double.write = _
    rw [h1]; rfl
  unfold sqrtB
  rw [e]
  exact nn_write64 h2
theorem nn_dn {a : Nat} (h : nnD (double.read a) = true) (hs : (floatToFloatBits .f64 a .f32).isSome = true) : nn (dn a) := by
  unfold dn nn
  cases hd : double.read a with
  | nan => rw [hd] at h; cases h
  | infinity s =>
    rw [hd] at h
    have e : floatToFloatBits .f64 a .f32 = some (single.write (.infinity s)) := by
      unfold floatToFloatBits
      rw [if_neg (by decide), show FloatKind.f64.decode a = .infinity s from hd]
      rfl
    rw [e]
    exact nn_write32 h
  | number s m i =>
    rw [hd] at h
    have e : floatToFloatBits .f64 a .f32 = some (single.write (.number s m i)) := by
      unfold floatToFloatBits at hs ⊢
      rw [if_neg (by decide), show FloatKind.f64.decode a = .number s m i from hd] at hs ⊢
      dsimp only at hs ⊢
      split at hs
      · cases hs
      · rename_i k; rw [if_neg k]; rfl
    rw [e]
    exact nn_write32 h
theorem nn_not_nan {a : Nat} (h : nnD (double.read a) = true) : (FloatKind.f64.decode a).isNaN = false := by
  show (double.read a).isNaN = false
  cases hd : double.read a with
  | nan => rw [hd] at h; cases h
  | infinity => rfl
  | number => rfl
theorem nn_root32 {a : Nat} (h : nn a) : nn (dn (sqrtB (cv a))) :=
  nn_dn (nn_sqrt (nn_cv h)) (sqrt_some a (nn_not_nan (nn_sqrt (nn_cv h))))
def isN (a : Nat) : Bool := match single.read a with | .number _ _ _ => true | _ => false
theorem isN_of {a : Nat} (h : isN a = true) : ∃ s m i, single.read a = .number s m i := by
  unfold isN at h
  split at h
  · rename_i s m i e; exact ⟨s, m, i, e⟩
  · cases h
end Rg
end Go.Proofs.YteifneielgnniaaGreatDoor.Sh
end
section
namespace Go.Proofs.YteifneielgnniaaGreatDoor.Sh
namespace Rg
open Go Go.Proofs Ieee
/-! ## the order of numbers -/
theorem signed_up (s : Bool) (m a b : Nat) : signed s m (a + b) = signed s m a * ((2 ^ b : Nat) : Int) := by
  unfold signed
  have e : m <<< (a + b) = m <<< a * 2 ^ b := by rw [Nat.shiftLeft_eq, Nat.shiftLeft_eq, Nat.pow_add, Nat.mul_assoc]
  rw [e]
  cases s
  · simp
  · simp [Int.neg_mul]
/-- what a word is worth, in the smallest unit -/
def num (a : Nat) : Int := match single.read a with
  | .number s m i => signed s m (i + 149).toNat
  | _ => 0
def isNum (a : Nat) : Prop := ∃ s m i, single.read a = .number s m i
theorem num_of {a : Nat} {s : Bool} {m : Nat} {i : Int} (h : single.read a = .number s m i) : num a = signed s m (i + 149).toNat := by unfold num; rw [h]
theorem cmp_scale {x y : Int} {c : Nat} (hc : 0 < c) : compare (x * (c : Int)) (y * (c : Int)) = compare x y := by
  have hc' : (0 : Int) < (c : Int) := by omega
  have h1 : x * (c : Int) < y * (c : Int) ↔ x < y := ⟨fun h => Int.lt_of_mul_lt_mul_right h (Int.le_of_lt hc'), fun h => Int.mul_lt_mul_of_pos_right h hc'⟩
  have h2 : x * (c : Int) = y * (c : Int) ↔ x = y := ⟨fun h => Int.eq_of_mul_eq_mul_right (Int.ne_of_gt hc') h, fun h => by rw [h]⟩
  simp only [compare, compareOfLessAndEq, h1, h2]
theorem order_num {a b : Nat} (ha : isNum a) (hb : isNum b) : single.order a b = some (compare (num a) (num b)) := by
  obtain ⟨s, m, i, ha⟩ := ha
  obtain ⟨t, n, j, hb⟩ := hb
  have h1 := (read_num ha).2
  have h2 := (read_num hb).2
  unfold Format.order
  rw [num_of ha, num_of hb, ha, hb]
  simp only [Datum.order]
  have e1 : (i + 149).toNat = (i - min i j).toNat + (min i j + 149).toNat := by omega
  have e2 : (j + 149).toNat = (j - min i j).toNat + (min i j + 149).toNat := by omega
  rw [e1, e2, signed_up, signed_up, cmp_scale (Nat.two_pow_pos _)]
theorem cmp_gt_iff {x y : Int} : (some (compare x y) == some Ordering.gt) = decide (y < x) := by
  simp only [compare, compareOfLessAndEq]
  by_cases h : x < y
  · rw [if_pos h, decide_eq_false (by omega)]; rfl
  · rw [if_neg h]
    by_cases e : x = y
    · rw [if_pos e, decide_eq_false (by omega)]; rfl
    · rw [if_neg e, decide_eq_true (by omega)]; rfl
theorem cmp_ge_iff {x y : Int} : (some (compare x y) == some Ordering.gt || some (compare x y) == some Ordering.eq) = decide (y ≤ x) := by
  simp only [compare, compareOfLessAndEq]
  by_cases h : x < y
  · rw [if_pos h, decide_eq_false (by omega)]; rfl
  · rw [if_neg h]
    by_cases e : x = y
    · rw [if_pos e, decide_eq_true (by omega)]; rfl
    · rw [if_neg e, decide_eq_true (by omega)]; rfl
theorem gtr_num {a b : Nat} (ha : isNum a) (hb : isNum b) : fcmp .gtr .f32 a b = decide (num b < num a) := by
  unfold fcmp
  show (single.order a b == some .gt) = _
  rw [order_num ha hb]
  exact cmp_gt_iff
theorem geq_num {a b : Nat} (ha : isNum a) (hb : isNum b) : fcmp .geq .f32 a b = decide (num b ≤ num a) := by
  unfold fcmp
  show (single.order a b == some .gt || single.order a b == some .eq) = _
  rw [order_num ha hb]
  exact cmp_ge_iff
/-! ## offsets of valid sheets -/
theorem okX_num {a : Nat} (h : okX a = true) : ∃ s m i, single.read a = .number s m i := by
  unfold okX isIn at h
  rw [Bool.and_eq_true] at h
  obtain ⟨h1, h2⟩ := h
  have h1 : (single.order a 3313500160 == some .gt || single.order a 3313500160 == some .eq) = true := h1
  have h2 : (single.order a 1166016512 == some .lt || single.order a 1166016512 == some .eq) = true := h2
  obtain ⟨s1, m1, i1, e1⟩ := isN_of (a := 3313500160) (by decide +kernel)
  obtain ⟨s2, m2, i2, e2⟩ := isN_of (a := 1166016512) (by decide +kernel)
  unfold Format.order at h1 h2
  rw [e1] at h1
  rw [e2] at h2
  cases hd : single.read a with
  | number s m i => exact ⟨s, m, i, rfl⟩
  | nan => rw [hd] at h1; simp [Datum.order] at h1
  | infinity s =>
    rw [hd] at h1 h2
    cases s <;> simp [Datum.order] at h1 h2
theorem sub_num {a b : Nat} (ha : ∃ s m i, single.read a = .number s m i) (hb : ∃ s m i, single.read b = .number s m i) : (single.read (fop .sub .f32 a b)).isNaN = false := by
  obtain ⟨s, m, i, ha⟩ := ha
  obtain ⟨t, n, j, hb⟩ := hb
  have e : floatBits .sub .f32 a b = ((single.read a).sum (single.read b).opposite).map single.write := rfl
  rw [ha, hb] at e
  unfold fop
  rw [e]
  exact nan_write .f32 (Datum.number (if signed s m (i - min i j).toNat + signed (!t) n (j - min i j).toNat = 0 then s && !t else decide (signed s m (i - min i j).toNat + signed (!t) n (j - min i j).toNat < 0)) (signed s m (i - min i j).toNat + signed (!t) n (j - min i j).toNat).natAbs (min i j)) rfl
theorem write_zero (i : Int) : single.write (.number false 0 i) = 0 := by
  unfold Format.write Format.nearest Format.word
  simp
theorem sub_same {a : Nat} (ha : ∃ s m i, single.read a = .number s m i) : fop .sub .f32 a a = 0 := by
  obtain ⟨s, m, i, ha⟩ := ha
  have e : floatBits .sub .f32 a a = ((single.read a).sum (single.read a).opposite).map single.write := rfl
  rw [ha] at e
  have z : signed s m (i - min i i).toNat + signed (!s) m (i - min i i).toNat = 0 := by
    unfold signed
    cases s <;> simp <;> omega
  have e2 : (Datum.number s m i).sum (Datum.number s m i).opposite = some (.number false 0 (min i i)) := by
    show some (Datum.number (if signed s m (i - min i i).toNat + signed (!s) m (i - min i i).toNat = 0 then s && !s else decide (signed s m (i - min i i).toNat + signed (!s) m (i - min i i).toNat < 0)) (signed s m (i - min i i).toNat + signed (!s) m (i - min i i).toNat).natAbs (min i i)) = _
    rw [z]
    simp
  rw [e2] at e
  unfold fop
  rw [e]
  exact write_zero _
theorem nn_sq' {a : Nat} (h : (single.read a).isNaN = false) : nn (fop .mul .f32 a a) := by
  cases hd : single.read a with
  | nan => rw [hd] at h; cases h
  | number s m i => exact nn_sq ⟨s, m, i, hd⟩
  | infinity s =>
    have e : floatBits .mul .f32 a a = some (single.write (.infinity (s ^^ s))) := by
      show ((single.read a).product (single.read a)).map single.write = _
      rw [hd]; rfl
    unfold nn fop
    rw [e, Bool.xor_self]
    exact nn_write32 (d := .infinity false) rfl
theorem nn_size' {m : M} (h1 : (single.read m.1).isNaN = false) (h2 : (single.read m.2).isNaN = false) : nn (sizeM m) := nn_root32 (nn_add (nn_sq' h1) (nn_sq' h2))
theorem okM_at {l : List M} (h : okS l = true) (i : Nat) (hi : i < 16) : okX (at2 l i).1 = true ∧ okX (at2 l i).2 = true := by
  have := allI_at h hi
  unfold okM at this
  rwa [Bool.and_eq_true] at this
theorem off_nn {l : List M} (h : okS l = true) {c k : Nat} (hc : c < 4) (hk : k < 4) : nn (sizeM (offM l c k)) := by
  have a := okM_at h (c * 4 + k) (by omega)
  have b := okM_at h k (by omega)
  exact nn_size' (sub_num (okX_num a.1) (okX_num b.1)) (sub_num (okX_num a.2) (okX_num b.2))
theorem off_zero {l : List M} (h : okS l = true) {k : Nat} (hk : k < 4) : offM l 0 k = (0, 0) := by
  have b := okM_at h k (by omega)
  have e : 0 * 4 + k = k := by omega
  unfold offM minusM
  rw [e, sub_same (okX_num b.1), sub_same (okX_num b.2)]
theorem mean_zero {l : List M} (h : okS l = true) : meanO l 0 = (0, 0) := by
  unfold meanO
  rw [off_zero h (by decide), off_zero h (by decide), off_zero h (by decide), off_zero h (by decide)]
  decide +kernel
theorem great_zero {l : List M} (h : okS l = true) : (grS l 0 3).2 = 0 := by
  have z : sizeM (0, 0) = 0 := by decide +kernel
  have g : fcmp .gtr .f32 0 0 = false := by decide +kernel
  have key : ∀ k, k < 4 → (grS l 0 k).2 = 0 := by
    intro k
    induction k with
    | zero => intro _; show sizeM (offM l 0 0) = 0; rw [off_zero h (by decide), z]
    | succ k ih =>
      intro hk
      have ih := ih (by omega)
      unfold grS
      rw [off_zero h hk, z, ih, g, if_neg (by decide)]
      exact ih
  exact key 3 (by decide)
/-! ## the order of what is not below nought -/
def eN (a : Nat) : Option Int := match single.read a with
  | .number _ _ _ => some (num a)
  | _ => none
def ltE : Option Int → Option Int → Bool
  | some x, some y => decide (x < y)
  | some _, none => true
  | none, _ => false
theorem nn_cases {a : Nat} (h : nn a) : (∃ m i, single.read a = .number false m i) ∨ single.read a = .infinity false := by
  unfold nn at h
  cases hd : single.read a with
  | nan => rw [hd] at h; cases h
  | infinity s => cases s with
    | true => rw [hd] at h; cases h
    | false => exact .inr rfl
  | number s m i => cases s with
    | true => rw [hd] at h; cases h
    | false => exact .inl ⟨m, i, rfl⟩
theorem gtr_E {a b : Nat} (ha : nn a) (hb : nn b) : fcmp .gtr .f32 a b = ltE (eN b) (eN a) := by
  rcases nn_cases ha with ⟨m, i, h1⟩ | h1 <;> rcases nn_cases hb with ⟨n, j, h2⟩ | h2
  · have e1 : eN a = some (num a) := by unfold eN; rw [h1]
    have e2 : eN b = some (num b) := by unfold eN; rw [h2]
    rw [gtr_num ⟨_, _, _, h1⟩ ⟨_, _, _, h2⟩, e1, e2]; rfl
  · have e1 : eN a = some (num a) := by unfold eN; rw [h1]
    have e2 : eN b = none := by unfold eN; rw [h2]
    show (single.order a b == some .gt) = _
    unfold Format.order
    rw [h1, h2, e1, e2]; rfl
  · have e1 : eN a = none := by unfold eN; rw [h1]
    have e2 : eN b = some (num b) := by unfold eN; rw [h2]
    show (single.order a b == some .gt) = _
    unfold Format.order
    rw [h1, h2, e1, e2]; rfl
  · have e1 : eN a = none := by unfold eN; rw [h1]
    have e2 : eN b = none := by unfold eN; rw [h2]
    show (single.order a b == some .gt) = _
    unfold Format.order
    rw [h1, h2, e1, e2]; rfl
theorem geq_E {a b : Nat} (ha : nn a) (hb : nn b) : fcmp .geq .f32 a b = !ltE (eN a) (eN b) := by
  rcases nn_cases ha with ⟨m, i, h1⟩ | h1 <;> rcases nn_cases hb with ⟨n, j, h2⟩ | h2
  · have e1 : eN a = some (num a) := by unfold eN; rw [h1]
    have e2 : eN b = some (num b) := by unfold eN; rw [h2]
    rw [geq_num ⟨_, _, _, h1⟩ ⟨_, _, _, h2⟩, e1, e2]
    show _ = !decide (num a < num b)
    by_cases h : num a < num b
    · rw [decide_eq_true h, decide_eq_false (by omega)]; rfl
    · rw [decide_eq_false h, decide_eq_true (by omega)]; rfl
  · have e1 : eN a = some (num a) := by unfold eN; rw [h1]
    have e2 : eN b = none := by unfold eN; rw [h2]
    show (single.order a b == some .gt || single.order a b == some .eq) = _
    unfold Format.order
    rw [h1, h2, e1, e2]; rfl
  · have e1 : eN a = none := by unfold eN; rw [h1]
    have e2 : eN b = some (num b) := by unfold eN; rw [h2]
    show (single.order a b == some .gt || single.order a b == some .eq) = _
    unfold Format.order
    rw [h1, h2, e1, e2]; rfl
  · have e1 : eN a = none := by unfold eN; rw [h1]
    have e2 : eN b = none := by unfold eN; rw [h2]
    show (single.order a b == some .gt || single.order a b == some .eq) = _
    unfold Format.order
    rw [h1, h2, e1, e2]; rfl
theorem neq_E {a : Nat} (h : nn a) : fcmp .neq .f32 a a = false := by
  have := isNan_eq a
  rcases nn_cases h with ⟨m, i, h1⟩ | h1
  · rw [h1] at this; exact this
  · rw [h1] at this; exact this
theorem ltE_irr (a : Option Int) : ltE a a = false := by
  cases a with
  | none => rfl
  | some x => exact decide_eq_false (by omega)
theorem ltE_asym {a b : Option Int} (h : ltE a b = true) : ltE b a = false := by
  cases a <;> cases b <;> simp_all [ltE] <;> omega
theorem ltE_le' {a b c : Option Int} (h : ltE b a = false) (k : ltE b c = true) : ltE a c = true := by
  cases a <;> cases b <;> cases c <;> simp_all [ltE] <;> omega
theorem ltE_nt {a b c : Option Int} (h : ltE a b = false) (k : ltE b c = false) : ltE a c = false := by
  cases a <;> cases b <;> cases c <;> simp_all [ltE] <;> omega
/-- the first greatest -/
theorem gr_max {l : List M} {c : Nat} (hn : ∀ k, k < 4 → nn (sizeM (offM l c k))) : ∀ j, j < 4 →
    (grS l c j).1 ≤ j ∧ (grS l c j).2 = sizeM (offM l c (grS l c j).1) ∧ (∀ k, k ≤ j → ltE (eN (grS l c j).2) (eN (sizeM (offM l c k))) = false) ∧ (∀ k, k < (grS l c j).1 → ltE (eN (sizeM (offM l c k))) (eN (grS l c j).2) = true)
  | 0, _ => by
    refine ⟨Nat.le_refl _, rfl, fun k hk => ?_, fun k hk => ?_⟩
    · have : k = 0 := by omega
      subst this; exact ltE_irr _
    · exact absurd hk (by show ¬ k < 0; omega)
  | j + 1, hj => by
    obtain ⟨i1, i2, i3, i4⟩ := gr_max hn j (by omega)
    have hb : nn (grS l c j).2 := by rw [i2]; exact hn _ (by omega)
    unfold grS
    rw [gtr_E (hn (j + 1) hj) hb]
    by_cases h : ltE (eN (grS l c j).2) (eN (sizeM (offM l c (j + 1)))) = true
    · rw [if_pos h]
      refine ⟨Nat.le_refl _, rfl, fun k hk => ?_, fun k hk => ?_⟩
      · by_cases e : k = j + 1
        · subst e; exact ltE_irr _
        · exact ltE_nt (ltE_asym h) (i3 k (by omega))
      · have hk : k < j + 1 := hk
        exact ltE_le' (i3 k (by omega)) h
    · have h := Bool.eq_false_iff.2 h
      rw [if_neg (by rw [h]; decide)]
      refine ⟨by omega, i2, fun k hk => ?_, i4⟩
      by_cases e : k = j + 1
      · subst e; exact h
      · exact i3 k (by omega)
theorem great_facts {l : List M} {c k : Nat} (h : okS l = true) (hc : c < 4) (hk : k < 4) :
    fcmp .gtr .f32 (sizeM (offM l c k)) (grS l c 3).2 = false ∧ (k < (grS l c 3).1 → fcmp .geq .f32 (sizeM (offM l c k)) (grS l c 3).2 = false) ∧ (k = (grS l c 3).1 → fcmp .neq .f32 (sizeM (offM l c k)) (grS l c 3).2 = false) := by
  have hn : ∀ k, k < 4 → nn (sizeM (offM l c k)) := fun k hk => off_nn h hc hk
  obtain ⟨i1, i2, i3, i4⟩ := gr_max hn 3 (by decide)
  have hb : nn (grS l c 3).2 := by rw [i2]; exact hn _ (by omega)
  refine ⟨?_, fun e => ?_, fun e => ?_⟩
  · rw [gtr_E (hn k hk) hb]; exact i3 k (by omega)
  · rw [geq_E (hn k hk) hb, i4 k e]; rfl
  · rw [i2, ← e]; exact neq_E (hn k hk)
end Rg
end Go.Proofs.YteifneielgnniaaGreatDoor.Sh
end
