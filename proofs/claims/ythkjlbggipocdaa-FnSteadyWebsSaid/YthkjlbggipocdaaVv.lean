/- What what the law of steady webs needs of this seat compute, each shown once. No condition. -/
import Derived.Test.YthkjlbggipocdaaVt
set_option linter.unusedVariables false
set_option linter.unusedSimpArgs false
set_option linter.unusedSectionVars false
namespace Go.Proofs.Ythkjlbggipocdaa.Sh
open Go Go.Proofs
open Go Go.Proofs Ieee
/-! ## the order of numbers -/
theorem signed_up (s : Bool) (m a b : Nat) : signed s m (a + b) = signed s m a * ((2 ^ b : Nat) : Int) := by
  unfold signed
  have e : m <<< (a + b) = m <<< a * 2 ^ b := by rw [Nat.shiftLeft_eq, Nat.shiftLeft_eq, Nat.pow_add, Nat.mul_assoc]
  rw [e]
  cases s
  · simp
  · simp [Int.neg_mul]
/-- what a word is worth, in the smallest unit -/
def num (a : Nat) : Int := match single.read a with
  | .number s m i => signed s m (i + 149).toNat
  | _ => 0
def isNum (a : Nat) : Prop := ∃ s m i, single.read a = .number s m i
theorem num_of {a : Nat} {s : Bool} {m : Nat} {i : Int} (h : single.read a = .number s m i) : num a = signed s m (i + 149).toNat := by unfold num; rw [h]
theorem cmp_scale {x y : Int} {c : Nat} (hc : 0 < c) : compare (x * (c : Int)) (y * (c : Int)) = compare x y := by
  have hc' : (0 : Int) < (c : Int) := by omega
  have h1 : x * (c : Int) < y * (c : Int) ↔ x < y := ⟨fun h => Int.lt_of_mul_lt_mul_right h (Int.le_of_lt hc'), fun h => Int.mul_lt_mul_of_pos_right h hc'⟩
  have h2 : x * (c : Int) = y * (c : Int) ↔ x = y := ⟨fun h => Int.eq_of_mul_eq_mul_right (Int.ne_of_gt hc') h, fun h => by rw [h]⟩
  simp only [compare, compareOfLessAndEq, h1, h2]
theorem order_num {a b : Nat} (ha : isNum a) (hb : isNum b) : single.order a b = some (compare (num a) (num b)) := by
  obtain ⟨s, m, i, ha⟩ := ha
  obtain ⟨t, n, j, hb⟩ := hb
  have h1 := (read_num ha).2
  have h2 := (read_num hb).2
  unfold Format.order
  rw [num_of ha, num_of hb, ha, hb]
  simp only [Datum.order]
  have e1 : (i + 149).toNat = (i - min i j).toNat + (min i j + 149).toNat := by omega
  have e2 : (j + 149).toNat = (j - min i j).toNat + (min i j + 149).toNat := by omega
  rw [e1, e2, signed_up, signed_up, cmp_scale (Nat.two_pow_pos _)]
theorem cmp_gt_iff {x y : Int} : (some (compare x y) == some Ordering.gt) = decide (y < x) := by
  simp only [compare, compareOfLessAndEq]
  by_cases h : x < y
  · rw [if_pos h, decide_eq_false (by omega)]; rfl
  · rw [if_neg h]
    by_cases e : x = y
    · rw [if_pos e, decide_eq_false (by omega)]; rfl
    · rw [if_neg e, decide_eq_true (by omega)]; rfl
theorem cmp_ge_iff {x y : Int} : (some (compare x y) == some Ordering.gt || some (compare x y) == some Ordering.eq) = decide (y ≤ x) := by
  simp only [compare, compareOfLessAndEq]
  by_cases h : x < y
  · rw [if_pos h, decide_eq_false (by omega)]; rfl
  · rw [if_neg h]
    by_cases e : x = y
    · rw [if_pos e, decide_eq_true (by omega)]; rfl
    · rw [if_neg e, decide_eq_true (by omega)]; rfl
theorem gtr_num {a b : Nat} (ha : isNum a) (hb : isNum b) : fcmp .gtr .f32 a b = decide (num b < num a) := by
  unfold fcmp
  show (single.order a b == some .gt) = _
  rw [order_num ha hb]
  exact cmp_gt_iff
theorem geq_num {a b : Nat} (ha : isNum a) (hb : isNum b) : fcmp .geq .f32 a b = decide (num b ≤ num a) := by
  unfold fcmp
  show (single.order a b == some .gt || single.order a b == some .eq) = _
  rw [order_num ha hb]
  exact cmp_ge_iff
theorem neq_num {a : Nat} (ha : isNum a) : fcmp .neq .f32 a a = false := by
  obtain ⟨s, m, i, ha⟩ := ha
  have := isNan_eq a
  rw [ha] at this
  exact this
/-- between two bounds there are only numbers -/
theorem isIn_isNum {a lo hi : Nat} {s t : Bool} {m n : Nat} {i j : Int} (hlo : single.read lo = .number s m i) (hhi : single.read hi = .number t n j) (h : isIn a lo hi = true) : isNum a := by
  unfold isIn fcmp at h
  simp only [Format.order, FloatKind.format, hlo, hhi, Bool.and_eq_true] at h
  cases hr : single.read a with
  | number s m i => exact ⟨s, m, i, hr⟩
  | nan u v => rw [hr] at h; simp [Datum.order] at h
  | infinity u => rw [hr] at h; cases u <;> simp [Datum.order] at h
theorem plain_num {a : Nat} (h : isPlain a = true) : isNum a := isIn_isNum (lo := 3380609024) (hi := 1233125376) (s := true) (m := 8388608) (i := -3) (t := false) (n := 8388608) (j := -3) (by decide) (by decide) h
theorem spd_num {a : Nat} (h : isSpd a = true) : isNum a := isIn_isNum (lo := 1031798784) (hi := 1149239296) (s := false) (m := 8388608) (i := -27) (t := false) (n := 8388608) (j := -13) (by decide) (by decide) h
theorem num_zero : isNum 0 := ⟨false, 0, -149, by decide⟩
/-! ## the tightest span -/
theorem bestT_max {l : List Nat} : ∀ {k : Nat}, (∀ i, i < k → isNum (l.getD (i * 3 + 2) 0)) → 1 ≤ k →
    (∀ i, i < k → num (l.getD (i * 3 + 2) 0) ≤ num (l.getD (bestT l k * 3 + 2) 0)) ∧ (∀ i, i < bestT l k → num (l.getD (i * 3 + 2) 0) < num (l.getD (bestT l k * 3 + 2) 0)) ∧ bestT l k < k
  | 1, h, _ => by
    rw [bestT_one]
    exact ⟨fun i hi => by rw [show i = 0 by omega]; exact Int.le_refl _, fun i hi => by omega, by decide⟩
  | k + 2, h, _ => by
    obtain ⟨h1, h2, h3⟩ := bestT_max (l := l) (k := k + 1) (fun i hi => h i (by omega)) (by omega)
    have hb := h (bestT l (k + 1)) (by omega)
    have hk := h (k + 1) (by omega)
    have hg := gtr_num hk hb
    have e : bestT l (k + 2) = if fcmp .gtr .f32 (l.getD ((k + 1) * 3 + 2) 0) (l.getD (bestT l (k + 1) * 3 + 2) 0) = true then k + 1 else bestT l (k + 1) := rfl
    rw [e, hg]
    by_cases c : num (l.getD (bestT l (k + 1) * 3 + 2) 0) < num (l.getD ((k + 1) * 3 + 2) 0)
    · rw [if_pos (by simpa using c)]
      refine ⟨fun i hi => ?_, fun i hi => ?_, by omega⟩
      · by_cases e : i = k + 1
        · rw [e]; exact Int.le_refl _
        · have := h1 i (by omega); omega
      · have := h1 i hi; omega
    · rw [if_neg (by simpa using c)]
      refine ⟨fun i hi => ?_, h2, by omega⟩
      by_cases e : i = k + 1
      · rw [e]; omega
      · exact h1 i (by omega)
  | 0, _, h => by omega
/-! ## the slack spans -/
theorem slackL_mem {l : List Nat} : ∀ {k : Nat} {x : Int}, x ∈ slackL l k ↔ ∃ i : Nat, x = (i : Int) ∧ i < k ∧ fcmp .gtr .f32 (l.getD (i * 3 + 2) 0) 0 = false
  | 0, x => by simp [slackL]
  | k + 1, x => by
    unfold slackL
    split
    · rename_i h
      rw [slackL_mem]
      constructor
      · rintro ⟨i, h1, h2, h3⟩; exact ⟨i, h1, by omega, h3⟩
      · rintro ⟨i, h1, h2, h3⟩
        refine ⟨i, h1, ?_, h3⟩
        by_cases e : i = k
        · subst e; rw [h] at h3; cases h3
        · omega
    · rename_i h
      rw [List.mem_append, slackL_mem]
      constructor
      · rintro (⟨i, h1, h2, h3⟩ | h1)
        · exact ⟨i, h1, by omega, h3⟩
        · exact ⟨k, by simpa using h1, by omega, by simpa using h⟩
      · rintro ⟨i, h1, h2, h3⟩
        by_cases e : i = k
        · right; subst e; simpa using h1
        · left; exact ⟨i, h1, by omega, h3⟩
theorem allI_iff {p : Nat → Bool} {n : Nat} : allI p n = true ↔ ∀ i, i < n → p i = true := ⟨fun h i hi => allI_at h hi, allI_all⟩
theorem has_mem {l : List Int} {x : Int} {n : Nat} (hn : l.length = n) : (!allI (hasI 0 l x) n) = decide (x ∈ l) := by
  rw [Bool.eq_iff_iff]
  simp only [Bool.not_eq_true', decide_eq_true_eq]
  constructor
  · intro h
    by_cases hx : x ∈ l
    · exact hx
    · exfalso
      have : allI (hasI 0 l x) n = true := allI_all fun i hi => by
        unfold hasI
        rw [Nat.zero_add]
        have hm : l.getD i 0 ∈ l := by
          rw [List.getD_eq_getElem?_getD, List.getElem?_eq_getElem (by omega)]
          exact List.getElem_mem _
        have : l.getD i 0 ≠ x := fun e => hx (e ▸ hm)
        simpa using this
      rw [this] at h; cases h
  · intro hx
    obtain ⟨i, hi, e⟩ := List.getElem_of_mem hx
    refine allI_no (i := i) (by omega) ?_
    unfold hasI
    rw [Nat.zero_add, List.getD_eq_getElem?_getD, List.getElem?_eq_getElem hi, Option.getD_some, e]
    simp
theorem slack_has {l : List Nat} {n i : Nat} (hi : i < n) : (!allI (hasI 0 (slackL l n) (i : Int)) (slackL l n).length) = !fcmp .gtr .f32 (l.getD (i * 3 + 2) 0) 0 := by
  rw [has_mem rfl, Bool.eq_iff_iff, decide_eq_true_eq, slackL_mem]
  constructor
  · rintro ⟨j, h1, h2, h3⟩
    have : j = i := by omega
    subst this
    rw [h3]; rfl
  · intro h
    exact ⟨i, rfl, hi, by simpa using h⟩
/-! ## webs that have settled -/
theorem sk_char {st sp fd tm n w : Nat} : ∀ {m k : Nat} {l : List Nat} {c : Nat}, webOk st sp fd l n = true → settleK st sp fd tm n w m k l = (0, c) →
    ∃ j, j ≤ m ∧ c = k + j ∧ stillW st sp fd (runW st sp fd tm n l j) n w = true ∧ webOk st sp fd (runW st sp fd tm n l j) n = true
  | 0, k, l, c, hw, h => by
    unfold settleK at h
    split at h
    · rename_i h1
      simp only [Prod.mk.injEq] at h
      exact ⟨0, Nat.le_refl _, by omega, h1, hw⟩
    · simp at h
  | m + 1, k, l, c, hw, h => by
    unfold settleK at h
    split at h
    · rename_i h1
      simp only [Prod.mk.injEq] at h
      exact ⟨0, Nat.zero_le _, by omega, h1, hw⟩
    · split at h
      · rename_i h2
        obtain ⟨j, g1, g2, g3, g4⟩ := sk_char h2 h
        rw [runW_next] at g3 g4
        exact ⟨j + 1, by omega, by omega, g3, g4⟩
      · simp at h
theorem settle_char {st sp fd n tm w : Nat} {l : List Nat} {most : Int} (h : ((settleC st sp fd l n tm w most).1 == 0) = true) :
    (settleC st sp fd l n tm w most).2 ≤ most.toNat ∧ stillW st sp fd (runW st sp fd tm n l (settleC st sp fd l n tm w most).2) n w = true ∧ webOk st sp fd (runW st sp fd tm n l (settleC st sp fd l n tm w most).2) n = true := by
  obtain ⟨h1, h2⟩ := settle_ok h
  rw [settle_go h1 h2] at h ⊢
  generalize hr : settleK st sp fd tm n w most.toNat 0 l = r at *
  obtain ⟨a, c⟩ := r
  have h : a = 0 := by simpa using h
  subst h
  obtain ⟨j, g1, g2, g3, g4⟩ := sk_char h1 hr
  have e : c = j := by omega
  subst e
  exact ⟨g1, g3, g4⟩
theorem still_at {st sp fd n w : Nat} {l : List Nat} (h : stillW st sp fd l n w = true) {i : Nat} (hi : i < n) : fcmp .leq .f32 (sizeF (rateW st sp fd l i)) w = true := by
  have : stillI st sp fd l w i = true := allI_at h hi
  exact this
/-- what it answers -/
theorem sk_code {st sp fd tm n w : Nat} : ∀ {m k : Nat} {l : List Nat}, (settleK st sp fd tm n w m k l).1 = 0 ∨ (settleK st sp fd tm n w m k l).1 = 7 ∨ (settleK st sp fd tm n w m k l).1 = 4
  | 0, k, l => by unfold settleK; split <;> simp
  | m + 1, k, l => by
    unfold settleK
    split
    · simp
    · split
      · exact sk_code
      · simp
/-! ## what the law of steady webs needs -/
theorem d_film : allR 64 (fun a => isFilm (fq (a : Int) 1082130432)) = true := by decide +kernel
theorem steadyW_ten (st sp fd : Nat) {l : List Nat} {n i : Nat} (hi : i < n) : (steadyW st sp fd l n).getD (i * 3 + 2) 0 = steadyS st sp fd l (i + 1) := by
  unfold steadyW tenTo
  rw [fillTo_lo _ _ (by omega)]
  unfold tenF
  rw [if_pos (by omega), show (i * 3 + 2) / 3 = i by omega]
theorem steadyW_spd (st sp fd : Nat) {l : List Nat} {n i : Nat} (hi : i < n) : (steadyW st sp fd l n).getD (i * 3 + 1) 0 = l.getD (i * 3 + 1) 0 := by
  unfold steadyW tenTo
  rw [fillTo_lo _ _ (by omega)]
  unfold tenF
  rw [if_neg (by omega)]
theorem steady_same (st sp fd : Nat) {l : List Nat} {n i : Nat} (hi : i < n) : eqW ((steadyW st sp fd l n).getD (i * 3 + 2) 0) ((steadyL st sp fd l n).getD i 0) = true := by
  rw [steadyW_ten st sp fd hi, steadyL_get st sp fd l hi]
  exact eqW_self _
theorem steady_keeps {st sp fd : Nat} {l : List Nat} {n i : Nat} (hw : webOk st sp fd l n = true) (hi : i < n) : fcmp .neq .f32 ((steadyW st sp fd l n).getD (i * 3 + 1) 0) (l.getD (i * 3 + 1) 0) = false := by
  rw [steadyW_spd st sp fd hi]
  exact neq_num (spd_num (webOk_at hw hi).2.1)
theorem steadyW_len (st sp fd : Nat) {l : List Nat} {n : Nat} (hl : l.length = 3 * n) : (steadyW st sp fd l n).length = 3 * n := by
  unfold steadyW
  rw [tenTo_len _ _ (by omega)]; exact hl
theorem forTo_len3 (st sp fd t : Nat) {l : List Nat} {n : Nat} (hl : l.length = 3 * n) : (forTo st sp fd t l n).length = 3 * n := by
  rw [forTo_len _ _ _ _ _ (by omega)]; exact hl
theorem tight_ok {st sp fd : Nat} {l : List Nat} {n : Nat} (hw : webOk st sp fd l n = true) : tightW st sp fd l n = (((bestT l n : Nat) : Int), l.getD (bestT l n * 3 + 2) 0, 0) := by
  unfold tightW
  rw [if_pos hw]
theorem web_n {st sp fd : Nat} {l : List Nat} {n : Nat} (hw : webOk st sp fd l n = true) : 1 ≤ n ∧ n ≤ 8 := by
  unfold webOk at hw
  simp only [Bool.and_eq_true, decide_eq_true_eq] at hw
  exact hw.1.2
theorem web_nums {st sp fd : Nat} {l : List Nat} {n : Nat} (hw : webOk st sp fd l n = true) : ∀ i, i < n → isNum (l.getD (i * 3 + 2) 0) := fun _ hi => plain_num (webOk_at hw hi).2.2
theorem tight_le {st sp fd : Nat} {l : List Nat} {n i : Nat} (hw : webOk st sp fd l n = true) (hi : i < n) : fcmp .gtr .f32 (l.getD (i * 3 + 2) 0) (l.getD (bestT l n * 3 + 2) 0) = false := by
  obtain ⟨h1, h2, h3⟩ := bestT_max (web_nums hw) (web_n hw).1
  rw [gtr_num (web_nums hw i hi) (web_nums hw _ h3)]
  have := h1 i hi
  exact decide_eq_false (by omega)
theorem tight_lt {st sp fd : Nat} {l : List Nat} {n i : Nat} (hw : webOk st sp fd l n = true) (hi : i < bestT l n) : fcmp .geq .f32 (l.getD (i * 3 + 2) 0) (l.getD (bestT l n * 3 + 2) 0) = false := by
  obtain ⟨h1, h2, h3⟩ := bestT_max (web_nums hw) (web_n hw).1
  rw [geq_num (web_nums hw i (by omega)) (web_nums hw _ h3)]
  have := h2 i hi
  exact decide_eq_false (by omega)
theorem settle_codes {st sp fd tm w n : Nat} {l : List Nat} (hw : webOk st sp fd l n = true) (ht : isTime tm = true) (hf : isFilm w = true) : (settleC st sp fd l n tm w 60).1 = 0 ∨ (settleC st sp fd l n tm w 60).1 = 7 ∨ (settleC st sp fd l n tm w 60).1 = 4 := by
  rw [settle_go hw (by rw [ht, hf]; rfl)]
  exact sk_code
theorem slack_le {l : List Nat} : ∀ {n : Nat}, (slackL l n).length ≤ n
  | 0 => Nat.le_refl _
  | n + 1 => by
    have := slack_le (l := l) (n := n)
    unfold slackL
    split
    · omega
    · simp; omega
theorem rows_self {l : List Nat} {o n : Nat} : allI (rowSame eqW o o l l) n = true := allI_all fun i _ => eqW_self _
theorem rowEq_self {l : List Int} {o n : Nat} : allI (rowEq o o l l) n = true := allI_all fun i _ => by unfold rowEq; simp
theorem fn3 : FnOk Try.prog 3 Try.f3 (bodyOf Try.f3) := ⟨Try.func3, rfl, by rfl⟩
theorem le60 {c : Nat} (h : c ≤ 60) : (c : Int) ≤ 60 := by omega
theorem ne_tt {a b : Int} (h : a ≠ b) : (a != b) = true := by simpa using h
theorem eq_47 {a : Int} (h : a = 4) : (a == 7) = false := by subst h; rfl
theorem bool_ft (b : Bool) : b = false ∨ b = true := by cases b <;> simp
theorem inl {l : List Nat} {n i : Nat} (h : l.length = n) (hi : i < n) : 0 + ((i : Nat) : Int).toNat * 1 < l.length := by rw [Int.toNat_natCast]; omega
theorem in3d {l : List Nat} {n i : Nat} (h : l.length = 3 * n) (hi : i < n) : 0 + ((i : Nat) : Int).toNat * 3 + 1 < l.length := by rw [Int.toNat_natCast]; omega
theorem cut_13_5 : cutR 5 (cutR 13 (bodyOf Try.f3)) = cutR 19 (bodyOf Try.f3) := by rfl
theorem cut_12_0 : cutR 0 (cutR 12 (bodyOf Try.f3)) = cutR 13 (bodyOf Try.f3) := by rfl
def E3 : Env := fun g => envGetL [(24, ⟨true, s24, none⟩), (25, ⟨true, s25, none⟩), (26, ⟨true, s26, none⟩), (27, ⟨true, sNo, some (s27T, s27F)⟩), (28, ⟨true, sNo, some (s28T, s28F)⟩), (29, ⟨true, sNo, some (s29T, s29F)⟩), (30, ⟨true, sNo, some (s30T, s30F)⟩), (31, ⟨true, sNo, some (s31T, s31F)⟩), (32, ⟨true, sNo, some (s32T, s32F)⟩), (33, ⟨true, s33, none⟩), (34, ⟨true, s34, none⟩), (35, ⟨true, (orSpec s35 s35n), none⟩), (36, ⟨true, (orSpec s36 s36n), none⟩), (37, ⟨true, s37, none⟩), (38, ⟨true, s38, none⟩), (39, ⟨true, s39, none⟩), (40, ⟨true, sNo, some (s40T, s40F)⟩), (41, ⟨true, sNo, some (s41T, s41F)⟩), (42, ⟨true, s99, none⟩), (43, ⟨true, s100, none⟩), (44, ⟨true, sNo, some (s44T, s44F)⟩), (45, ⟨true, sNo, some (s45T, s45F)⟩), (46, ⟨true, s46, none⟩), (47, ⟨true, s47, none⟩)] g
theorem E3ok : EnvOk Try.prog E3 := envOk_cons ok24 (envOk_cons ok25 (envOk_cons ok26 (envOk_alt ok27T ok27F (envOk_alt ok28T ok28F (envOk_alt ok29T ok29F (envOk_alt ok30T ok30F (envOk_alt ok31T ok31F (envOk_alt ok32T ok32F (envOk_cons ok33 (envOk_cons ok34 (envOk_cons ok35c (envOk_cons ok36c (envOk_cons ok37 (envOk_cons ok38 (envOk_cons ok39 (envOk_alt ok40T ok40F (envOk_alt ok41T ok41F (envOk_cons ok42 (envOk_cons ok43 (envOk_alt ok44T ok44F (envOk_alt ok45T ok45F (envOk_cons ok46 (envOk_cons ok47 (envOk_nil _))))))))))))))))))))))))
end Go.Proofs.Ythkjlbggipocdaa.Sh
