/- What sixteenths, products and adjustments of this seat compute, each shown once. No condition. -/
import Derived.Test.YtanndlifpojenaaVf
set_option linter.unusedVariables false
set_option linter.unusedSimpArgs false
set_option linter.unusedSectionVars false
namespace Go.Proofs.Ytanndlifpojenaa.Sh
open Go Go.Proofs
section
open Go Ieee
/-! ## sixteenths are added exactly -/
/-- the word of n / 16 -/
def w16 (n : Int) : Nat := single.nearest (decide (n < 0)) n.natAbs (-4)
theorem log_shl {m a : Nat} (hm : m ≠ 0) : (m <<< a).log2 = m.log2 + a := by
  have hne : m <<< a ≠ 0 := by rw [Nat.shiftLeft_eq]; exact Nat.mul_ne_zero hm (Nat.ne_of_gt (Nat.two_pow_pos a))
  apply Nat.le_antisymm
  · apply Nat.le_of_lt_succ
    rw [Nat.log2_lt hne, Nat.shiftLeft_eq, Nat.succ_eq_add_one, show m.log2 + a + 1 = (m.log2 + 1) + a by omega, Nat.pow_add]
    exact Nat.mul_lt_mul_of_pos_right Nat.lt_log2_self (Nat.two_pow_pos _)
  · rw [Nat.le_log2 hne, Nat.shiftLeft_eq, Nat.pow_add]
    exact Nat.mul_le_mul_right _ (Nat.log2_self_le hm)
theorem last_shl {m a : Nat} (hm : m ≠ 0) (hl : m.log2 ≤ 23) : lastOf (m <<< a) (-4 - a) = -4 - (23 - m.log2 : Nat) := by
  unfold lastOf
  rw [log_shl hm]
  omega
theorem kept_shl (s : Bool) {m a : Nat} (hm : m ≠ 0) (hl : m.log2 ≤ 23) : keptOf s (m <<< a) (-4 - a) = m <<< (23 - m.log2) := by
  unfold keptOf
  rw [last_shl hm hl]
  generalize hd : 23 - m.log2 = d
  by_cases h : a ≤ d
  · rw [show (-4 - (d : Int) - (-4 - (a : Int))).toNat = 0 by omega, show (-4 - (a : Int) - (-4 - (d : Int))).toNat = d - a by omega, cut_zero, ← Nat.shiftLeft_add, show a + (d - a) = d by omega]
  · rw [show (-4 - (a : Int) - (-4 - (d : Int))).toNat = 0 by omega, show (-4 - (d : Int) - (-4 - (a : Int))).toNat = a - d by omega, Nat.shiftLeft_zero]
    have e : m <<< a = (m <<< d) <<< (a - d) := by rw [← Nat.shiftLeft_add, show d + (a - d) = a by omega]
    rw [e]
    exact cut_exact s (by rw [Nat.shiftLeft_eq]; exact Nat.mul_ne_zero hm (Nat.ne_of_gt (Nat.two_pow_pos d)))
theorem near_shl (s : Bool) {m a : Nat} (hm : m ≠ 0) (hl : m.log2 ≤ 23) : single.nearest s (m <<< a) (-4 - a) = single.nearest s m (-4) := by
  have hne : m <<< a ≠ 0 := by rw [Nat.shiftLeft_eq]; exact Nat.mul_ne_zero hm (Nat.ne_of_gt (Nat.two_pow_pos a))
  have h0 := last_shl (a := 0) hm hl
  have k0 := kept_shl s (a := 0) hm hl
  simp only [Nat.shiftLeft_zero, Int.natCast_zero, Int.sub_zero, show ((0 : Nat) : Int) = 0 from rfl] at h0 k0
  rw [nearest_eq s hne, nearest_eq s hm, last_shl hm hl, kept_shl s hm hl, h0, k0]
theorem shl23 {m : Nat} (hm : m ≠ 0) (hl : m.log2 ≤ 23) : 8388608 ≤ m <<< (23 - m.log2) ∧ m <<< (23 - m.log2) < 16777216 := by
  rw [Nat.shiftLeft_eq]
  have h1 := Nat.log2_self_le hm
  have h2 : m < 2 ^ (m.log2 + 1) := Nat.lt_log2_self
  constructor
  · have e : 2 ^ m.log2 * 2 ^ (23 - m.log2) = 8388608 := by rw [← Nat.pow_add, show m.log2 + (23 - m.log2) = 23 by omega]
    rw [← e]
    exact Nat.mul_le_mul_right _ h1
  · have e : 2 ^ (m.log2 + 1) * 2 ^ (23 - m.log2) = 16777216 := by rw [← Nat.pow_add, show m.log2 + 1 + (23 - m.log2) = 24 by omega]
    rw [← e]
    exact Nat.mul_lt_mul_of_pos_right h2 (Nat.two_pow_pos _)
theorem read_w16 {n : Int} (h : n.natAbs < 16777216) : ∃ a : Nat, single.read (w16 n) = .number (decide (n < 0)) (n.natAbs <<< a) (-4 - a) := by
  unfold w16
  by_cases hn : n = 0
  · subst hn
    exact ⟨145, by decide +kernel⟩
  · have hm : n.natAbs ≠ 0 := by omega
    have hl : n.natAbs.log2 ≤ 23 := by
      have : n.natAbs.log2 < 24 := (Nat.log2_lt hm).2 (by omega)
      omega
    have hb := shl23 hm hl
    have h0 := last_shl (a := 0) hm hl
    have k0 := kept_shl (decide (n < 0)) (a := 0) hm hl
    simp only [Nat.shiftLeft_zero, Int.sub_zero, show ((0 : Nat) : Int) = 0 from rfl] at h0 k0
    refine ⟨23 - n.natAbs.log2, ?_⟩
    rw [nearest_eq _ hm, h0, k0]
    generalize n.natAbs <<< (23 - n.natAbs.log2) = K at *
    generalize hd : 23 - n.natAbs.log2 = d at *
    have hd' : d ≤ 23 := by omega
    have e1 : (-4 - (d : Int) + 149).toNat = 145 - d := by omega
    rw [e1, Nat.min_eq_left (by omega), read_word _ (by omega), if_neg (by omega), if_pos (by omega)]
    have e2 : ((145 - d) * 8388608 + K) % 8388608 = K - 8388608 := by omega
    have e3 : ((145 - d) * 8388608 + K) / 8388608 = 146 - d := by omega
    rw [e2, e3, show 8388608 + (K - 8388608) = K by omega, show (-149 : Int) + ((146 - d - 1 : Nat) : Int) = -4 - d by omega]
theorem signed_shl (n : Int) (a c : Nat) (h : a ≤ c) : signed (decide (n < 0)) (n.natAbs <<< a) (c - a) = n * (2 ^ c : Nat) := by
  unfold signed
  rw [← Nat.shiftLeft_add, show a + (c - a) = c by omega, Nat.shiftLeft_eq, Int.natCast_mul]
  by_cases hn : n < 0
  · rw [if_pos (by simpa using hn), ← Int.neg_mul, show -((n.natAbs : Nat) : Int) = n by omega]
  · rw [if_neg (by simpa using hn), show ((n.natAbs : Nat) : Int) = n by omega]
theorem add_w16 {n k : Int} (hn : n.natAbs < 4194304) (hk : k.natAbs < 4194304) : fop .add .f32 (w16 n) (w16 k) = w16 (n + k) := by
  obtain ⟨a, ha⟩ := read_w16 (n := n) (by omega)
  obtain ⟨b, hb⟩ := read_w16 (n := k) (by omega)
  rw [fop_add_num ha hb]
  unfold Datum.sum
  simp only [Option.getD_some]
  have hc : min (-4 - (a : Int)) (-4 - (b : Int)) = -4 - ((max a b : Nat) : Int) := by omega
  have ha' : (-4 - (a : Int) - (-4 - ((max a b : Nat) : Int))).toNat = max a b - a := by omega
  have hb' : (-4 - (b : Int) - (-4 - ((max a b : Nat) : Int))).toNat = max a b - b := by omega
  rw [hc, ha', hb', signed_shl n a _ (Nat.le_max_left a b), signed_shl k b _ (Nat.le_max_right a b), ← Int.add_mul]
  generalize max a b = c
  have hp : 0 < 2 ^ c := Nat.two_pow_pos c
  have hna : ((n + k) * ((2 ^ c : Nat) : Int)).natAbs = (n + k).natAbs <<< c := by rw [Int.natAbs_mul, Nat.shiftLeft_eq]; rfl
  rw [hna]
  by_cases hz : n + k = 0
  · have e : (decide (n < 0) && decide (k < 0)) = false := by
      rw [Bool.and_eq_false_iff, decide_eq_false_iff_not, decide_eq_false_iff_not]; omega
    rw [hz, Int.zero_mul, if_pos rfl, e]
    show single.nearest false (0 <<< c) (-4 - c) = single.nearest false 0 (-4)
    rw [Nat.zero_shiftLeft]
    unfold Format.nearest
    rw [if_pos rfl, if_pos rfl]
  · have hm : (n + k).natAbs ≠ 0 := by omega
    have hl : (n + k).natAbs.log2 ≤ 23 := by
      have : (n + k).natAbs.log2 < 24 := (Nat.log2_lt hm).2 (by omega)
      omega
    have hz' : (n + k) * ((2 ^ c : Nat) : Int) ≠ 0 := Int.mul_ne_zero hz (by omega)
    have hs : decide ((n + k) * ((2 ^ c : Nat) : Int) < 0) = decide (n + k < 0) := by
      apply decide_eq_decide.2
      constructor
      · intro h
        exact Int.not_le.1 fun h' => absurd (Int.mul_nonneg h' (by omega : (0 : Int) ≤ ((2 ^ c : Nat) : Int))) (by omega)
      · intro h; exact Int.mul_neg_of_neg_of_pos h (by omega)
    rw [if_neg hz', hs]
    show single.nearest _ ((n + k).natAbs <<< c) (-4 - c) = _
    rw [near_shl _ hm hl]; rfl
end
section
theorem d_q16w : allR 801 (fun r => q16 r == w16 ((r : Int) - 400)) = true := by decide +kernel
theorem d_ngw : allR 801 (fun r => fop .sub .f32 0 (q16 r) == w16 (400 - (r : Int))) = true := by decide +kernel
theorem d_okw : allR 3201 (fun r => okX (w16 ((r : Int) - 800))) = true := by decide +kernel
theorem w16_c : w16 0 = 0 ∧ w16 1600 = 1120403456 ∧ w16 1280 = 1117782016 := by decide +kernel
end
section
def adjM (t m z : M) : M := plusM (timesM t z) m
def finX (a : Nat) : Bool := fcmp .eql .f32 (fop .sub .f32 a a) 0
def negX (a : Nat) : Nat := fneg .f32 a
theorem fn66 : FnOk Try.prog 66 Try.f66 (bodyOf Try.f66) := ⟨Try.func66, rfl, by rfl⟩
def s66 : Spec := hspec fun args H => match args, H with
  | [.c (.z .f32 a1 a2), .c (.z .f32 b1 b2)], [] => some (Zm (timesM (a1 (), a2 ()) (b1 (), b2 ())), [], [])
  | _, _ => none
def E66 : Env := fun g => envGetL [(44, ⟨true, s44, none⟩), (45, ⟨true, s45, none⟩), (46, ⟨true, s46, none⟩), (47, ⟨true, s47, none⟩)] g
theorem E66ok : EnvOk Try.prog E66 := envOk_cons ok44 (envOk_cons ok45 (envOk_cons ok46 (envOk_cons ok47 (envOk_nil _))))
theorem ok66 : Ok Try.prog 66 (s66) := ok_of_wpaH (E := E66) mixed tts E66ok fn66 fun args H v H' o hs ho => by
  split at hs
  · rename_i a1 a2 b1 b2
    cases hs
    refine ⟨_, HLe.refl _, ?_⟩
    cbv
    repeat' first
      | (refine Br.mk (fun h => ?_) (fun h => ?_) <;> cbv)
      | (refine Ob.mk ?_ ?_; rotate_left; cbv)
      | (refine Lex.mk (by decide +kernel) ?_; cbv)
    all_goals (try simp only [Unit.unit, Int.ofNat_lt, Int.ofNat_le, BE.val, IE.val, NE.val, ltB_iff, ltB_no, leB_iff, leB_no, Int.toNat_natCast, Nat.zero_add, Nat.add_zero, Nat.mul_one, forced, beq_iff_eq, beq_eq_false_iff_ne, bne_iff_ne, bne_eq_false_iff_eq] at *)
    all_goals first | with_reducible rfl | rfl
  · cases hs
theorem fn75 : FnOk Try.prog 75 Try.f75 (bodyOf Try.f75) := ⟨Try.func75, rfl, by rfl⟩
def s75 : Spec := hspec fun args H => match args, H with
  | [.c (.z .f32 a1 a2), .c (.z .f32 b1 b2)], [] => some (Zm (timesM (a1 (), a2 ()) (b1 (), b2 ())), [], [])
  | _, _ => none
def E75 : Env := fun g => envGetL [(38, ⟨true, s38, none⟩), (56, ⟨true, s56, none⟩), (57, ⟨true, s57, none⟩)] g
theorem E75ok : EnvOk Try.prog E75 := envOk_cons ok38 (envOk_cons ok56 (envOk_cons ok57 (envOk_nil _)))
theorem ok75 : Ok Try.prog 75 (s75) := ok_of_wpaH (E := E75) mixed tts E75ok fn75 fun args H v H' o hs ho => by
  split at hs
  · rename_i a1 a2 b1 b2
    cases hs
    refine ⟨_, HLe.refl _, ?_⟩
    cbv
    repeat' first
      | (refine Br.mk (fun h => ?_) (fun h => ?_) <;> cbv)
      | (refine Ob.mk ?_ ?_; rotate_left; cbv)
      | (refine Lex.mk (by decide +kernel) ?_; cbv)
    all_goals (try simp only [Unit.unit, Int.ofNat_lt, Int.ofNat_le, BE.val, IE.val, NE.val, ltB_iff, ltB_no, leB_iff, leB_no, Int.toNat_natCast, Nat.zero_add, Nat.add_zero, Nat.mul_one, forced, beq_iff_eq, beq_eq_false_iff_ne, bne_iff_ne, bne_eq_false_iff_eq] at *)
    all_goals first | with_reducible rfl | rfl
  · cases hs
theorem fn19 : FnOk Try.prog 19 Try.f19 (bodyOf Try.f19) := ⟨Try.func19, rfl, by rfl⟩
def s19 : Spec := hspec fun args H => match args, H with
  | [.c (.z .f32 a1 a2), .c (.z .f32 b1 b2)], [] => some (Zm (minusM (a1 (), a2 ()) (b1 (), b2 ())), [], [])
  | _, _ => none
def E19 : Env := fun g => envGetL [(71, ⟨true, s71, none⟩)] g
theorem E19ok : EnvOk Try.prog E19 := envOk_cons ok71 (envOk_nil _)
theorem ok19 : Ok Try.prog 19 (s19) := ok_of_wpaH (E := E19) mixed tts E19ok fn19 fun args H v H' o hs ho => by
  split at hs
  · rename_i a1 a2 b1 b2
    cases hs
    refine ⟨_, HLe.refl _, ?_⟩
    cbv
    repeat' first
      | (refine Br.mk (fun h => ?_) (fun h => ?_) <;> cbv)
      | (refine Ob.mk ?_ ?_; rotate_left; cbv)
      | (refine Lex.mk (by decide +kernel) ?_; cbv)
    all_goals (try simp only [Unit.unit, Int.ofNat_lt, Int.ofNat_le, BE.val, IE.val, NE.val, ltB_iff, ltB_no, leB_iff, leB_no, Int.toNat_natCast, Nat.zero_add, Nat.add_zero, Nat.mul_one, forced, beq_iff_eq, beq_eq_false_iff_ne, bne_iff_ne, bne_eq_false_iff_eq] at *)
    all_goals first | with_reducible rfl | rfl
  · cases hs
theorem fn70 : FnOk Try.prog 70 Try.f70 (bodyOf Try.f70) := ⟨Try.func70, rfl, by rfl⟩
def s70 : Spec := hspec fun args H => match args, H with
  | [.c (.f .f32 a)], [] => some (vB (finX (a ())), [], [])
  | _, _ => none
theorem ok70 : Ok Try.prog 70 (s70) := ok_of_wpaH (E := envGetL []) mixed tts (envOk_nil _) fn70 fun args H v H' o hs ho => by
  split at hs
  · rename_i a
    cases hs
    refine ⟨_, HLe.refl _, ?_⟩
    cbv
    repeat' first
      | (refine Br.mk (fun h => ?_) (fun h => ?_) <;> cbv)
      | (refine Ob.mk ?_ ?_; rotate_left; cbv)
      | (refine Lex.mk (by decide +kernel) ?_; cbv)
    all_goals (try simp only [Unit.unit, Int.ofNat_lt, Int.ofNat_le, BE.val, IE.val, NE.val, ltB_iff, ltB_no, leB_iff, leB_no, Int.toNat_natCast, Nat.zero_add, Nat.add_zero, Nat.mul_one, forced, beq_iff_eq, beq_eq_false_iff_ne, bne_iff_ne, bne_eq_false_iff_eq] at *)
    all_goals first | with_reducible rfl | rfl
  · cases hs
theorem fn79 : FnOk Try.prog 79 Try.f79 (bodyOf Try.f79) := ⟨Try.func79, rfl, by rfl⟩
def s79 : Spec := hspec fun args H => match args, H with
  | [.c (.f .f32 a)], [] => some (vB (finX (a ())), [], [])
  | _, _ => none
theorem ok79 : Ok Try.prog 79 (s79) := ok_of_wpaH (E := envGetL []) mixed tts (envOk_nil _) fn79 fun args H v H' o hs ho => by
  split at hs
  · rename_i a
    cases hs
    refine ⟨_, HLe.refl _, ?_⟩
    cbv
    repeat' first
      | (refine Br.mk (fun h => ?_) (fun h => ?_) <;> cbv)
      | (refine Ob.mk ?_ ?_; rotate_left; cbv)
      | (refine Lex.mk (by decide +kernel) ?_; cbv)
    all_goals (try simp only [Unit.unit, Int.ofNat_lt, Int.ofNat_le, BE.val, IE.val, NE.val, ltB_iff, ltB_no, leB_iff, leB_no, Int.toNat_natCast, Nat.zero_add, Nat.add_zero, Nat.mul_one, forced, beq_iff_eq, beq_eq_false_iff_ne, bne_iff_ne, bne_eq_false_iff_eq] at *)
    all_goals first | with_reducible rfl | rfl
  · cases hs
theorem fn25 : FnOk Try.prog 25 Try.f25 (bodyOf Try.f25) := ⟨Try.func25, rfl, by rfl⟩
def s25 : Spec := hspec fun args H => match args, H with
  | [.a [.z .f32 a1 a2, .z .f32 a3 a4], .c (.z .f32 m1 m2)], [] => some (Zm (adjM (a1 (), a2 ()) (a3 (), a4 ()) (m1 (), m2 ())), [], [])
  | _, _ => none
def E25 : Env := fun g => envGetL [(66, ⟨true, s66, none⟩), (68, ⟨true, s68, none⟩)] g
theorem E25ok : EnvOk Try.prog E25 := envOk_cons ok66 (envOk_cons ok68 (envOk_nil _))
theorem ok25 : Ok Try.prog 25 (s25) := ok_of_wpaH (E := E25) mixed tts E25ok fn25 fun args H v H' o hs ho => by
  split at hs
  · rename_i a1 a2 a3 a4 m1 m2
    cases hs
    refine ⟨_, HLe.refl _, ?_⟩
    cbv
    repeat' first
      | (refine Br.mk (fun h => ?_) (fun h => ?_) <;> cbv)
      | (refine Ob.mk ?_ ?_; rotate_left; cbv)
      | (refine Lex.mk (by decide +kernel) ?_; cbv)
    all_goals (try simp only [Unit.unit, Int.ofNat_lt, Int.ofNat_le, BE.val, IE.val, NE.val, ltB_iff, ltB_no, leB_iff, leB_no, Int.toNat_natCast, Nat.zero_add, Nat.add_zero, Nat.mul_one, forced, beq_iff_eq, beq_eq_false_iff_ne, bne_iff_ne, bne_eq_false_iff_eq] at *)
    all_goals first | with_reducible rfl | rfl
  · cases hs
theorem fn82 : FnOk Try.prog 82 Try.f82 (bodyOf Try.f82) := ⟨Try.func82, rfl, by rfl⟩
def s82 : Spec := hspec fun args H => match args, H with
  | [.a [.z .f32 a1 a2, .z .f32 a3 a4], .c (.z .f32 m1 m2)], [] => some (Zm (adjM (a1 (), a2 ()) (a3 (), a4 ()) (m1 (), m2 ())), [], [])
  | _, _ => none
def E82 : Env := fun g => envGetL [(75, ⟨true, s75, none⟩), (77, ⟨true, s77, none⟩)] g
theorem E82ok : EnvOk Try.prog E82 := envOk_cons ok75 (envOk_cons ok77 (envOk_nil _))
theorem ok82 : Ok Try.prog 82 (s82) := ok_of_wpaH (E := E82) mixed tts E82ok fn82 fun args H v H' o hs ho => by
  split at hs
  · rename_i a1 a2 a3 a4 m1 m2
    cases hs
    refine ⟨_, HLe.refl _, ?_⟩
    cbv
    repeat' first
      | (refine Br.mk (fun h => ?_) (fun h => ?_) <;> cbv)
      | (refine Ob.mk ?_ ?_; rotate_left; cbv)
      | (refine Lex.mk (by decide +kernel) ?_; cbv)
    all_goals (try simp only [Unit.unit, Int.ofNat_lt, Int.ofNat_le, BE.val, IE.val, NE.val, ltB_iff, ltB_no, leB_iff, leB_no, Int.toNat_natCast, Nat.zero_add, Nat.add_zero, Nat.mul_one, forced, beq_iff_eq, beq_eq_false_iff_ne, bne_iff_ne, bne_eq_false_iff_eq] at *)
    all_goals first | with_reducible rfl | rfl
  · cases hs
theorem fn26 : FnOk Try.prog 26 Try.f26 (bodyOf Try.f26) := ⟨Try.func26, rfl, by rfl⟩
def s26 : Spec := hspec fun args H => match args, H with
  | [.a [.z .f32 a1 a2, .z .f32 a3 a4], .c (.z .f32 m1 m2)], [] => some (Zm (adjM (a1 (), a2 ()) (a3 (), a4 ()) (m1 (), m2 ())), [], [])
  | _, _ => none
def E26 : Env := fun g => envGetL [(82, ⟨true, s82, none⟩)] g
theorem E26ok : EnvOk Try.prog E26 := envOk_cons ok82 (envOk_nil _)
theorem ok26 : Ok Try.prog 26 (s26) := ok_of_wpaH (E := E26) mixed tts E26ok fn26 fun args H v H' o hs ho => by
  split at hs
  · rename_i a1 a2 a3 a4 m1 m2
    cases hs
    refine ⟨_, HLe.refl _, ?_⟩
    cbv
    repeat' first
      | (refine Br.mk (fun h => ?_) (fun h => ?_) <;> cbv)
      | (refine Ob.mk ?_ ?_; rotate_left; cbv)
      | (refine Lex.mk (by decide +kernel) ?_; cbv)
    all_goals (try simp only [Unit.unit, Int.ofNat_lt, Int.ofNat_le, BE.val, IE.val, NE.val, ltB_iff, ltB_no, leB_iff, leB_no, Int.toNat_natCast, Nat.zero_add, Nat.add_zero, Nat.mul_one, forced, beq_iff_eq, beq_eq_false_iff_ne, bne_iff_ne, bne_eq_false_iff_eq] at *)
    all_goals first | with_reducible rfl | rfl
  · cases hs
theorem fn22 : FnOk Try.prog 22 Try.f22 (bodyOf Try.f22) := ⟨Try.func22, rfl, by rfl⟩
def s22 : Spec := hspec fun args H => match args, H with
  | [.a [.z .f32 a1 a2, .z .f32 a3 a4], .a [.z .f32 b1 b2, .z .f32 b3 b4]], [] => some (vB (sameM (a1 (), a2 ()) (b1 (), b2 ()) && sameM (a3 (), a4 ()) (b3 (), b4 ())), [], [])
  | _, _ => none
def E22 : Env := fun g => envGetL [(49, ⟨true, s49, none⟩)] g
theorem E22ok : EnvOk Try.prog E22 := envOk_cons ok49 (envOk_nil _)
theorem ok22 : Ok Try.prog 22 (s22) := ok_of_wpaH (E := E22) mixed tts E22ok fn22 fun args H v H' o hs ho => by
  split at hs
  · rename_i a1 a2 a3 a4 b1 b2 b3 b4
    cases hs
    refine ⟨_, HLe.refl _, ?_⟩
    cbv
    repeat' first
      | (refine Br.mk (fun h => ?_) (fun h => ?_) <;> cbv)
      | (refine Ob.mk ?_ ?_; rotate_left; cbv)
      | (refine Lex.mk (by decide +kernel) ?_; cbv)
    all_goals (try simp only [Unit.unit, Int.ofNat_lt, Int.ofNat_le, BE.val, IE.val, NE.val, ltB_iff, ltB_no, leB_iff, leB_no, Int.toNat_natCast, Nat.zero_add, Nat.add_zero, Nat.mul_one, forced, beq_iff_eq, beq_eq_false_iff_ne, bne_iff_ne, bne_eq_false_iff_eq] at *)
    all_goals first | with_reducible rfl | (simp_all; done)
  · cases hs
theorem fn73 : FnOk Try.prog 73 Try.f73 (bodyOf Try.f73) := ⟨Try.func73, rfl, by rfl⟩
def s73 : Spec := hspec fun args H => match args, H with
  | [.c (.z .f32 m1 m2), .c (.p 0 (.l 0))], [some ⟨false, 0, .lit [.z .f32 a1 a2, .z .f32 a3 a4]⟩] => some (Zm (adjM (a1 (), a2 ()) (a3 (), a4 ()) (m1 (), m2 ())), [none], [])
  | _, _ => none
def E73 : Env := fun g => envGetL [(25, ⟨true, s25, none⟩)] g
theorem E73ok : EnvOk Try.prog E73 := envOk_cons ok25 (envOk_nil _)
theorem ok73 : Ok Try.prog 73 (s73) := ok_of_wpaH (E := E73) mixed tts E73ok fn73 fun args H v H' o hs ho => by
  split at hs
  · rename_i m1 m2 a1 a2 a3 a4
    cases hs
    refine ⟨_, HLe.refl _, ?_⟩
    cbv
    repeat' first
      | (refine Br.mk (fun h => ?_) (fun h => ?_) <;> cbv)
      | (refine Ob.mk ?_ ?_; rotate_left; cbv)
      | (refine Lex.mk (by decide +kernel) ?_; cbv)
    all_goals (try simp only [Unit.unit, Int.ofNat_lt, Int.ofNat_le, BE.val, IE.val, NE.val, ltB_iff, ltB_no, leB_iff, leB_no, Int.toNat_natCast, Nat.zero_add, Nat.add_zero, Nat.mul_one, forced, beq_iff_eq, beq_eq_false_iff_ne, bne_iff_ne, bne_eq_false_iff_eq] at *)
    all_goals first | with_reducible rfl | rfl
  · cases hs
end
end Go.Proofs.Ytanndlifpojenaa.Sh
