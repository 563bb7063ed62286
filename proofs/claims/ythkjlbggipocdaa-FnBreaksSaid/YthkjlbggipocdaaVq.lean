/- What the same webs of this seat compute, each shown once. No condition. -/
import Derived.Test.YthkjlbggipocdaaVp
set_option linter.unusedVariables false
set_option linter.unusedSimpArgs false
set_option linter.unusedSectionVars false
namespace Go.Proofs.Ythkjlbggipocdaa.Sh
open Go Go.Proofs
theorem e136a : Extern.findNext Try.f136 = none := by rfl
theorem e136b : Extern.find Try.f136 = some Extern.MathFloatBits.float32bits := by rfl
theorem ext136 (b : Nat) (w : World) : (callFunc 136 #[.float .f32 b]).run Try.prog w = .ok (.value (.int .u32 b)) w := by
  rw [run_callFunc_extern Try.func136 (by rfl) (by rfl) e136a e136b]; rfl
def s136 : Spec := fun args H => match args with
  | [.c (.f .f32 e)] => some (.c (.i .u32 (.x fun _ => (e () : Int))), H, [fun _ => isNan (e ()) = false])
  | _ => none
theorem ok136 : Ok Try.prog 136 s136 := by
  intro args H v H' o hs ho μ W w vs hW hH hr
  unfold s136 at hs
  split at hs
  · rename_i e
    cases hs
    match vs, hr with
    | [x], hr =>
      obtain ⟨⟨b, rfl, hb⟩, _⟩ := hr
      refine .inr ⟨_, _, ext136 b w, μ, agree.refl _ _, Nat.le_refl _, hH, ?_, Fr.refl _ _⟩
      have hn := ho.one
      rw [isNan_eq] at hn
      rcases hb with rfl | ⟨h1, h2⟩
      · rfl
      · have h2 : (Ieee.single.read (e ())).isNaN = true := h2
        rw [h2] at hn; cases hn
  · cases hs
def s144 : Spec := fun args H => match args with
  | [.c (.f .f64 e)] => some (.c (.i .u64 (.x fun _ => (e () : Int))), H, [fun _ => (Ieee.double.read (e ())).isNaN = false])
  | _ => none
theorem ok144 : Ok Try.prog 144 s144 := by
  intro args H v H' o hs ho μ W w vs hW hH hr
  unfold s144 at hs
  split at hs
  · rename_i e
    cases hs
    match vs, hr with
    | [x], hr =>
      obtain ⟨⟨b, rfl, hb⟩, _⟩ := hr
      refine .inr ⟨_, _, ext144 b w, μ, agree.refl _ _, Nat.le_refl _, hH, ?_, Fr.refl _ _⟩
      have hn := ho.one
      rcases hb with rfl | ⟨h1, h2⟩
      · rfl
      · have h2 : (Ieee.double.read (e ())).isNaN = true := h2
        rw [h2] at hn; cases hn
  · cases hs
def sgnL (x : Nat) : Bool := ltB (IntKind.wrap .i64 (x : Int)) 0
theorem sgnL_eq {x : Nat} (h : x < 18446744073709551616) : sgnL x = sgnD x := by
  unfold sgnL sgnD ltB
  have e : IntKind.wrap .i64 (x : Int) = if x < 9223372036854775808 then (x : Int) else (x : Int) - 18446744073709551616 := by
    simp [IntKind.wrap, IntKind.signed, IntKind.bits]
    split <;> omega
  rw [e]
  split
  · rename_i h1
    rw [Nat.div_eq_of_lt h1]
    simp
  · rename_i h1
    rw [show x / 9223372036854775808 = 1 by omega]
    simp
    omega
theorem word64_lt (s : Bool) {r : Nat} (h : r ≤ 9218868437227405312) : Ieee.double.word s r < 18446744073709551616 := by
  unfold Ieee.Format.word
  rw [sgn64]
  split <;> omega
theorem cvU_lt (a : Nat) : cvU a < 18446744073709551616 := by
  unfold cvU
  cases hd : Ieee.single.read a with
  | number s m i =>
    obtain ⟨r, hr, h1, _, h2⟩ := up_num hd
    rw [h1, Option.getD_some]
    exact word64_lt s (Nat.le_of_lt hr)
  | infinity s =>
    have e1 : floatToFloatBits .f32 a .f64 = some (Ieee.double.word s 9218868437227405312) := by
      unfold floatToFloatBits
      rw [if_neg (by decide), show FloatKind.f32.decode a = .infinity s from hd]
      rfl
    rw [e1, Option.getD_some]
    exact word64_lt s (Nat.le_refl _)
  | nan s t =>
    have e1 : floatToFloatBits .f32 a .f64 = none := by
      unfold floatToFloatBits
      rw [if_neg (by decide), show FloatKind.f32.decode a = .nan s t from hd]
    rw [e1, Option.getD_none]
    decide
theorem eqS_num {a b : Nat} (ha : isNan a = false) (hb : isNan b = false) : eqS a b = (fcmp .eql .f32 a b && (sgnL (cvU a) == sgnL (cvU b))) := by
  unfold eqS
  rw [ha, hb, sgnL_eq (cvU_lt a), sgnL_eq (cvU_lt b)]
  rfl
theorem eqS_nan {a b : Nat} (h : isNan a = true ∨ isNan b = true) : eqS a b = (isNan a && isNan b) := by
  unfold eqS
  rw [if_pos (by simpa using h)]
theorem eqW_num {a b : Nat} (ha : isNan a = false) (hb : isNan b = false) : eqW a b = ((a : Int) == (b : Int)) := by
  unfold eqW
  rw [ha, hb]
  by_cases e : a = b
  · subst e; simp
  · have e' : ¬ ((a : Int) = (b : Int)) := by omega
    simp [e, e']
theorem eqW_nan {a b : Nat} (h : isNan a = true ∨ isNan b = true) : eqW a b = (isNan a && isNan b) := by
  unfold eqW
  rw [if_pos (by simpa using h)]
theorem fn142 : FnOk Try.prog 142 Try.f142 (bodyOf Try.f142) := ⟨Try.func142, rfl, by rfl⟩
def s142 : Spec := hspec fun args H => match args, H with
  | [.c (.f .f64 a)], [] => some (vB (sgnL (a ())), [], [fun _ => (Ieee.double.read (a ())).isNaN = false])
  | _, _ => none
def E142 : Env := fun g => envGetL [(144, ⟨true, s144, none⟩)] g
theorem E142ok : EnvOk Try.prog E142 := envOk_cons ok144 (envOk_nil _)
theorem ok142 : Ok Try.prog 142 (s142) := ok_of_wpaH (E := E142) mixed tts E142ok fn142 fun args H v H' o hs ho => by
  split at hs
  · rename_i a
    cases hs
    have hx0 := ho.one
    try simp only [Unit.unit] at hx0
    refine ⟨_, HLe.nil, ?_⟩
    cbv
    repeat' first
      | (refine alt_t (by assumption) ?_; cbv)
      | (refine alt_f (by assumption) ?_; cbv)
      | (refine alt_b (fun h => ?_) (fun h => ?_) <;> cbv)
      | (refine Br.mk (fun h => ?_) (fun h => ?_) <;> cbv)
      | (refine Ob.mk ?_ ?_; rotate_left; cbv)
      | (refine Lex.mk (by kernel_rfl) ?_; cbv)
    all_goals (try simp only [Unit.unit, Int.ofNat_lt, Int.ofNat_le, BE.val, IE.val, NE.val, ltB_iff, ltB_no, leB_iff, leB_no, Int.toNat_natCast, Nat.zero_add, Nat.add_zero, Nat.mul_one, forced, beq_iff_eq, beq_eq_false_iff_ne, bne_iff_ne, bne_eq_false_iff_eq] at *)
    all_goals first | with_reducible rfl | exact hx0 | rfl | (simp_all [sgnL]; done)
  · cases hs
theorem fn97 : FnOk Try.prog 97 Try.f97 (bodyOf Try.f97) := ⟨Try.func97, rfl, by rfl⟩
def s97 : Spec := hspec fun args H => match args, H with
  | [.c (.f .f32 a), .c (.f .f32 b)], [] => some (vB (eqW (a ()) (b ())), [], [])
  | _, _ => none
def E97 : Env := fun g => envGetL [(136, ⟨true, s136, none⟩)] g
theorem E97ok : EnvOk Try.prog E97 := envOk_cons ok136 (envOk_nil _)
theorem ok97 : Ok Try.prog 97 (s97) := ok_of_wpaH (E := E97) mixed tts E97ok fn97 fun args H v H' o hs ho => by
  split at hs
  · rename_i a b
    cases hs
    refine ⟨_, HLe.nil, ?_⟩
    cbv
    by_cases ha : isNan (a ⟨⟩) = true
    · have hr := eqW_nan (b := b ⟨⟩) (.inl ha)
      have ha' : fcmp .neq .f32 (a ⟨⟩) (a ⟨⟩) = true := ha
      by_cases hb : isNan (b ⟨⟩) = true
      · have hb' : fcmp .neq .f32 (b ⟨⟩) (b ⟨⟩) = true := hb
        rw [ha, hb] at hr
        repeat' first
          | (refine alt_t (by assumption) ?_; cbv)
          | (refine alt_f (by assumption) ?_; cbv)
          | (refine alt_b (fun h => ?_) (fun h => ?_) <;> cbv)
          | (refine Br.mk (fun h => ?_) (fun h => ?_) <;> cbv)
          | (refine Ob.mk ?_ ?_; rotate_left; cbv)
          | (refine Lex.mk (by kernel_rfl) ?_; cbv)
        all_goals (try simp only [Unit.unit, Int.ofNat_lt, Int.ofNat_le, BE.val, IE.val, NE.val, ltB_iff, ltB_no, leB_iff, leB_no, Int.toNat_natCast, Nat.zero_add, Nat.add_zero, Nat.mul_one, forced, beq_iff_eq, beq_eq_false_iff_ne, bne_iff_ne, bne_eq_false_iff_eq] at *)
        all_goals first | with_reducible rfl | exact nan_up ha | exact nan_up hb | exact ha | exact hb | (simp_all [isNan, cvU]; done) | (simp_all [isNan]; done) | grind [isNan]
      · have hb := Bool.eq_false_iff.2 hb
        have hb' : fcmp .neq .f32 (b ⟨⟩) (b ⟨⟩) = false := hb
        rw [ha, hb] at hr
        repeat' first
          | (refine alt_t (by assumption) ?_; cbv)
          | (refine alt_f (by assumption) ?_; cbv)
          | (refine alt_b (fun h => ?_) (fun h => ?_) <;> cbv)
          | (refine Br.mk (fun h => ?_) (fun h => ?_) <;> cbv)
          | (refine Ob.mk ?_ ?_; rotate_left; cbv)
          | (refine Lex.mk (by kernel_rfl) ?_; cbv)
        all_goals (try simp only [Unit.unit, Int.ofNat_lt, Int.ofNat_le, BE.val, IE.val, NE.val, ltB_iff, ltB_no, leB_iff, leB_no, Int.toNat_natCast, Nat.zero_add, Nat.add_zero, Nat.mul_one, forced, beq_iff_eq, beq_eq_false_iff_ne, bne_iff_ne, bne_eq_false_iff_eq] at *)
        all_goals first | with_reducible rfl | exact nan_up ha | exact nan_up hb | exact ha | exact hb | (simp_all [isNan, cvU]; done) | (simp_all [isNan]; done) | grind [isNan]
    · have ha := Bool.eq_false_iff.2 ha
      have ha' : fcmp .neq .f32 (a ⟨⟩) (a ⟨⟩) = false := ha
      by_cases hb : isNan (b ⟨⟩) = true
      · have hr := eqW_nan (a := a ⟨⟩) (.inr hb)
        have hb' : fcmp .neq .f32 (b ⟨⟩) (b ⟨⟩) = true := hb
        rw [ha, hb] at hr
        repeat' first
          | (refine alt_t (by assumption) ?_; cbv)
          | (refine alt_f (by assumption) ?_; cbv)
          | (refine alt_b (fun h => ?_) (fun h => ?_) <;> cbv)
          | (refine Br.mk (fun h => ?_) (fun h => ?_) <;> cbv)
          | (refine Ob.mk ?_ ?_; rotate_left; cbv)
          | (refine Lex.mk (by kernel_rfl) ?_; cbv)
        all_goals (try simp only [Unit.unit, Int.ofNat_lt, Int.ofNat_le, BE.val, IE.val, NE.val, ltB_iff, ltB_no, leB_iff, leB_no, Int.toNat_natCast, Nat.zero_add, Nat.add_zero, Nat.mul_one, forced, beq_iff_eq, beq_eq_false_iff_ne, bne_iff_ne, bne_eq_false_iff_eq] at *)
        all_goals first | with_reducible rfl | exact nan_up ha | exact nan_up hb | exact ha | exact hb | (simp_all [isNan, cvU]; done) | (simp_all [isNan]; done) | grind [isNan]
      · have hb := Bool.eq_false_iff.2 hb
        have hb' : fcmp .neq .f32 (b ⟨⟩) (b ⟨⟩) = false := hb
        have hr := eqW_num ha hb
        repeat' first
          | (refine alt_t (by assumption) ?_; cbv)
          | (refine alt_f (by assumption) ?_; cbv)
          | (refine alt_b (fun h => ?_) (fun h => ?_) <;> cbv)
          | (refine Br.mk (fun h => ?_) (fun h => ?_) <;> cbv)
          | (refine Ob.mk ?_ ?_; rotate_left; cbv)
          | (refine Lex.mk (by kernel_rfl) ?_; cbv)
        all_goals (try simp only [Unit.unit, Int.ofNat_lt, Int.ofNat_le, BE.val, IE.val, NE.val, ltB_iff, ltB_no, leB_iff, leB_no, Int.toNat_natCast, Nat.zero_add, Nat.add_zero, Nat.mul_one, forced, beq_iff_eq, beq_eq_false_iff_ne, bne_iff_ne, bne_eq_false_iff_eq] at *)
        all_goals first | with_reducible rfl | exact nan_up ha | exact nan_up hb | exact ha | exact hb | (simp_all [isNan, cvU]; done) | (simp_all [isNan]; done) | grind [isNan]
  · cases hs
theorem fn140 : FnOk Try.prog 140 Try.f140 (bodyOf Try.f140) := ⟨Try.func140, rfl, by rfl⟩
def s140 : Spec := hspec fun args H => match args, H with
  | [.c (.f .f32 a), .c (.f .f32 b)], [] => some (vB (eqS (a ()) (b ())), [], [])
  | _, _ => none
def E140 : Env := fun g => envGetL [(142, ⟨true, s142, none⟩)] g
theorem E140ok : EnvOk Try.prog E140 := envOk_cons ok142 (envOk_nil _)
theorem ok140 : Ok Try.prog 140 (s140) := ok_of_wpaH (E := E140) mixed tts E140ok fn140 fun args H v H' o hs ho => by
  split at hs
  · rename_i a b
    cases hs
    refine ⟨_, HLe.nil, ?_⟩
    cbv
    by_cases ha : isNan (a ⟨⟩) = true
    · have hr := eqS_nan (b := b ⟨⟩) (.inl ha)
      have ha' : fcmp .neq .f32 (a ⟨⟩) (a ⟨⟩) = true := ha
      by_cases hb : isNan (b ⟨⟩) = true
      · have hb' : fcmp .neq .f32 (b ⟨⟩) (b ⟨⟩) = true := hb
        rw [ha, hb] at hr
        repeat' first
          | (refine alt_t (by assumption) ?_; cbv)
          | (refine alt_f (by assumption) ?_; cbv)
          | (refine alt_b (fun h => ?_) (fun h => ?_) <;> cbv)
          | (refine Br.mk (fun h => ?_) (fun h => ?_) <;> cbv)
          | (refine Ob.mk ?_ ?_; rotate_left; cbv)
          | (refine Lex.mk (by kernel_rfl) ?_; cbv)
        all_goals (try simp only [Unit.unit, Int.ofNat_lt, Int.ofNat_le, BE.val, IE.val, NE.val, ltB_iff, ltB_no, leB_iff, leB_no, Int.toNat_natCast, Nat.zero_add, Nat.add_zero, Nat.mul_one, forced, beq_iff_eq, beq_eq_false_iff_ne, bne_iff_ne, bne_eq_false_iff_eq] at *)
        all_goals first | with_reducible rfl | exact nan_up ha | exact nan_up hb | exact ha | exact hb | (simp_all [isNan, cvU]; done) | (simp_all [isNan]; done) | grind [isNan]
      · have hb := Bool.eq_false_iff.2 hb
        have hb' : fcmp .neq .f32 (b ⟨⟩) (b ⟨⟩) = false := hb
        rw [ha, hb] at hr
        repeat' first
          | (refine alt_t (by assumption) ?_; cbv)
          | (refine alt_f (by assumption) ?_; cbv)
          | (refine alt_b (fun h => ?_) (fun h => ?_) <;> cbv)
          | (refine Br.mk (fun h => ?_) (fun h => ?_) <;> cbv)
          | (refine Ob.mk ?_ ?_; rotate_left; cbv)
          | (refine Lex.mk (by kernel_rfl) ?_; cbv)
        all_goals (try simp only [Unit.unit, Int.ofNat_lt, Int.ofNat_le, BE.val, IE.val, NE.val, ltB_iff, ltB_no, leB_iff, leB_no, Int.toNat_natCast, Nat.zero_add, Nat.add_zero, Nat.mul_one, forced, beq_iff_eq, beq_eq_false_iff_ne, bne_iff_ne, bne_eq_false_iff_eq] at *)
        all_goals first | with_reducible rfl | exact nan_up ha | exact nan_up hb | exact ha | exact hb | (simp_all [isNan, cvU]; done) | (simp_all [isNan]; done) | grind [isNan]
    · have ha := Bool.eq_false_iff.2 ha
      have ha' : fcmp .neq .f32 (a ⟨⟩) (a ⟨⟩) = false := ha
      by_cases hb : isNan (b ⟨⟩) = true
      · have hr := eqS_nan (a := a ⟨⟩) (.inr hb)
        have hb' : fcmp .neq .f32 (b ⟨⟩) (b ⟨⟩) = true := hb
        rw [ha, hb] at hr
        repeat' first
          | (refine alt_t (by assumption) ?_; cbv)
          | (refine alt_f (by assumption) ?_; cbv)
          | (refine alt_b (fun h => ?_) (fun h => ?_) <;> cbv)
          | (refine Br.mk (fun h => ?_) (fun h => ?_) <;> cbv)
          | (refine Ob.mk ?_ ?_; rotate_left; cbv)
          | (refine Lex.mk (by kernel_rfl) ?_; cbv)
        all_goals (try simp only [Unit.unit, Int.ofNat_lt, Int.ofNat_le, BE.val, IE.val, NE.val, ltB_iff, ltB_no, leB_iff, leB_no, Int.toNat_natCast, Nat.zero_add, Nat.add_zero, Nat.mul_one, forced, beq_iff_eq, beq_eq_false_iff_ne, bne_iff_ne, bne_eq_false_iff_eq] at *)
        all_goals first | with_reducible rfl | exact nan_up ha | exact nan_up hb | exact ha | exact hb | (simp_all [isNan, cvU]; done) | (simp_all [isNan]; done) | grind [isNan]
      · have hb := Bool.eq_false_iff.2 hb
        have hb' : fcmp .neq .f32 (b ⟨⟩) (b ⟨⟩) = false := hb
        have hr := eqS_num ha hb
        repeat' first
          | (refine alt_t (by assumption) ?_; cbv)
          | (refine alt_f (by assumption) ?_; cbv)
          | (refine alt_b (fun h => ?_) (fun h => ?_) <;> cbv)
          | (refine Br.mk (fun h => ?_) (fun h => ?_) <;> cbv)
          | (refine Ob.mk ?_ ?_; rotate_left; cbv)
          | (refine Lex.mk (by kernel_rfl) ?_; cbv)
        all_goals (try simp only [Unit.unit, Int.ofNat_lt, Int.ofNat_le, BE.val, IE.val, NE.val, ltB_iff, ltB_no, leB_iff, leB_no, Int.toNat_natCast, Nat.zero_add, Nat.add_zero, Nat.mul_one, forced, beq_iff_eq, beq_eq_false_iff_ne, bne_iff_ne, bne_eq_false_iff_eq] at *)
        all_goals first | with_reducible rfl | exact nan_up ha | exact nan_up hb | exact ha | exact hb | (simp_all [isNan, cvU]; done) | (simp_all [isNan]; done) | grind [isNan]
  · cases hs
def rowSame (f : Nat → Nat → Bool) (o o' : Nat) (l l' : List Nat) (i : Nat) : Bool := f (l.getD (o + i) 0) (l'.getD (o' + i) 0)
def spanSame (f : Nat → Nat → Bool) (l l' : List Nat) (i : Nat) : Bool := f (l.getD (i * 3) 0) (l'.getD (i * 3) 0) && f (l.getD (i * 3 + 1) 0) (l'.getD (i * 3 + 1) 0) && f (l.getD (i * 3 + 2) 0) (l'.getD (i * 3 + 2) 0)
def webSame (f : Nat → Nat → Bool) (st sp fd : Nat) (n : Nat) (l : List Nat) (st' sp' fd' : Nat) (n' : Nat) (l' : List Nat) : Bool :=
  decide (n = n') && (f st st' && f sp sp' && f fd fd') && allI (spanSame f l l') n
theorem same_n {f : Nat → Nat → Bool} {st sp fd n : Nat} {l : List Nat} {st' sp' fd' n' : Nat} {l' : List Nat} (h : n ≠ n') : webSame f st sp fd n l st' sp' fd' n' l' = false := by simp [webSame, h]
theorem same_h {f : Nat → Nat → Bool} {st sp fd n : Nat} {l : List Nat} {st' sp' fd' n' : Nat} {l' : List Nat} (h : (f st st' && f sp sp' && f fd fd') = false) : webSame f st sp fd n l st' sp' fd' n' l' = false := by simp [webSame, h]
theorem same_s {f : Nat → Nat → Bool} {st sp fd n : Nat} {l : List Nat} {st' sp' fd' n' : Nat} {l' : List Nat} {i : Nat} (hi : i < n) (h : spanSame f l l' i = false) : webSame f st sp fd n l st' sp' fd' n' l' = false := by
  simp [webSame, allI_no hi h]
theorem same_y {f : Nat → Nat → Bool} {st sp fd n : Nat} {l : List Nat} {st' sp' fd' n' : Nat} {l' : List Nat} (h0 : n = n') (h : (f st st' && f sp sp' && f fd fd') = true) (h1 : allI (spanSame f l l') n = true) : webSame f st sp fd n l st' sp' fd' n' l' = true := by
  unfold webSame; rw [h, h1, decide_eq_true h0]; rfl
theorem intne {n m : Nat} (h : ((n : Int) != (m : Int)) = true) : n ≠ m := by simp at h; omega
theorem inteq {n m : Nat} (h : ((n : Int) != (m : Int)) = false) : n = m := by simp at h; omega
theorem and_1 {a b c : Bool} (h : (!a) = true) : (a && b && c) = false := by simp_all
theorem and_2 {a b c : Bool} (h : (!b) = true) : (a && b && c) = false := by simp_all
theorem and_3 {a b c : Bool} (h : (!c) = true) : (a && b && c) = false := by simp_all
theorem and_y {a b c : Bool} (h1 : (!a) = false) (h2 : (!b) = false) (h3 : (!c) = false) : (a && b && c) = true := by simp_all
theorem span_1 {f : Nat → Nat → Bool} {l l' : List Nat} {i : Nat} (h : (!f (l.getD (i * 3) 0) (l'.getD (i * 3) 0)) = true) : spanSame f l l' i = false := and_1 h
theorem span_2 {f : Nat → Nat → Bool} {l l' : List Nat} {i : Nat} (h : (!f (l.getD (i * 3 + 1) 0) (l'.getD (i * 3 + 1) 0)) = true) : spanSame f l l' i = false := and_2 h
theorem span_3 {f : Nat → Nat → Bool} {l l' : List Nat} {i : Nat} (h : (!f (l.getD (i * 3 + 2) 0) (l'.getD (i * 3 + 2) 0)) = true) : spanSame f l l' i = false := and_3 h
theorem span_y {f : Nat → Nat → Bool} {l l' : List Nat} {i : Nat} (h : allI (spanSame f l l') i = true) (h1 : (!f (l.getD (i * 3) 0) (l'.getD (i * 3) 0)) = false) (h2 : (!f (l.getD (i * 3 + 1) 0) (l'.getD (i * 3 + 1) 0)) = false) (h3 : (!f (l.getD (i * 3 + 2) 0) (l'.getD (i * 3 + 2) 0)) = false) : allI (spanSame f l l') (i + 1) = true := by
  simp only [allI, h, Bool.true_and]; exact and_y h1 h2 h3
theorem all3 {f : Nat → Nat → Bool} {a b c a' b' c' : Nat} : (allI (rowSame f 0 0 [a, b, c] [a', b', c']) 3 && decide (3 = 3)) = (f a a' && f b b' && f c c') := by
  simp [allI, rowSame]
theorem span_a {f : Nat → Nat → Bool} {l l' : List Nat} {i : Nat} (h : (!(allI (rowSame f 0 0 [l.getD (i * 3) 0, l.getD (i * 3 + 1) 0, l.getD (i * 3 + 2) 0] [l'.getD (i * 3) 0, l'.getD (i * 3 + 1) 0, l'.getD (i * 3 + 2) 0]) 3 && decide (3 = 3))) = true) : spanSame f l l' i = false := by
  have h := all3 (f := f) ▸ not_t h
  exact h
theorem span_ya {f : Nat → Nat → Bool} {l l' : List Nat} {i : Nat} (hi : allI (spanSame f l l') i = true) (h : (!(allI (rowSame f 0 0 [l.getD (i * 3) 0, l.getD (i * 3 + 1) 0, l.getD (i * 3 + 2) 0] [l'.getD (i * 3) 0, l'.getD (i * 3 + 1) 0, l'.getD (i * 3 + 2) 0]) 3 && decide (3 = 3))) = false) : allI (spanSame f l l') (i + 1) = true := by
  have h := all3 (f := f) ▸ not_f h
  simp only [allI, hi, Bool.true_and]; exact h
theorem fn118 : FnOk Try.prog 118 Try.f118 (bodyOf Try.f118) := ⟨Try.func118, rfl, by rfl⟩
def s118 : Spec := hspec fun args H => match args, H with
  | [.c (.sl 0 (.x o) (.x n)), .c (.sl 1 (.x o') (.x n'))], [some ⟨false, 0, x⟩, some ⟨false, 0, x'⟩] => match x.toFl, x'.toFl with
    | some l, some l' => some (vB (allI (rowSame eqS (o ()) (o' ()) (l ()) (l' ())) (n ()) && decide (n () = n' ())), [none, none], [fun _ => o () + n () ≤ (l ()).length ∧ n () ≤ 1048576, fun _ => o' () + n' () ≤ (l' ()).length ∧ n' () ≤ 1048576, fun _ => n () ≤ n' ()])
    | _, _ => none
  | _, _ => none
def E118 : Env := fun g => envGetL [(140, ⟨true, s140, none⟩)] g
theorem E118ok : EnvOk Try.prog E118 := envOk_cons ok140 (envOk_nil _)
set_option maxRecDepth 100000 in
set_option maxHeartbeats 1000000 in
theorem ok118 : Ok Try.prog 118 (s118) := ok_of_wpaH (E := E118) mixed tts E118ok fn118 fun args H v H' o hs ho => by
  split at hs
  · rename_i o n o' n' x x'
    split at hs
    · rename_i l l' hl hl'
      cases hs
      obtain ⟨⟨hlen, hbig⟩, ⟨hlen', hbig'⟩, hx0⟩ := ho.three
      try simp only [Unit.unit] at hlen hbig hlen' hbig' hx0
      refine ⟨_, HLe.cons (BLe.fl hl) (HLe.cons (BLe.fl hl') HLe.nil), ?_⟩
      cbv
      refine loop_rule (α := Unit → Nat) (c := ⟨tt, E118, 2⟩)
          (fun i => fr 27 [(0, .c (.sl 0 (.x o) (.x n))), (1, .c (.sl 1 (.x o') (.x n'))), (7, .c (.i .i64 (.x fun _ => n ()))), (8, .c (.i .i64 (.x fun _ => i ())))]) (fun i => [some ⟨false, 0, .fl l⟩, some ⟨false, 0, .fl l'⟩])
          (fun i => i () ≤ n () ∧ allI (rowSame eqS (o ()) (o' ()) (l ()) (l' ())) (i ()) = true) (fun i => n () - i ()) (fun _ => n () + 1) ?_ ?_
      · refine .mk (fun _ => 0) ⟨Nat.zero_le _, rfl⟩ (by dsimp only; omega) ?_
        cbv
        repeat' (refine Ob.mk ?_ ?_; rotate_left)
        all_goals (try simp only [Unit.unit, Int.ofNat_lt, Int.ofNat_le, BE.val, IE.val, NE.val, ltB_iff, ltB_no, leB_iff, leB_no, Int.toNat_natCast, Nat.zero_add, Nat.add_zero, Nat.mul_one, forced, beq_iff_eq, beq_eq_false_iff_ne, bne_iff_ne, bne_eq_false_iff_eq] at *)
        all_goals first | with_reducible rfl | trivial | rfl
      · intro i hi
        cbv
        repeat' first
          | (refine alt_t (by assumption) ?_; cbv)
          | (refine alt_f (by assumption) ?_; cbv)
          | (refine alt_b (fun h => ?_) (fun h => ?_) <;> cbv)
          | (refine Br.mk (fun h => ?_) (fun h => ?_) <;> cbv)
          | (refine Ob.mk ?_ ?_; rotate_left; cbv)
          | (refine Lex.mk (by decide +kernel) ?_; cbv)
          | (refine Next.mk (fun _ => i () + 1) ?_ ?_ ?_)
        all_goals (try simp only [Unit.unit, Int.ofNat_lt, Int.ofNat_le, BE.val, IE.val, NE.val, ltB_iff, ltB_no, leB_iff, leB_no, Int.toNat_natCast, Nat.zero_add, Nat.add_zero, Nat.mul_one, forced, beq_iff_eq, beq_eq_false_iff_ne, bne_iff_ne, bne_eq_false_iff_eq] at *)
        all_goals (try simp only [Nat.zero_add] at *)
        all_goals first | with_reducible rfl | omega | exact wrap64_nat (by omega) | (refine ⟨Int.natCast_nonneg _, ?_⟩; omega) | omega | exact ⟨Int.natCast_nonneg _, by omega⟩ | (rw [allI_no (i := i ⟨⟩) (by omega) (by simpa [rowSame] using not_t (by assumption))]; rfl) | (refine ⟨by omega, ?_⟩; simp only [allI, hi.2, Bool.true_and]; simpa [rowSame] using not_f (by assumption)) | (rw [show i ⟨⟩ = n ⟨⟩ by omega] at hi; rw [hi.2]; simp; omega) | grind
    · cases hs
  · cases hs
theorem fn36 : FnOk Try.prog 36 Try.f36 (bodyOf Try.f36) := ⟨Try.func36, rfl, by rfl⟩
def s36 : Spec := hspec fun args H => match args, H with
  | [.a [.f .f32 st, .f .f32 sp, .f .f32 fd, .sl 0 (.x o) (.x n)], .a [.f .f32 st', .f .f32 sp', .f .f32 fd', .sl 1 (.x o') (.x n')]], [some ⟨false, 0, x⟩, some ⟨false, 0, x'⟩] => match x.toFl, x'.toFl with
    | some l, some l' => some (vB (webSame eqW (st ()) (sp ()) (fd ()) (n ()) (l ()) (st' ()) (sp' ()) (fd' ()) (n' ()) (l' ())), [none, none], [fun _ => o () = 0 ∧ (l ()).length = 3 * n () ∧ n () ≤ 1048576, fun _ => o' () = 0 ∧ (l' ()).length = 3 * n' () ∧ n' () ≤ 1048576])
    | _, _ => none
  | _, _ => none
def E36 : Env := fun g => envGetL [(97, ⟨true, s97, none⟩)] g
theorem E36ok : EnvOk Try.prog E36 := envOk_cons ok97 (envOk_nil _)
set_option maxRecDepth 100000 in
set_option maxHeartbeats 1000000 in
theorem ok36 : Ok Try.prog 36 (s36) := ok_of_wpaH (E := E36) mixed tts E36ok fn36 fun args H v H' o hs ho => by
  split at hs
  · rename_i st sp fd o n st' sp' fd' o' n' x x'
    split at hs
    · rename_i l l' hl hl'
      cases hs
      obtain ⟨⟨ho0, hlen, hbig⟩, ⟨ho0', hlen', hbig'⟩⟩ := ho.two
      try simp only [Unit.unit] at ho0 hlen hbig ho0' hlen' hbig'
      refine ⟨_, HLe.cons (BLe.fl hl) (HLe.cons (BLe.fl hl') HLe.nil), ?_⟩
      cbv
      by_cases hn : n ⟨⟩ = n' ⟨⟩
      rotate_left
      · have hr := same_n (f := eqW) (st := st ⟨⟩) (sp := sp ⟨⟩) (fd := fd ⟨⟩) (l := l ⟨⟩) (st' := st' ⟨⟩) (sp' := sp' ⟨⟩) (fd' := fd' ⟨⟩) (l' := l' ⟨⟩) hn
        refine Br.mk (fun h => ?_) (fun h => ?_)
        rotate_left
        · have h2 := inteq h
          exfalso
          exact hn h2
        cbv
        repeat' (refine Ob.mk ?_ ?_; rotate_left; cbv)
        all_goals (try simp only [Unit.unit, BE.val, IE.val, NE.val] at *)
        all_goals first | with_reducible rfl | (rw [hr]; done) | (rw [hr]; rfl)
      refine Br.mk (fun h => ?_) (fun h => ?_)
      · have h2 := intne h
        exfalso
        exact h2 hn
      clear h
      cbv
      refine Br.mk (fun k1 => ?_) (fun k1 => ?_)
      · have k1 : (!eqW (st ⟨⟩) (st' ⟨⟩)) = true := k1
        have hr := same_h (f := eqW) (n := n ⟨⟩) (n' := n' ⟨⟩) (l := l ⟨⟩) (l' := l' ⟨⟩) (and_1 (b := eqW (sp ⟨⟩) (sp' ⟨⟩)) (c := eqW (fd ⟨⟩) (fd' ⟨⟩)) k1)
        cbv
        repeat' (refine Ob.mk ?_ ?_; rotate_left; cbv)
        all_goals (try simp only [Unit.unit, BE.val, IE.val, NE.val] at *)
        all_goals first | with_reducible rfl | (rw [hr]; done) | (rw [hr]; rfl)
      have k1 : (!eqW (st ⟨⟩) (st' ⟨⟩)) = false := k1
      cbv
      refine Br.mk (fun k2 => ?_) (fun k2 => ?_)
      · have k2 : (!eqW (sp ⟨⟩) (sp' ⟨⟩)) = true := k2
        have hr := same_h (f := eqW) (n := n ⟨⟩) (n' := n' ⟨⟩) (l := l ⟨⟩) (l' := l' ⟨⟩) (and_2 (a := eqW (st ⟨⟩) (st' ⟨⟩)) (c := eqW (fd ⟨⟩) (fd' ⟨⟩)) k2)
        cbv
        repeat' (refine Ob.mk ?_ ?_; rotate_left; cbv)
        all_goals (try simp only [Unit.unit, BE.val, IE.val, NE.val] at *)
        all_goals first | with_reducible rfl | (rw [hr]; done) | (rw [hr]; rfl)
      have k2 : (!eqW (sp ⟨⟩) (sp' ⟨⟩)) = false := k2
      cbv
      refine Br.mk (fun k3 => ?_) (fun k3 => ?_)
      · have k3 : (!eqW (fd ⟨⟩) (fd' ⟨⟩)) = true := k3
        have hr := same_h (f := eqW) (n := n ⟨⟩) (n' := n' ⟨⟩) (l := l ⟨⟩) (l' := l' ⟨⟩) (and_3 (a := eqW (st ⟨⟩) (st' ⟨⟩)) (b := eqW (sp ⟨⟩) (sp' ⟨⟩)) k3)
        cbv
        repeat' (refine Ob.mk ?_ ?_; rotate_left; cbv)
        all_goals (try simp only [Unit.unit, BE.val, IE.val, NE.val] at *)
        all_goals first | with_reducible rfl | (rw [hr]; done) | (rw [hr]; rfl)
      have k3 : (!eqW (fd ⟨⟩) (fd' ⟨⟩)) = false := k3
      cbv
      have hh := and_y k1 k2 k3
      clear k1 k2 k3
      refine loop_rule (α := Unit → Nat) (c := ⟨tt, E36, 2⟩)
          (fun i => fr 78 [(2, .c (.p 2 (.l 0))), (3, .c (.p 3 (.l 0))), (5, .c (.i .i64 (.x fun _ => i ())))]) (fun i => [some ⟨false, 0, .fl l⟩, some ⟨false, 0, .fl l'⟩, some ⟨true, 0, .lit [.f .f32 st, .f .f32 sp, .f .f32 fd, .sl 0 (.x o) (.x n)]⟩, some ⟨true, 0, .lit [.f .f32 st', .f .f32 sp', .f .f32 fd', .sl 1 (.x o') (.x n')]⟩])
          (fun i => i () ≤ n () ∧ allI (spanSame eqW (l ()) (l' ())) (i ()) = true) (fun i => n () - i ()) (fun _ => n () + 1) ?_ ?_
      · refine .mk (fun _ => 0) ⟨Nat.zero_le _, rfl⟩ (by dsimp only; omega) ?_
        cbv
        repeat' (refine Ob.mk ?_ ?_; rotate_left)
        all_goals (try simp only [Unit.unit, Int.ofNat_lt, Int.ofNat_le, BE.val, IE.val, NE.val, ltB_iff, ltB_no, leB_iff, leB_no, Int.toNat_natCast, Nat.zero_add, Nat.add_zero, Nat.mul_one, forced, beq_iff_eq, beq_eq_false_iff_ne, bne_iff_ne, bne_eq_false_iff_eq] at *)
        all_goals first | with_reducible rfl | trivial | rfl
      · intro i hi
        cbv
        repeat' first
          | (refine alt_t (by assumption) ?_; cbv)
          | (refine alt_f (by assumption) ?_; cbv)
          | (refine alt_b (fun h => ?_) (fun h => ?_) <;> cbv)
          | (refine Br.mk (fun h => ?_) (fun h => ?_) <;> cbv)
          | (refine Ob.mk ?_ ?_; rotate_left; cbv)
          | (refine Lex.mk (by decide +kernel) ?_; cbv)
          | (refine Next.mk (fun _ => i () + 1) ?_ ?_ ?_)
        all_goals (try simp only [Unit.unit, Int.ofNat_lt, Int.ofNat_le, BE.val, IE.val, NE.val, ltB_iff, ltB_no, leB_iff, leB_no, Int.toNat_natCast, Nat.zero_add, Nat.add_zero, Nat.mul_one, forced, beq_iff_eq, beq_eq_false_iff_ne, bne_iff_ne, bne_eq_false_iff_eq] at *)
        all_goals (try simp only [ho0, ho0', Nat.zero_add] at *)
        all_goals first | with_reducible rfl | omega | exact wrap64_nat (by omega) | (refine ⟨Int.natCast_nonneg _, ?_⟩; omega) | omega | exact ⟨Int.natCast_nonneg _, by omega⟩ | (rw [same_s (i := i ⟨⟩) (by omega) (span_1 (f := eqW) (l := l ⟨⟩) (l' := l' ⟨⟩) (by assumption))]; done) | (rw [same_s (i := i ⟨⟩) (by omega) (span_2 (f := eqW) (l := l ⟨⟩) (l' := l' ⟨⟩) (by assumption))]; done) | (rw [same_s (i := i ⟨⟩) (by omega) (span_3 (f := eqW) (l := l ⟨⟩) (l' := l' ⟨⟩) (by assumption))]; done) | exact ⟨by omega, span_y hi.2 (by assumption) (by assumption) (by assumption)⟩ | (rw [show i ⟨⟩ = n ⟨⟩ by omega] at hi; rw [same_y hn hh hi.2]; done) | exact Nat.le_refl 3 | exact ⟨Nat.le_refl 3, Nat.le_of_ble_eq_true rfl⟩
    · cases hs
  · cases hs
theorem fn53 : FnOk Try.prog 53 Try.f53 (bodyOf Try.f53) := ⟨Try.func53, rfl, by rfl⟩
def s53 : Spec := hspec fun args H => match args, H with
  | [.a [.f .f32 st, .f .f32 sp, .f .f32 fd, .sl 0 (.x o) (.x n)], .a [.f .f32 st', .f .f32 sp', .f .f32 fd', .sl 1 (.x o') (.x n')]], [some ⟨false, 0, x⟩, some ⟨false, 0, x'⟩] => match x.toFl, x'.toFl with
    | some l, some l' => some (vB (webSame eqS (st ()) (sp ()) (fd ()) (n ()) (l ()) (st' ()) (sp' ()) (fd' ()) (n' ()) (l' ())), [none, none], [fun _ => o () = 0 ∧ (l ()).length = 3 * n () ∧ n () ≤ 1048576, fun _ => o' () = 0 ∧ (l' ()).length = 3 * n' () ∧ n' () ≤ 1048576])
    | _, _ => none
  | _, _ => none
def E53 : Env := fun g => envGetL [(118, ⟨true, s118, none⟩)] g
theorem E53ok : EnvOk Try.prog E53 := envOk_cons ok118 (envOk_nil _)
set_option maxRecDepth 100000 in
set_option maxHeartbeats 1000000 in
theorem ok53 : Ok Try.prog 53 (s53) := ok_of_wpaH (E := E53) mixed tts E53ok fn53 fun args H v H' o hs ho => by
  split at hs
  · rename_i st sp fd o n st' sp' fd' o' n' x x'
    split at hs
    · rename_i l l' hl hl'
      cases hs
      obtain ⟨⟨ho0, hlen, hbig⟩, ⟨ho0', hlen', hbig'⟩⟩ := ho.two
      try simp only [Unit.unit] at ho0 hlen hbig ho0' hlen' hbig'
      refine ⟨_, HLe.cons (BLe.fl hl) (HLe.cons (BLe.fl hl') HLe.nil), ?_⟩
      cbv
      by_cases hn : n ⟨⟩ = n' ⟨⟩
      rotate_left
      · have hr := same_n (f := eqS) (st := st ⟨⟩) (sp := sp ⟨⟩) (fd := fd ⟨⟩) (l := l ⟨⟩) (st' := st' ⟨⟩) (sp' := sp' ⟨⟩) (fd' := fd' ⟨⟩) (l' := l' ⟨⟩) hn
        refine Br.mk (fun h => ?_) (fun h => ?_)
        rotate_left
        · have h2 := inteq h
          exfalso
          exact hn h2
        cbv
        repeat' (refine Ob.mk ?_ ?_; rotate_left; cbv)
        all_goals (try simp only [Unit.unit, BE.val, IE.val, NE.val] at *)
        all_goals first | with_reducible rfl | (rw [hr]; done) | (rw [hr]; rfl)
      refine Br.mk (fun h => ?_) (fun h => ?_)
      · have h2 := intne h
        exfalso
        exact h2 hn
      clear h
      cbv
      repeat' (refine Ob.mk ?_ ?_; rotate_left; cbv)
      all_goals try (first | exact Nat.le_refl 3 | exact ⟨Nat.le_refl 3, Nat.le_of_ble_eq_true rfl⟩)
      refine Br.mk (fun k => ?_) (fun k => ?_)
      · have k : (eqS (st ⟨⟩) (st' ⟨⟩) && eqS (sp ⟨⟩) (sp' ⟨⟩) && eqS (fd ⟨⟩) (fd' ⟨⟩)) = false := all3 (f := eqS) ▸ not_t k
        have hr := same_h (f := eqS) (n := n ⟨⟩) (n' := n' ⟨⟩) (l := l ⟨⟩) (l' := l' ⟨⟩) (k)
        cbv
        repeat' (refine Ob.mk ?_ ?_; rotate_left; cbv)
        all_goals (try simp only [Unit.unit, BE.val, IE.val, NE.val] at *)
        all_goals first | with_reducible rfl | (rw [hr]; done) | (rw [hr]; rfl)
      have hh : (eqS (st ⟨⟩) (st' ⟨⟩) && eqS (sp ⟨⟩) (sp' ⟨⟩) && eqS (fd ⟨⟩) (fd' ⟨⟩)) = true := all3 (f := eqS) ▸ not_f k
      clear k
      cbv
      refine loop_rule (α := Unit → Nat) (c := ⟨tt, E53, 2⟩)
          (fun i => fr 63 [(2, .c (.p 2 (.l 0))), (3, .c (.p 3 (.l 0))), (34, .c (.sl 0 (.x o) (.x n))), (35, .c (.i .i64 (.x fun _ => n ()))), (36, .c (.i .i64 (.x fun _ => i ())))]) (fun i => [some ⟨false, 0, .fl l⟩, some ⟨false, 0, .fl l'⟩, some ⟨true, 0, .lit [.f .f32 st, .f .f32 sp, .f .f32 fd, .sl 0 (.x o) (.x n)]⟩, some ⟨true, 0, .lit [.f .f32 st', .f .f32 sp', .f .f32 fd', .sl 1 (.x o') (.x n')]⟩])
          (fun i => i () ≤ n () ∧ allI (spanSame eqS (l ()) (l' ())) (i ()) = true) (fun i => n () - i ()) (fun _ => n () + 1) ?_ ?_
      · refine .mk (fun _ => 0) ⟨Nat.zero_le _, rfl⟩ (by dsimp only; omega) ?_
        cbv
        repeat' (refine Ob.mk ?_ ?_; rotate_left)
        all_goals (try simp only [Unit.unit, Int.ofNat_lt, Int.ofNat_le, BE.val, IE.val, NE.val, ltB_iff, ltB_no, leB_iff, leB_no, Int.toNat_natCast, Nat.zero_add, Nat.add_zero, Nat.mul_one, forced, beq_iff_eq, beq_eq_false_iff_ne, bne_iff_ne, bne_eq_false_iff_eq] at *)
        all_goals first | with_reducible rfl | trivial | rfl
      · intro i hi
        cbv
        repeat' first
          | (refine alt_t (by assumption) ?_; cbv)
          | (refine alt_f (by assumption) ?_; cbv)
          | (refine alt_b (fun h => ?_) (fun h => ?_) <;> cbv)
          | (refine Br.mk (fun h => ?_) (fun h => ?_) <;> cbv)
          | (refine Ob.mk ?_ ?_; rotate_left; cbv)
          | (refine Lex.mk (by decide +kernel) ?_; cbv)
          | (refine Next.mk (fun _ => i () + 1) ?_ ?_ ?_)
        all_goals (try simp only [Unit.unit, Int.ofNat_lt, Int.ofNat_le, BE.val, IE.val, NE.val, ltB_iff, ltB_no, leB_iff, leB_no, Int.toNat_natCast, Nat.zero_add, Nat.add_zero, Nat.mul_one, forced, beq_iff_eq, beq_eq_false_iff_ne, bne_iff_ne, bne_eq_false_iff_eq] at *)
        all_goals (try simp only [ho0, ho0', Nat.zero_add] at *)
        all_goals first | with_reducible rfl | omega | exact wrap64_nat (by omega) | (refine ⟨Int.natCast_nonneg _, ?_⟩; omega) | omega | exact ⟨Int.natCast_nonneg _, by omega⟩ | (rw [same_s (i := i ⟨⟩) (by omega) (span_a (f := eqS) (l := l ⟨⟩) (l' := l' ⟨⟩) (by assumption))]; done) | exact ⟨by omega, span_ya hi.2 (by assumption)⟩ | (rw [show i ⟨⟩ = n ⟨⟩ by omega] at hi; rw [same_y hn hh hi.2]; done) | exact Nat.le_refl 3 | exact ⟨Nat.le_refl 3, Nat.le_of_ble_eq_true rfl⟩
    · cases hs
  · cases hs
end Go.Proofs.Ythkjlbggipocdaa.Sh
