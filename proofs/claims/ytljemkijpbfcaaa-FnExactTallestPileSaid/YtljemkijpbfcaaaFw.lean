/- What the tallest pile functions of this seat compute, each shown once. No condition. -/
import Derived.Test.YtljemkijpbfcaaaFv
import Derived.Test.YtljemkijpbfcaaaYn
set_option linter.unusedVariables false
set_option linter.unusedSimpArgs false
namespace Go.Proofs.Ytljemkijpbfcaaa.Sh
open Go Go.Proofs
theorem dryTo_lo {r t : Nat} {l : List Nat} {i j : Nat} (h : j < i) (hl : j < l.length) : (dryTo r t l i).getD j 0 = dry (l.getD j 0) r t := by
  have h1 : j < min i l.length := by omega
  simp [dryTo, List.getD_eq_getElem?_getD, List.getElem?_append, h1, List.getElem?_take, h, List.getElem?_eq_getElem hl]
theorem film_last (w p r t : Nat) (k : Nat) : (pileN w p r t (k + 1)).1.getD k 0 = dry w r t := by
  have hl : (pileN w p r t k).1.length = k := (pileN_len w p r t k).1
  show (dryTo r t (laidOn p w (pileN w p r t k).1 k) (k + 1)).getD k 0 = _
  rw [dryTo_lo (by omega) (by rw [laidOn_len, hl]; omega)]
  congr 1
  unfold laidOn
  rw [List.getD_eq_getElem?_getD, List.getElem?_append_right (by split <;> simp [hl])]
  have : (if k = 0 then (pileN w p r t k).1 else (pileN w p r t k).1.set (k - 1) (fop .sub .f32 ((pileN w p r t k).1.getD (k - 1) 0) (backOf p (pileN w p r t k).1 k))).length = k := by split <;> simp [hl]
  rw [this]; simp
theorem pile_back (w p r t : Nat) : ∀ k i, i < k → (pileN w p r t k).2.getD i 0 = if i = 0 then 0 else mul (dry w r t) p
  | 0, i, h => by omega
  | k + 1, i, h => by
    have hl : (pileN w p r t k).2.length = k := (pileN_len w p r t k).2
    show ((pileN w p r t k).2 ++ [backOf p (pileN w p r t k).1 k]).getD i 0 = _
    by_cases hi : i < k
    · rw [List.getD_eq_getElem?_getD, List.getElem?_append_left (by omega), ← List.getD_eq_getElem?_getD]
      exact pile_back w p r t k i hi
    · have e : i = k := by omega
      subst e
      rw [List.getD_eq_getElem?_getD, List.getElem?_append_right (by omega), hl]
      simp only [Nat.sub_self, List.getElem?_cons_zero, Option.getD_some]
      unfold backOf
      cases i with
      | zero => rfl
      | succ i => rw [if_neg (by omega), if_neg (by omega), Nat.add_sub_cancel, film_last]
/-- so many first ones -/
def lead (f : Nat → Bool) : Nat → Nat
  | 0 => 0
  | k + 1 => if lead f k = k then (if f k then k + 1 else k) else lead f k
theorem lead_step {f : Nat → Bool} {i : Nat} (h : lead f i = i) (hf : f i = true) : lead f (i + 1) = i + 1 := by simp [lead, h, hf]
theorem lead_stop {f : Nat → Bool} {i : Nat} (h : lead f i = i) (hf : f i = false) : ∀ {n : Nat}, i < n → lead f n = i
  | n + 1, hn => by
    unfold lead
    by_cases e : i = n
    · subst e; rw [if_pos h, hf]; rfl
    · have := lead_stop h hf (n := n) (by omega)
      rw [this, if_neg (by omega)]
theorem lead_ext {f g : Nat → Bool} : ∀ {n : Nat}, (∀ i, i < n → f i = g i) → lead f n = lead g n
  | 0, _ => rfl
  | n + 1, h => by unfold lead; rw [lead_ext (n := n) (fun i hi => h i (by omega)), h n (by omega)]
def cleanB (w p r t lim i : Nat) : Bool := fcmp .leq .f32 ((pileN w p r t 60).2.getD i 0) lim
theorem over_no {w p r t lim i : Nat} (h : laid 0 w p r t = true) (hl : isWet lim = true) (hi : i < 60) : fcmp .gtr .f32 ((pileN w p r t 60).2.getD i 0) lim = !cleanB w p r t lim i := by
  unfold cleanB
  simp only [laid, isWet, isPart, isRate, isIn, Bool.and_eq_true] at h hl
  obtain ⟨⟨⟨⟨_, h1⟩, h2⟩, h3⟩, h4⟩ := h
  rw [pile_back w p r t 60 i hi]
  obtain ⟨s, m, e, hlim, _⟩ := isIn_num (w := lim) (c := 1149239296) (j := -13) (by decide) (by simpa using hl)
  refine gtr_leq ?_ (by rw [hlim]; rfl)
  split
  · decide
  · exact back_num (by simpa using h1) (by simpa using h3) (by simpa using h4) (by simpa using h2)
def tall (w p r t lim : Nat) : Int × Int := if laid 0 w p r t && isWet lim then (lead (cleanB w p r t lim) 60, 0) else (0, 2)
def s5f (f : Nat → Nat → Nat → Nat → Nat → V) : Spec := nspec fun args H => match args, H with
  | [.c (.f .f32 w), .c (.f .f32 p), .c (.f .f32 r), .c (.f .f32 t), .c (.f .f32 m)], [] => some (f (w ()) (p ()) (r ()) (t ()) (m ()), [], [])
  | _, _ => none
theorem tall_no {w p r t m : Nat} (h : (laid 0 w p r t && isWet m) = false) : tall w p r t m = (0, 2) := by simp [tall, h]
theorem tall_yes {w p r t m : Nat} (h1 : laid 0 w p r t = true) (h2 : isWet m = true) : tall w p r t m = (((lead (cleanB w p r t m) 60 : Nat) : Int), 0) := by simp [tall, h1, h2]
theorem laid_60 (w p r t : Nat) : laid 60 w p r t = laid 0 w p r t := by simp [laid, inI, leB]
theorem lt60 {i : Nat} (h : ltB (i : Int) 60 = true) : i < 60 := by have := ltB_iff.1 h; omega
theorem ge60 {i : Nat} (h : ltB (i : Int) 60 = false) : 60 ≤ i := by have := ltB_no.1 h; omega
theorem lead_end {f : Nat → Bool} {i : Nat} (h : lead f i = i) (hi : i = 60) : lead f 60 = 60 := by rw [← hi]; rw [h]
theorem fn34 : FnOk Try.prog 34 Try.f34 (bodyOf Try.f34) := ⟨Try.func34, rfl, by rfl⟩
def E34 : Env := fun g => envGetL [(68, ⟨true, (s5 fun n w p r t => vB (laid n w p r t)), none⟩), (56, ⟨true, (s1F fun a => vB (isWet a)), none⟩), (69, ⟨true, s69, none⟩)] g
theorem E34ok : EnvOk Try.prog E34 := envOk_cons ok68 (envOk_cons ok56 (envOk_cons ok69 (envOk_nil _)))
set_option maxRecDepth 100000 in
set_option maxHeartbeats 1000000 in
theorem ok34 : Ok Try.prog 34 (s5f fun w p r t m => .t [vI (tall w p r t m).1, vI (tall w p r t m).2]) := ok_of_wpa (E := E34) mixed tts E34ok fn34 fun args H v H' o hs ho => by
  split at hs
  · rename_i w p r t m
    cases hs
    refine ⟨_, HLe.nil, ?_⟩
    have bl : ((pileN (w ()) (p ()) (r ()) (t ()) 60).2).length = 60 := (pileN_len _ _ _ _ _).2
    have hl6 := laid_60 (w ⟨⟩) (p ⟨⟩) (r ⟨⟩) (t ⟨⟩)
    by_cases hc : (laid 0 (w ⟨⟩) (p ⟨⟩) (r ⟨⟩) (t ⟨⟩) && isWet (m ⟨⟩)) = true
    rotate_left
    · have hn := tall_no (w := w ⟨⟩) (p := p ⟨⟩) (r := r ⟨⟩) (t := t ⟨⟩) (m := m ⟨⟩) (by simpa using hc)
      cbv
      repeat' first
        | (refine alt_b (fun h => ?_) (fun h => ?_) <;> cbv)
        | (refine Br.mk (fun h => ?_) (fun h => ?_) <;> cbv)
        | (refine Ob.mk ?_ ?_; rotate_left; cbv)
        | (exfalso; simp only [Unit.unit, Int.ofNat_lt, Int.ofNat_le, BE.val, IE.val, NE.val, ltB_iff, ltB_no, leB_iff, leB_no, Int.toNat_natCast, Nat.zero_add, Nat.mul_one, forced, beq_iff_eq, beq_eq_false_iff_ne] at *; simp_all; done)
      all_goals first | rfl | (rw [hn]; done) | (rw [hn]; rfl) | (exfalso; simp only [Unit.unit, Int.ofNat_lt, Int.ofNat_le, BE.val, IE.val, NE.val, ltB_iff, ltB_no, leB_iff, leB_no, Int.toNat_natCast, Nat.zero_add, Nat.mul_one, forced, beq_iff_eq, beq_eq_false_iff_ne] at *; simp_all; done)
    have h1 : laid 0 (w ⟨⟩) (p ⟨⟩) (r ⟨⟩) (t ⟨⟩) = true := by simp only [Bool.and_eq_true] at hc; exact hc.1
    have h2 : isWet (m ⟨⟩) = true := by simp only [Bool.and_eq_true] at hc; exact hc.2
    have h6 : laid 60 (w ⟨⟩) (p ⟨⟩) (r ⟨⟩) (t ⟨⟩) = true := hl6.trans h1
    have ht := tall_yes h1 h2
    clear hc hl6
    cbv
    repeat' first
      | (refine alt_t (by assumption) ?_; cbv)
      | (refine alt_b (fun h => ?_) (fun h => ?_) <;> cbv)
      | (refine Br.mk (fun h => ?_) (fun h => ?_) <;> cbv)
      | (refine Ob.mk (show (60 : Int) ≤ 1000 by decide) ?_; cbv)
      | (exfalso; simp_all [IE.val, BE.val, NE.val]; done)
    refine loop_rule (α := Unit → Nat) (c := ⟨tt, E34, 0⟩)
      (fun i => fr 49 [(4, .c (.f .f32 m)), (13, .c (.sl 1 (.l 0) (.x fun _ => 60))), (14, .c (.i .i64 (.x fun _ => i ())))]) (fun _ => [none, some ⟨true, 1, .fl fun _ => (pileN (w ()) (p ()) (r ()) (t ()) 60).2⟩])
      (fun i => i () ≤ 60 ∧ lead (cleanB (w ()) (p ()) (r ()) (t ()) (m ())) (i ()) = i ()) (fun i => 60 - i ()) (fun _ => 61) ?_ ?_
    · refine .mk (fun _ => 0) ⟨Nat.zero_le _, rfl⟩ (by dsimp only; omega) ?_
      cbv
      repeat' (refine Ob.mk ?_ ?_; rotate_left)
      all_goals (try simp only [Unit.unit, Int.ofNat_lt, Int.ofNat_le, BE.val, IE.val, NE.val, ltB_iff, ltB_no, leB_iff, leB_no, Int.toNat_natCast, Nat.zero_add, Nat.mul_one, forced, beq_iff_eq, beq_eq_false_iff_ne] at *)
      all_goals first | exact True.intro | with_reducible rfl | (simp only [show Int.toNat 60 = 60 from rfl]; done) | decide
    · intro i hi
      have hi1 : i ⟨⟩ ≤ 60 := hi.1
      have hi2 : lead (cleanB (w ⟨⟩) (p ⟨⟩) (r ⟨⟩) (t ⟨⟩) (m ⟨⟩)) (i ⟨⟩) = i ⟨⟩ := hi.2
      cbv
      refine Br.mk (fun h0 => ?_) (fun h0 => ?_)
      · have h60 : i ⟨⟩ < 60 := lt60 h0
        have hov := over_no (i := i ⟨⟩) h1 h2 h60
        have hcl : fcmp .leq .f32 ((pileN (w ⟨⟩) (p ⟨⟩) (r ⟨⟩) (t ⟨⟩) 60).2.getD (i ⟨⟩) 0) (m ⟨⟩) = cleanB (w ⟨⟩) (p ⟨⟩) (r ⟨⟩) (t ⟨⟩) (m ⟨⟩) (i ⟨⟩) := rfl
        cbv
        repeat' first
          | (refine Br.mk (fun h => ?_) (fun h => ?_) <;> cbv)
          | (refine Ob.mk ?_ ?_; rotate_left; cbv)
          | (refine Lex.mk (by kernel_rfl) ?_; cbv)
          | (refine Next.mk (fun _ => i () + 1) ?_ ?_ ?_)
        all_goals (try simp only [Unit.unit, Int.ofNat_lt, Int.ofNat_le, BE.val, IE.val, NE.val, ltB_iff, ltB_no, leB_iff, leB_no, Int.toNat_natCast, Nat.zero_add, Nat.mul_one, forced, beq_iff_eq, beq_eq_false_iff_ne] at *)
        all_goals (try simp only [bl] at *)
        all_goals first | exact True.intro | with_reducible rfl | omega | exact wrap64_nat (by omega) | (refine ⟨Int.natCast_nonneg _, ?_⟩; omega) | exact ⟨by omega, lead_step hi2 (hcl.symm.trans h)⟩ | (rw [ht, lead_stop hi2 (hcl.symm.trans h) h60]; done) | (rw [ht, hend, h60]; done) | (rw [ht, hend]; done) | (rw [ht, hend]; rfl) | (rw [ht]; done)
      · have h60 : i ⟨⟩ = 60 := Nat.le_antisymm hi1 (ge60 h0)
        have hend := lead_end hi2 h60
        cbv
        repeat' first
          | (refine Br.mk (fun h => ?_) (fun h => ?_) <;> cbv)
          | (refine Ob.mk ?_ ?_; rotate_left; cbv)
          | (refine Lex.mk (by kernel_rfl) ?_; cbv)
          | (refine Next.mk (fun _ => i () + 1) ?_ ?_ ?_)
        all_goals (try simp only [Unit.unit, Int.ofNat_lt, Int.ofNat_le, BE.val, IE.val, NE.val, ltB_iff, ltB_no, leB_iff, leB_no, Int.toNat_natCast, Nat.zero_add, Nat.mul_one, forced, beq_iff_eq, beq_eq_false_iff_ne] at *)
        all_goals (try simp only [bl] at *)
        all_goals first | exact True.intro | with_reducible rfl | omega | exact wrap64_nat (by omega) | (refine ⟨Int.natCast_nonneg _, ?_⟩; omega) | exact ⟨by omega, lead_step hi2 (hcl.symm.trans h)⟩ | (rw [ht, lead_stop hi2 (hcl.symm.trans h) h60]; done) | (rw [ht, hend, h60]; done) | (rw [ht, hend]; done) | (rw [ht, hend]; rfl) | (rw [ht]; done)
  · cases hs
theorem fn35 : FnOk Try.prog 35 Try.f35 (bodyOf Try.f35) := ⟨Try.func35, rfl, by rfl⟩
def E35 : Env := fun g => envGetL [(70, ⟨true, sNo, some (s70, s70F)⟩), (54, ⟨true, (s1F fun a => vB (isWet a)), none⟩)] g
theorem E35ok : EnvOk Try.prog E35 := envOk_alt ok70 ok70F (envOk_cons ok54 (envOk_nil _))
set_option maxRecDepth 100000 in
set_option maxHeartbeats 1000000 in
theorem ok35 : Ok Try.prog 35 (s5f fun w p r t m => .t [vI (tall w p r t m).1, vI (tall w p r t m).2]) := ok_of_wpa (E := E35) mixed tts E35ok fn35 fun args H v H' o hs ho => by
  split at hs
  · rename_i w p r t m
    cases hs
    refine ⟨_, HLe.nil, ?_⟩
    have bl : ((pileN (w ()) (p ()) (r ()) (t ()) 60).2).length = 60 := (pileN_len _ _ _ _ _).2
    have hl6 := laid_60 (w ⟨⟩) (p ⟨⟩) (r ⟨⟩) (t ⟨⟩)
    by_cases hc : (laid 0 (w ⟨⟩) (p ⟨⟩) (r ⟨⟩) (t ⟨⟩) && isWet (m ⟨⟩)) = true
    rotate_left
    · have hn := tall_no (w := w ⟨⟩) (p := p ⟨⟩) (r := r ⟨⟩) (t := t ⟨⟩) (m := m ⟨⟩) (by simpa using hc)
      cbv
      repeat' first
        | (refine alt_b (fun h => ?_) (fun h => ?_) <;> cbv)
        | (refine Br.mk (fun h => ?_) (fun h => ?_) <;> cbv)
        | (refine Ob.mk ?_ ?_; rotate_left; cbv)
        | (exfalso; simp only [Unit.unit, Int.ofNat_lt, Int.ofNat_le, BE.val, IE.val, NE.val, ltB_iff, ltB_no, leB_iff, leB_no, Int.toNat_natCast, Nat.zero_add, Nat.mul_one, forced, beq_iff_eq, beq_eq_false_iff_ne] at *; simp_all; done)
      all_goals first | rfl | (rw [hn]; done) | (rw [hn]; rfl) | (exfalso; simp only [Unit.unit, Int.ofNat_lt, Int.ofNat_le, BE.val, IE.val, NE.val, ltB_iff, ltB_no, leB_iff, leB_no, Int.toNat_natCast, Nat.zero_add, Nat.mul_one, forced, beq_iff_eq, beq_eq_false_iff_ne] at *; simp_all; done)
    have h1 : laid 0 (w ⟨⟩) (p ⟨⟩) (r ⟨⟩) (t ⟨⟩) = true := by simp only [Bool.and_eq_true] at hc; exact hc.1
    have h2 : isWet (m ⟨⟩) = true := by simp only [Bool.and_eq_true] at hc; exact hc.2
    have h6 : laid 60 (w ⟨⟩) (p ⟨⟩) (r ⟨⟩) (t ⟨⟩) = true := hl6.trans h1
    have ht := tall_yes h1 h2
    clear hc hl6
    cbv
    repeat' first
      | (refine alt_t (by assumption) ?_; cbv)
      | (refine alt_b (fun h => ?_) (fun h => ?_) <;> cbv)
      | (refine Br.mk (fun h => ?_) (fun h => ?_) <;> cbv)
      | (refine Ob.mk (show (60 : Int) ≤ 1000 by decide) ?_; cbv)
      | (exfalso; simp_all [IE.val, BE.val, NE.val]; done)
    refine loop_rule (α := Unit → Nat) (c := ⟨tt, E35, 0⟩)
      (fun i => fr 45 [(4, .c (.f .f32 m)), (33, .c (.sl 1 (.l 0) (.x fun _ => 60))), (34, .c (.i .i64 (.x fun _ => 60))), (35, .c (.i .i64 (.x fun _ => i ())))]) (fun _ => [none, some ⟨true, 1, .fl fun _ => (pileN (w ()) (p ()) (r ()) (t ()) 60).2⟩])
      (fun i => i () ≤ 60 ∧ lead (cleanB (w ()) (p ()) (r ()) (t ()) (m ())) (i ()) = i ()) (fun i => 60 - i ()) (fun _ => 61) ?_ ?_
    · refine .mk (fun _ => 0) ⟨Nat.zero_le _, rfl⟩ (by dsimp only; omega) ?_
      cbv
      repeat' (refine Ob.mk ?_ ?_; rotate_left)
      all_goals (try simp only [Unit.unit, Int.ofNat_lt, Int.ofNat_le, BE.val, IE.val, NE.val, ltB_iff, ltB_no, leB_iff, leB_no, Int.toNat_natCast, Nat.zero_add, Nat.mul_one, forced, beq_iff_eq, beq_eq_false_iff_ne] at *)
      all_goals first | exact True.intro | with_reducible rfl | (simp only [show Int.toNat 60 = 60 from rfl]; done) | decide
    · intro i hi
      have hi1 : i ⟨⟩ ≤ 60 := hi.1
      have hi2 : lead (cleanB (w ⟨⟩) (p ⟨⟩) (r ⟨⟩) (t ⟨⟩) (m ⟨⟩)) (i ⟨⟩) = i ⟨⟩ := hi.2
      cbv
      refine Br.mk (fun h0 => ?_) (fun h0 => ?_)
      · have h60 : i ⟨⟩ < 60 := lt60 h0
        have hov := over_no (i := i ⟨⟩) h1 h2 h60
        have hcl : fcmp .leq .f32 ((pileN (w ⟨⟩) (p ⟨⟩) (r ⟨⟩) (t ⟨⟩) 60).2.getD (i ⟨⟩) 0) (m ⟨⟩) = cleanB (w ⟨⟩) (p ⟨⟩) (r ⟨⟩) (t ⟨⟩) (m ⟨⟩) (i ⟨⟩) := rfl
        cbv
        repeat' first
          | (refine Br.mk (fun h => ?_) (fun h => ?_) <;> cbv)
          | (refine Ob.mk ?_ ?_; rotate_left; cbv)
          | (refine Lex.mk (by kernel_rfl) ?_; cbv)
          | (refine Next.mk (fun _ => i () + 1) ?_ ?_ ?_)
        all_goals (try simp only [Unit.unit, Int.ofNat_lt, Int.ofNat_le, BE.val, IE.val, NE.val, ltB_iff, ltB_no, leB_iff, leB_no, Int.toNat_natCast, Nat.zero_add, Nat.mul_one, forced, beq_iff_eq, beq_eq_false_iff_ne] at *)
        all_goals (try simp only [bl] at *)
        all_goals first | exact True.intro | with_reducible rfl | omega | exact wrap64_nat (by omega) | (refine ⟨Int.natCast_nonneg _, ?_⟩; omega) | exact ⟨by omega, lead_step hi2 (by rw [hov] at h; simpa using h)⟩ | (rw [ht, lead_stop hi2 (by rw [hov] at h; simpa using h) h60]; done) | (rw [ht, hend, h60]; done) | (rw [ht, hend]; done) | (rw [ht, hend]; rfl) | (rw [ht]; done)
      · have h60 : i ⟨⟩ = 60 := Nat.le_antisymm hi1 (ge60 h0)
        have hend := lead_end hi2 h60
        cbv
        repeat' first
          | (refine Br.mk (fun h => ?_) (fun h => ?_) <;> cbv)
          | (refine Ob.mk ?_ ?_; rotate_left; cbv)
          | (refine Lex.mk (by kernel_rfl) ?_; cbv)
          | (refine Next.mk (fun _ => i () + 1) ?_ ?_ ?_)
        all_goals (try simp only [Unit.unit, Int.ofNat_lt, Int.ofNat_le, BE.val, IE.val, NE.val, ltB_iff, ltB_no, leB_iff, leB_no, Int.toNat_natCast, Nat.zero_add, Nat.mul_one, forced, beq_iff_eq, beq_eq_false_iff_ne] at *)
        all_goals (try simp only [bl] at *)
        all_goals first | exact True.intro | with_reducible rfl | omega | exact wrap64_nat (by omega) | (refine ⟨Int.natCast_nonneg _, ?_⟩; omega) | exact ⟨by omega, lead_step hi2 (by rw [hov] at h; simpa using h)⟩ | (rw [ht, lead_stop hi2 (by rw [hov] at h; simpa using h) h60]; done) | (rw [ht, hend, h60]; done) | (rw [ht, hend]; done) | (rw [ht, hend]; rfl) | (rw [ht]; done)
  · cases hs
theorem fn10 : FnOk Try.prog 10 Try.f10 (bodyOf Try.f10) := ⟨Try.func10, rfl, by rfl⟩
def E10 : Env := fun g => envGetL [(34, ⟨true, (s5f fun w p r t m => .t [vI (tall w p r t m).1, vI (tall w p r t m).2]), none⟩), (35, ⟨true, (s5f fun w p r t m => .t [vI (tall w p r t m).1, vI (tall w p r t m).2]), none⟩)] g
theorem E10ok : EnvOk Try.prog E10 := envOk_cons ok34 (envOk_cons ok35 (envOk_nil _))
theorem ok10 : Ok Try.prog 10 (s5f fun _ _ _ _ _ => .c (.b (.l true))) := ok_of_wpa (E := E10) mixed tts E10ok fn10 fun args H v H' o hs ho => by
  split at hs
  · rename_i w p r t m
    cases hs
    refine ⟨_, HLe.nil, ?_⟩
    cbv
    repeat' first
      | (refine Br.mk (fun h => ?_) (fun h => ?_) <;> cbv)
      | (refine Ob.mk ?_ ?_; rotate_left; cbv)
    all_goals (try simp only [Unit.unit, BE.val, IE.val, NE.val] at *)
    all_goals first | (simp_all; done) | grind
  · cases hs
end Go.Proofs.Ytljemkijpbfcaaa.Sh
