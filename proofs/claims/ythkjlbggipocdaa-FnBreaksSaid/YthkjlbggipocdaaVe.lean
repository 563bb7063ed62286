/- What the answers for a span of this seat compute, each shown once. No condition. -/
import Derived.Test.YthkjlbggipocdaaVd
set_option linter.unusedVariables false
set_option linter.unusedSimpArgs false
set_option linter.unusedSectionVars false
namespace Go.Proofs.Ythkjlbggipocdaa.Sh
open Go Go.Proofs
theorem asked_ok {ok : Bool} {i : Int} {n : Nat} (h : askedC ok i n = 0) : ok = true ∧ 0 ≤ i ∧ i.toNat < n := by
  unfold askedC at h
  split at h
  · rename_i hk
    split at h
    · rename_i hi
      rw [inI_iff] at hi
      exact ⟨hk, by omega, by omega⟩
    · cases h
  · cases h
theorem not_f {b : Bool} (h : (!b) = false) : b = true := by cases b <;> simp_all
theorem not_t {b : Bool} (h : (!b) = true) : b = false := by cases b <;> simp_all
theorem lt_k {i : Nat} {k : Int} (h : ltB (i : Int) k = true) : i < k.toNat := by have := ltB_iff.1 h; omega
theorem le_k {i : Nat} {k : Int} (h : ltB (i : Int) k = false) : k.toNat ≤ i := by have := ltB_no.1 h; omega
def pullW (sp : Nat) (l : List Nat) (i : Nat) : Nat := fop .quo .f32 (fop .sub .f32 (l.getD (i * 3 + 1) 0) (uB sp l i)) (uB sp l i)
theorem bestT_one (l : List Nat) : bestT l 1 = 0 := by simp [bestT]
def tightW (st sp fd : Nat) (l : List Nat) (n : Nat) : Int × Nat × Int := if webOk st sp fd l n then ((bestT l n : Nat), l.getD (bestT l n * 3 + 2) 0, 0) else (0, 0, 1)
theorem fn55 : FnOk Try.prog 55 Try.f55 (bodyOf Try.f55) := ⟨Try.func55, rfl, by rfl⟩
def s55 : Spec := hspec fun args H => match args, H with
  | [.a [.f .f32 st, .f .f32 sp, .f .f32 fd, .sl 0 (.x o) (.x n)], .c (.i .i64 (.x k))], [some ⟨false, 0, x⟩] => match x.toFl with
    | some l => some (.t [F (if askedC (webOk (st ()) (sp ()) (fd ()) (l ()) (n ())) (k ()) (n ()) = 0 then fop .quo .f32 ((l ()).getD ((k ()).toNat * 3 + 2) 0) (st ()) else 0), vI (askedC (webOk (st ()) (sp ()) (fd ()) (l ()) (n ())) (k ()) (n ()))], [none], [fun _ => o () = 0 ∧ (l ()).length = 3 * n () ∧ n () ≤ 1048576])
    | _ => none
  | _, _ => none
def E55 : Env := fun g => envGetL [(119, ⟨true, s119, none⟩)] g
theorem E55ok : EnvOk Try.prog E55 := envOk_cons ok119 (envOk_nil _)
set_option maxRecDepth 100000 in
set_option maxHeartbeats 1000000 in
theorem ok55 : Ok Try.prog 55 (s55) := ok_of_wpaH (E := E55) mixed tts E55ok fn55 fun args H v H' o hs ho => by
  split at hs
  · rename_i st sp fd o n k x
    split at hs
    · rename_i l hl
      cases hs
      obtain ⟨ho0, hlen, hbig⟩ := ho.one
      try simp only [Unit.unit] at ho0 hlen hbig
      refine ⟨_, HLe.cons (BLe.fl hl) HLe.nil, ?_⟩
      cbv
      repeat' first
        | (refine alt_t (by assumption) ?_; cbv)
        | (refine alt_f (by assumption) ?_; cbv)
        | (refine alt_b (fun h => ?_) (fun h => ?_) <;> cbv)
        | (refine Br.mk (fun h => ?_) (fun h => ?_) <;> cbv)
        | (refine Ob.mk ?_ ?_; rotate_left; cbv)
        | (refine Lex.mk (by kernel_rfl) ?_; cbv)
      all_goals (try simp only [Unit.unit, Int.ofNat_lt, Int.ofNat_le, BE.val, IE.val, NE.val, ltB_iff, ltB_no, leB_iff, leB_no, Int.toNat_natCast, Nat.zero_add, Nat.add_zero, Nat.mul_one, forced, beq_iff_eq, beq_eq_false_iff_ne, bne_iff_ne, bne_eq_false_iff_eq] at *)
      all_goals first | with_reducible rfl | exact ⟨ho0, hlen, hbig⟩ | exact ⟨by trivial, hlen, hbig⟩ | exact kn (asked_ok (by assumption)).2 | exact (asked_ok (by assumption)).2 | (have ha := (asked_ok (by assumption)).2; omega) | (rw [if_pos (by assumption)]; simp only [ho0, Nat.zero_add]; done) | (rw [if_pos (by assumption), ho0, Nat.zero_add]; rfl) | (rw [if_pos (by assumption)]; rfl) | (simp_all; done)
    · cases hs
  · cases hs
theorem fn56 : FnOk Try.prog 56 Try.f56 (bodyOf Try.f56) := ⟨Try.func56, rfl, by rfl⟩
def s56 : Spec := hspec fun args H => match args, H with
  | [.a [.f .f32 st, .f .f32 sp, .f .f32 fd, .sl 0 (.x o) (.x n)], .c (.i .i64 (.x k))], [some ⟨false, 0, x⟩] => match x.toFl with
    | some l => some (.t [F (if askedC (webOk (st ()) (sp ()) (fd ()) (l ()) (n ())) (k ()) (n ()) = 0 then fop .quo .f32 ((l ()).getD ((k ()).toNat * 3 + 2) 0) (st ()) else 0), vI (askedC (webOk (st ()) (sp ()) (fd ()) (l ()) (n ())) (k ()) (n ()))], [none], [fun _ => o () = 0 ∧ (l ()).length = 3 * n () ∧ n () ≤ 1048576])
    | _ => none
  | _, _ => none
def E56 : Env := fun g => envGetL [(110, ⟨true, s110, none⟩)] g
theorem E56ok : EnvOk Try.prog E56 := envOk_cons ok110 (envOk_nil _)
set_option maxRecDepth 100000 in
set_option maxHeartbeats 1000000 in
theorem ok56 : Ok Try.prog 56 (s56) := ok_of_wpaH (E := E56) mixed tts E56ok fn56 fun args H v H' o hs ho => by
  split at hs
  · rename_i st sp fd o n k x
    split at hs
    · rename_i l hl
      cases hs
      obtain ⟨ho0, hlen, hbig⟩ := ho.one
      try simp only [Unit.unit] at ho0 hlen hbig
      refine ⟨_, HLe.cons (BLe.fl hl) HLe.nil, ?_⟩
      cbv
      repeat' first
        | (refine alt_t (by assumption) ?_; cbv)
        | (refine alt_f (by assumption) ?_; cbv)
        | (refine alt_b (fun h => ?_) (fun h => ?_) <;> cbv)
        | (refine Br.mk (fun h => ?_) (fun h => ?_) <;> cbv)
        | (refine Ob.mk ?_ ?_; rotate_left; cbv)
        | (refine Lex.mk (by kernel_rfl) ?_; cbv)
      all_goals (try simp only [Unit.unit, Int.ofNat_lt, Int.ofNat_le, BE.val, IE.val, NE.val, ltB_iff, ltB_no, leB_iff, leB_no, Int.toNat_natCast, Nat.zero_add, Nat.add_zero, Nat.mul_one, forced, beq_iff_eq, beq_eq_false_iff_ne, bne_iff_ne, bne_eq_false_iff_eq] at *)
      all_goals first | with_reducible rfl | exact ⟨ho0, hlen, hbig⟩ | exact ⟨by trivial, hlen, hbig⟩ | exact kn (asked_ok (by assumption)).2 | exact (asked_ok (by assumption)).2 | (have ha := (asked_ok (by assumption)).2; omega) | (rw [if_pos (by assumption)]; simp only [ho0, Nat.zero_add]; done) | (rw [if_pos (by assumption), ho0, Nat.zero_add]; rfl) | (rw [if_pos (by assumption)]; rfl) | (simp_all; done)
    · cases hs
  · cases hs
theorem fn57 : FnOk Try.prog 57 Try.f57 (bodyOf Try.f57) := ⟨Try.func57, rfl, by rfl⟩
def s57 : Spec := hspec fun args H => match args, H with
  | [.a [.f .f32 st, .f .f32 sp, .f .f32 fd, .sl 0 (.x o) (.x n)], .c (.i .i64 (.x k))], [some ⟨false, 0, x⟩] => match x.toFl with
    | some l => some (.t [F (if askedC (webOk (st ()) (sp ()) (fd ()) (l ()) (n ())) (k ()) (n ()) = 0 then pullW (sp ()) (l ()) (k ()).toNat else 0), vI (askedC (webOk (st ()) (sp ()) (fd ()) (l ()) (n ())) (k ()) (n ()))], [none], [fun _ => o () = 0 ∧ (l ()).length = 3 * n () ∧ n () ≤ 1048576])
    | _ => none
  | _, _ => none
def E57 : Env := fun g => envGetL [(119, ⟨true, s119, none⟩), (120, ⟨true, s120, none⟩)] g
theorem E57ok : EnvOk Try.prog E57 := envOk_cons ok119 (envOk_cons ok120 (envOk_nil _))
set_option maxRecDepth 100000 in
set_option maxHeartbeats 1000000 in
theorem ok57 : Ok Try.prog 57 (s57) := ok_of_wpaH (E := E57) mixed tts E57ok fn57 fun args H v H' o hs ho => by
  split at hs
  · rename_i st sp fd o n k x
    split at hs
    · rename_i l hl
      cases hs
      obtain ⟨ho0, hlen, hbig⟩ := ho.one
      try simp only [Unit.unit] at ho0 hlen hbig
      refine ⟨_, HLe.cons (BLe.fl hl) HLe.nil, ?_⟩
      cbv
      repeat' first
        | (refine alt_t (by assumption) ?_; cbv)
        | (refine alt_f (by assumption) ?_; cbv)
        | (refine alt_b (fun h => ?_) (fun h => ?_) <;> cbv)
        | (refine Br.mk (fun h => ?_) (fun h => ?_) <;> cbv)
        | (refine Ob.mk ?_ ?_; rotate_left; cbv)
        | (refine Lex.mk (by kernel_rfl) ?_; cbv)
      all_goals (try simp only [Unit.unit, Int.ofNat_lt, Int.ofNat_le, BE.val, IE.val, NE.val, ltB_iff, ltB_no, leB_iff, leB_no, Int.toNat_natCast, Nat.zero_add, Nat.add_zero, Nat.mul_one, forced, beq_iff_eq, beq_eq_false_iff_ne, bne_iff_ne, bne_eq_false_iff_eq] at *)
      all_goals first | with_reducible rfl | exact ⟨ho0, hlen, hbig⟩ | exact ⟨by trivial, hlen, hbig⟩ | exact kn (asked_ok (by assumption)).2 | exact (asked_ok (by assumption)).2 | (have ha := (asked_ok (by assumption)).2; omega) | (rw [if_pos (by assumption)]; simp only [pullW, ho0, Nat.zero_add]; done) | (rw [if_pos (by assumption), ho0, Nat.zero_add]; rfl) | (rw [if_pos (by assumption)]; rfl) | (simp_all; done)
    · cases hs
  · cases hs
theorem fn58 : FnOk Try.prog 58 Try.f58 (bodyOf Try.f58) := ⟨Try.func58, rfl, by rfl⟩
def s58 : Spec := hspec fun args H => match args, H with
  | [.a [.f .f32 st, .f .f32 sp, .f .f32 fd, .sl 0 (.x o) (.x n)], .c (.i .i64 (.x k))], [some ⟨false, 0, x⟩] => match x.toFl with
    | some l => some (.t [F (if askedC (webOk (st ()) (sp ()) (fd ()) (l ()) (n ())) (k ()) (n ()) = 0 then pullW (sp ()) (l ()) (k ()).toNat else 0), vI (askedC (webOk (st ()) (sp ()) (fd ()) (l ()) (n ())) (k ()) (n ()))], [none], [fun _ => o () = 0 ∧ (l ()).length = 3 * n () ∧ n () ≤ 1048576])
    | _ => none
  | _, _ => none
def E58 : Env := fun g => envGetL [(110, ⟨true, s110, none⟩), (121, ⟨true, s121, none⟩)] g
theorem E58ok : EnvOk Try.prog E58 := envOk_cons ok110 (envOk_cons ok121 (envOk_nil _))
set_option maxRecDepth 100000 in
set_option maxHeartbeats 1000000 in
theorem ok58 : Ok Try.prog 58 (s58) := ok_of_wpaH (E := E58) mixed tts E58ok fn58 fun args H v H' o hs ho => by
  split at hs
  · rename_i st sp fd o n k x
    split at hs
    · rename_i l hl
      cases hs
      obtain ⟨ho0, hlen, hbig⟩ := ho.one
      try simp only [Unit.unit] at ho0 hlen hbig
      refine ⟨_, HLe.cons (BLe.fl hl) HLe.nil, ?_⟩
      cbv
      repeat' first
        | (refine alt_t (by assumption) ?_; cbv)
        | (refine alt_f (by assumption) ?_; cbv)
        | (refine alt_b (fun h => ?_) (fun h => ?_) <;> cbv)
        | (refine Br.mk (fun h => ?_) (fun h => ?_) <;> cbv)
        | (refine Ob.mk ?_ ?_; rotate_left; cbv)
        | (refine Lex.mk (by kernel_rfl) ?_; cbv)
      all_goals (try simp only [Unit.unit, Int.ofNat_lt, Int.ofNat_le, BE.val, IE.val, NE.val, ltB_iff, ltB_no, leB_iff, leB_no, Int.toNat_natCast, Nat.zero_add, Nat.add_zero, Nat.mul_one, forced, beq_iff_eq, beq_eq_false_iff_ne, bne_iff_ne, bne_eq_false_iff_eq] at *)
      all_goals first | with_reducible rfl | exact ⟨ho0, hlen, hbig⟩ | exact ⟨by trivial, hlen, hbig⟩ | exact kn (asked_ok (by assumption)).2 | exact (asked_ok (by assumption)).2 | (have ha := (asked_ok (by assumption)).2; omega) | (rw [if_pos (by assumption)]; simp only [pullW, ho0, Nat.zero_add]; done) | (rw [if_pos (by assumption), ho0, Nat.zero_add]; rfl) | (rw [if_pos (by assumption)]; rfl) | (simp_all; done)
    · cases hs
  · cases hs
theorem fn59 : FnOk Try.prog 59 Try.f59 (bodyOf Try.f59) := ⟨Try.func59, rfl, by rfl⟩
def s59 : Spec := hspec fun args H => match args, H with
  | [.a [.f .f32 st, .f .f32 sp, .f .f32 fd, .sl 0 (.x o) (.x n)], .c (.i .i64 (.x k))], [some ⟨false, 0, x⟩] => match x.toFl with
    | some l => some (.t [F (if askedC (webOk (st ()) (sp ()) (fd ()) (l ()) (n ())) (k ()) (n ()) = 0 then rateW (st ()) (sp ()) (fd ()) (l ()) (k ()).toNat else 0), vI (askedC (webOk (st ()) (sp ()) (fd ()) (l ()) (n ())) (k ()) (n ()))], [none], [fun _ => o () = 0 ∧ (l ()).length = 3 * n () ∧ n () ≤ 1048576])
    | _ => none
  | _, _ => none
def E59 : Env := fun g => envGetL [(119, ⟨true, s119, none⟩), (122, ⟨true, s122, none⟩)] g
theorem E59ok : EnvOk Try.prog E59 := envOk_cons ok119 (envOk_cons ok122 (envOk_nil _))
set_option maxRecDepth 100000 in
set_option maxHeartbeats 1000000 in
theorem ok59 : Ok Try.prog 59 (s59) := ok_of_wpaH (E := E59) mixed tts E59ok fn59 fun args H v H' o hs ho => by
  split at hs
  · rename_i st sp fd o n k x
    split at hs
    · rename_i l hl
      cases hs
      obtain ⟨ho0, hlen, hbig⟩ := ho.one
      try simp only [Unit.unit] at ho0 hlen hbig
      refine ⟨_, HLe.cons (BLe.fl hl) HLe.nil, ?_⟩
      cbv
      repeat' first
        | (refine alt_t (by assumption) ?_; cbv)
        | (refine alt_f (by assumption) ?_; cbv)
        | (refine alt_b (fun h => ?_) (fun h => ?_) <;> cbv)
        | (refine Br.mk (fun h => ?_) (fun h => ?_) <;> cbv)
        | (refine Ob.mk ?_ ?_; rotate_left; cbv)
        | (refine Lex.mk (by kernel_rfl) ?_; cbv)
      all_goals (try simp only [Unit.unit, Int.ofNat_lt, Int.ofNat_le, BE.val, IE.val, NE.val, ltB_iff, ltB_no, leB_iff, leB_no, Int.toNat_natCast, Nat.zero_add, Nat.add_zero, Nat.mul_one, forced, beq_iff_eq, beq_eq_false_iff_ne, bne_iff_ne, bne_eq_false_iff_eq] at *)
      all_goals first | with_reducible rfl | exact ⟨ho0, hlen, hbig⟩ | exact ⟨by trivial, hlen, hbig⟩ | exact kn (asked_ok (by assumption)).2 | exact (asked_ok (by assumption)).2 | (have ha := (asked_ok (by assumption)).2; omega) | (rw [if_pos (by assumption)]; simp only [ho0, Nat.zero_add]; done) | (rw [if_pos (by assumption), ho0, Nat.zero_add]; rfl) | (rw [if_pos (by assumption)]; rfl) | (simp_all; done)
    · cases hs
  · cases hs
theorem fn46 : FnOk Try.prog 46 Try.f46 (bodyOf Try.f46) := ⟨Try.func46, rfl, by rfl⟩
def s46 : Spec := hspec fun args H => match args, H with
  | [.a [.f .f32 st, .f .f32 sp, .f .f32 fd, .sl 0 (.x o) (.x n)], .c (.i .i64 (.x k))], [some ⟨false, 0, x⟩] => match x.toFl with
    | some l => some (.t [F (if askedC (webOk (st ()) (sp ()) (fd ()) (l ()) (n ())) (k ()) (n ()) = 0 then rateW (st ()) (sp ()) (fd ()) (l ()) (k ()).toNat else 0), vI (askedC (webOk (st ()) (sp ()) (fd ()) (l ()) (n ())) (k ()) (n ()))], [none], [fun _ => o () = 0 ∧ (l ()).length = 3 * n () ∧ n () ≤ 1048576])
    | _ => none
  | _, _ => none
def E46 : Env := fun g => envGetL [(110, ⟨true, s110, none⟩), (111, ⟨true, s111, none⟩)] g
theorem E46ok : EnvOk Try.prog E46 := envOk_cons ok110 (envOk_cons ok111 (envOk_nil _))
set_option maxRecDepth 100000 in
set_option maxHeartbeats 1000000 in
theorem ok46 : Ok Try.prog 46 (s46) := ok_of_wpaH (E := E46) mixed tts E46ok fn46 fun args H v H' o hs ho => by
  split at hs
  · rename_i st sp fd o n k x
    split at hs
    · rename_i l hl
      cases hs
      obtain ⟨ho0, hlen, hbig⟩ := ho.one
      try simp only [Unit.unit] at ho0 hlen hbig
      refine ⟨_, HLe.cons (BLe.fl hl) HLe.nil, ?_⟩
      cbv
      repeat' first
        | (refine alt_t (by assumption) ?_; cbv)
        | (refine alt_f (by assumption) ?_; cbv)
        | (refine alt_b (fun h => ?_) (fun h => ?_) <;> cbv)
        | (refine Br.mk (fun h => ?_) (fun h => ?_) <;> cbv)
        | (refine Ob.mk ?_ ?_; rotate_left; cbv)
        | (refine Lex.mk (by kernel_rfl) ?_; cbv)
      all_goals (try simp only [Unit.unit, Int.ofNat_lt, Int.ofNat_le, BE.val, IE.val, NE.val, ltB_iff, ltB_no, leB_iff, leB_no, Int.toNat_natCast, Nat.zero_add, Nat.add_zero, Nat.mul_one, forced, beq_iff_eq, beq_eq_false_iff_ne, bne_iff_ne, bne_eq_false_iff_eq] at *)
      all_goals first | with_reducible rfl | exact ⟨ho0, hlen, hbig⟩ | exact ⟨by trivial, hlen, hbig⟩ | exact kn (asked_ok (by assumption)).2 | exact (asked_ok (by assumption)).2 | (have ha := (asked_ok (by assumption)).2; omega) | (rw [if_pos (by assumption)]; simp only [ho0, Nat.zero_add]; done) | (rw [if_pos (by assumption), ho0, Nat.zero_add]; rfl) | (rw [if_pos (by assumption)]; rfl) | (simp_all; done)
    · cases hs
  · cases hs
end Go.Proofs.Ythkjlbggipocdaa.Sh
