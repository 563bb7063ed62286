/- What the webs with another speed or tension of this seat compute, each shown once. No condition. -/
import Derived.Test.YthkjlbggipocdaaVg
set_option linter.unusedVariables false
set_option linter.unusedSimpArgs false
set_option linter.unusedSectionVars false
namespace Go.Proofs.Ythkjlbggipocdaa.Sh
open Go Go.Proofs
def setC (st sp fd : Nat) (l : List Nat) (n : Nat) (k : Int) (c v : Nat) : Int :=
  if askedC (webOk st sp fd l n) k n = 0 then if webOk st sp fd (l.set (k.toNat * 3 + c) v) n then 0 else 4 else askedC (webOk st sp fd l n) k n
theorem set_ok {st sp fd : Nat} {l : List Nat} {n : Nat} {k : Int} {c v : Nat} (h : (setC st sp fd l n k c v == 0) = true) : askedC (webOk st sp fd l n) k n = 0 ∧ webOk st sp fd (l.set (k.toNat * 3 + c) v) n = true := by
  rw [beq_iff_eq] at h
  unfold setC at h
  split at h
  · rename_i h1
    split at h
    · rename_i h2; exact ⟨h1, h2⟩
    · cases h
  · rename_i h1; exact absurd h h1
theorem set_a {st sp fd : Nat} {l : List Nat} {n : Nat} {k : Int} {c v : Nat} (h : ¬ askedC (webOk st sp fd l n) k n = 0) : setC st sp fd l n k c v = askedC (webOk st sp fd l n) k n := by simp [setC, h]
theorem set_4 {st sp fd : Nat} {l : List Nat} {n : Nat} {k : Int} {c v : Nat} (h : askedC (webOk st sp fd l n) k n = 0) (h2 : webOk st sp fd (l.set (k.toNat * 3 + c) v) n = false) : setC st sp fd l n k c v = 4 := by simp [setC, h, h2]
theorem set_0 {st sp fd : Nat} {l : List Nat} {n : Nat} {k : Int} {c v : Nat} (h : askedC (webOk st sp fd l n) k n = 0) (h2 : webOk st sp fd (l.set (k.toNat * 3 + c) v) n = true) : setC st sp fd l n k c v = 0 := by simp [setC, h, h2]
theorem set_len {l : List Nat} {n j v : Nat} (h : l.length = 3 * n) : (l.set j v).length = 3 * n := by simp [h]
theorem fn127 : FnOk Try.prog 127 Try.f127 (bodyOf Try.f127) := ⟨Try.func127, rfl, by rfl⟩
def s127 : Spec := hspec fun args H => match args, H with
  | [.c (.p 0 (.x p)), .c (.p 1 (.l 0))], [some ⟨true, 3, x⟩, some ⟨false, 0, .lit [.f .f32 v]⟩] => match x.toFl with
    | some l => some (.t [], [some ⟨true, 3, .fl fun _ => (l ()).set (p () + 1) (v ())⟩, some ⟨false, 0, .lit [.f .f32 v]⟩], [fun _ => p () + 1 < (l ()).length])
    | _ => none
  | _, _ => none
theorem ok127 : Ok Try.prog 127 (s127) := ok_of_wpaH (E := envGetL []) mixed tts (envOk_nil _) fn127 fun args H v H' o hs ho => by
  split at hs
  · rename_i p x v
    split at hs
    · rename_i l hl
      cases hs
      have hp := ho.one
      refine ⟨_, HLe.cons (BLe.fl hl) (HLe.cons (BLe.refl _) HLe.nil), ?_⟩
      cbv
      repeat' first
        | (refine Br.mk (fun h => ?_) (fun h => ?_) <;> cbv)
        | (refine Ob.mk ?_ ?_; rotate_left; cbv)
      all_goals (try simp only [Unit.unit, Int.ofNat_lt, Int.ofNat_le, BE.val, IE.val, NE.val, ltB_iff, ltB_no, leB_iff, leB_no, Int.toNat_natCast, Nat.zero_add, Nat.add_zero, Nat.mul_one, forced, beq_iff_eq, beq_eq_false_iff_ne, bne_iff_ne, bne_eq_false_iff_eq] at *)
      all_goals first | with_reducible rfl | exact hp | grind
    · cases hs
  · cases hs
theorem fn128 : FnOk Try.prog 128 Try.f128 (bodyOf Try.f128) := ⟨Try.func128, rfl, by rfl⟩
def s128 : Spec := hspec fun args H => match args, H with
  | [.c (.p 0 (.x p)), .c (.p 1 (.l 0))], [some ⟨true, 3, x⟩, some ⟨false, 0, .lit [.f .f32 v]⟩] => match x.toFl with
    | some l => some (.t [], [some ⟨true, 3, .fl fun _ => (l ()).set (p () + 2) (v ())⟩, some ⟨false, 0, .lit [.f .f32 v]⟩], [fun _ => p () + 2 < (l ()).length])
    | _ => none
  | _, _ => none
theorem ok128 : Ok Try.prog 128 (s128) := ok_of_wpaH (E := envGetL []) mixed tts (envOk_nil _) fn128 fun args H v H' o hs ho => by
  split at hs
  · rename_i p x v
    split at hs
    · rename_i l hl
      cases hs
      have hp := ho.one
      refine ⟨_, HLe.cons (BLe.fl hl) (HLe.cons (BLe.refl _) HLe.nil), ?_⟩
      cbv
      repeat' first
        | (refine Br.mk (fun h => ?_) (fun h => ?_) <;> cbv)
        | (refine Ob.mk ?_ ?_; rotate_left; cbv)
      all_goals (try simp only [Unit.unit, Int.ofNat_lt, Int.ofNat_le, BE.val, IE.val, NE.val, ltB_iff, ltB_no, leB_iff, leB_no, Int.toNat_natCast, Nat.zero_add, Nat.add_zero, Nat.mul_one, forced, beq_iff_eq, beq_eq_false_iff_ne, bne_iff_ne, bne_eq_false_iff_eq] at *)
      all_goals first | with_reducible rfl | exact hp | grind
    · cases hs
  · cases hs
def s126aT : Spec := hspec fun args H => match args, H with
  | [.a [.f .f32 st, .f .f32 sp, .f .f32 fd, .sl 0 (.x o) (.x n)], .c (.i .i64 (.x k)), .c (.fn 127 [1])], [some ⟨false, 0, x⟩, some ⟨false, 0, .lit [.f .f32 v]⟩] => match x.toFl with
    | some l => some (.t [.a [.f .f32 st, .f .f32 sp, .f .f32 fd, .sl 2 (.l 0) (.x n)], vI 0], [none, none, some ⟨true, 3, .fl fun _ => (l ()).set ((k ()).toNat * 3 + 1) (v ())⟩], [fun _ => (setC (st ()) (sp ()) (fd ()) (l ()) (n ()) (k ()) 1 (v ()) == 0) = true, fun _ => o () = 0 ∧ (l ()).length = 3 * n () ∧ n () ≤ 1048576])
    | _ => none
  | _, _ => none
theorem fn126 : FnOk Try.prog 126 Try.f126 (bodyOf Try.f126) := ⟨Try.func126, rfl, by rfl⟩
def E126aT : Env := fun g => envGetL [(110, ⟨true, s110, none⟩), (88, ⟨true, s88, none⟩), (127, ⟨false, s127, none⟩), (51, ⟨true, s51, none⟩)] g
theorem E126aTok : EnvOk Try.prog E126aT := envOk_cons ok110 (envOk_cons ok88 (envOk_cons ok127 (envOk_cons ok51 (envOk_nil _))))
set_option maxRecDepth 100000 in
set_option maxHeartbeats 2000000 in
theorem ok126aT : Ok Try.prog 126 (s126aT) := ok_of_wpaH (E := E126aT) mixed tts E126aTok fn126 fun args H v H' o hs ho => by
  split at hs
  · rename_i st sp fd o n k x v
    split at hs
    · rename_i l hl
      cases hs
      obtain ⟨hc, ⟨ho0, hlen, hbig⟩⟩ := ho.two
      try simp only [Unit.unit] at hc ho0 hlen hbig
      refine ⟨_, HLe.cons (BLe.fl hl) (HLe.cons (BLe.refl _) HLe.nil), ?_⟩
      cbv
      repeat' first
        | (refine alt_t (by assumption) ?_; cbv)
        | (refine alt_f (by assumption) ?_; cbv)
        | (refine alt_b (fun h => ?_) (fun h => ?_) <;> cbv)
        | (refine Br.mk (fun h => ?_) (fun h => ?_) <;> cbv)
        | (refine Ob.mk ?_ ?_; rotate_left; cbv)
        | (refine Lex.mk (by kernel_rfl) ?_; cbv)
      all_goals (try simp only [Unit.unit, Int.ofNat_lt, Int.ofNat_le, BE.val, IE.val, NE.val, ltB_iff, ltB_no, leB_iff, leB_no, Int.toNat_natCast, Nat.zero_add, Nat.add_zero, Nat.mul_one, forced, beq_iff_eq, beq_eq_false_iff_ne, bne_iff_ne, bne_eq_false_iff_eq] at *)
      all_goals first | with_reducible rfl | exact ⟨ho0, hlen, hbig⟩ | exact ⟨by trivial, hlen, hbig⟩ | (rw [set_a (by assumption)]; done) | (rw [set_4 (by assumption) (by simp_all)]; done) | (exfalso; first | exact absurd (set_ok (by simp_all)).1 (by assumption) | (simp_all [setC]; done)) | exact kn (asked_ok (by assumption)).2 | exact (asked_ok (by assumption)).2 | (have ha := (asked_ok (by assumption)).2; omega) | (refine ⟨by trivial, ?_, by assumption⟩; exact set_len (by assumption)) | (simp only [ho0, Nat.zero_add]; done) | (simp_all; done)
    · cases hs
  · cases hs
def s126aF : Spec := hspec fun args H => match args, H with
  | [.a [.f .f32 st, .f .f32 sp, .f .f32 fd, .sl 0 (.x o) (.x n)], .c (.i .i64 (.x k)), .c (.fn 127 [1])], [some ⟨false, 0, x⟩, some ⟨false, 0, .lit [.f .f32 v]⟩] => match x.toFl with
    | some l => some (.t [.a [.f .f32 fun _ => 0, .f .f32 fun _ => 0, .f .f32 fun _ => 0, .sn], vI (setC (st ()) (sp ()) (fd ()) (l ()) (n ()) (k ()) 1 (v ()))], [none, none], [fun _ => (setC (st ()) (sp ()) (fd ()) (l ()) (n ()) (k ()) 1 (v ()) == 0) = false, fun _ => o () = 0 ∧ (l ()).length = 3 * n () ∧ n () ≤ 1048576])
    | _ => none
  | _, _ => none
def E126aF : Env := fun g => envGetL [(110, ⟨true, s110, none⟩), (88, ⟨true, s88, none⟩), (127, ⟨false, s127, none⟩), (51, ⟨true, s51, none⟩)] g
theorem E126aFok : EnvOk Try.prog E126aF := envOk_cons ok110 (envOk_cons ok88 (envOk_cons ok127 (envOk_cons ok51 (envOk_nil _))))
set_option maxRecDepth 100000 in
set_option maxHeartbeats 2000000 in
theorem ok126aF : Ok Try.prog 126 (s126aF) := ok_of_wpaH (E := E126aF) mixed tts E126aFok fn126 fun args H v H' o hs ho => by
  split at hs
  · rename_i st sp fd o n k x v
    split at hs
    · rename_i l hl
      cases hs
      obtain ⟨hc, ⟨ho0, hlen, hbig⟩⟩ := ho.two
      try simp only [Unit.unit] at hc ho0 hlen hbig
      refine ⟨_, HLe.cons (BLe.fl hl) (HLe.cons (BLe.refl _) HLe.nil), ?_⟩
      cbv
      repeat' first
        | (refine alt_t (by assumption) ?_; cbv)
        | (refine alt_f (by assumption) ?_; cbv)
        | (refine alt_b (fun h => ?_) (fun h => ?_) <;> cbv)
        | (refine Br.mk (fun h => ?_) (fun h => ?_) <;> cbv)
        | (refine Ob.mk ?_ ?_; rotate_left; cbv)
        | (refine Lex.mk (by kernel_rfl) ?_; cbv)
      all_goals (try simp only [Unit.unit, Int.ofNat_lt, Int.ofNat_le, BE.val, IE.val, NE.val, ltB_iff, ltB_no, leB_iff, leB_no, Int.toNat_natCast, Nat.zero_add, Nat.add_zero, Nat.mul_one, forced, beq_iff_eq, beq_eq_false_iff_ne, bne_iff_ne, bne_eq_false_iff_eq] at *)
      all_goals first | with_reducible rfl | exact ⟨ho0, hlen, hbig⟩ | exact ⟨by trivial, hlen, hbig⟩ | (rw [set_a (by assumption)]; done) | (rw [set_4 (by assumption) (by simp_all)]; done) | (exfalso; first | exact absurd (set_ok (by simp_all)).1 (by assumption) | (simp_all [setC]; done)) | exact kn (asked_ok (by assumption)).2 | exact (asked_ok (by assumption)).2 | (have ha := (asked_ok (by assumption)).2; omega) | (refine ⟨by trivial, ?_, by assumption⟩; exact set_len (by assumption)) | (simp only [ho0, Nat.zero_add]; done) | (simp_all; done)
    · cases hs
  · cases hs
def s126bT : Spec := hspec fun args H => match args, H with
  | [.a [.f .f32 st, .f .f32 sp, .f .f32 fd, .sl 0 (.x o) (.x n)], .c (.i .i64 (.x k)), .c (.fn 128 [1])], [some ⟨false, 0, x⟩, some ⟨false, 0, .lit [.f .f32 v]⟩] => match x.toFl with
    | some l => some (.t [.a [.f .f32 st, .f .f32 sp, .f .f32 fd, .sl 2 (.l 0) (.x n)], vI 0], [none, none, some ⟨true, 3, .fl fun _ => (l ()).set ((k ()).toNat * 3 + 2) (v ())⟩], [fun _ => (setC (st ()) (sp ()) (fd ()) (l ()) (n ()) (k ()) 2 (v ()) == 0) = true, fun _ => o () = 0 ∧ (l ()).length = 3 * n () ∧ n () ≤ 1048576])
    | _ => none
  | _, _ => none
def E126bT : Env := fun g => envGetL [(110, ⟨true, s110, none⟩), (88, ⟨true, s88, none⟩), (128, ⟨false, s128, none⟩), (51, ⟨true, s51, none⟩)] g
theorem E126bTok : EnvOk Try.prog E126bT := envOk_cons ok110 (envOk_cons ok88 (envOk_cons ok128 (envOk_cons ok51 (envOk_nil _))))
set_option maxRecDepth 100000 in
set_option maxHeartbeats 2000000 in
theorem ok126bT : Ok Try.prog 126 (s126bT) := ok_of_wpaH (E := E126bT) mixed tts E126bTok fn126 fun args H v H' o hs ho => by
  split at hs
  · rename_i st sp fd o n k x v
    split at hs
    · rename_i l hl
      cases hs
      obtain ⟨hc, ⟨ho0, hlen, hbig⟩⟩ := ho.two
      try simp only [Unit.unit] at hc ho0 hlen hbig
      refine ⟨_, HLe.cons (BLe.fl hl) (HLe.cons (BLe.refl _) HLe.nil), ?_⟩
      cbv
      repeat' first
        | (refine alt_t (by assumption) ?_; cbv)
        | (refine alt_f (by assumption) ?_; cbv)
        | (refine alt_b (fun h => ?_) (fun h => ?_) <;> cbv)
        | (refine Br.mk (fun h => ?_) (fun h => ?_) <;> cbv)
        | (refine Ob.mk ?_ ?_; rotate_left; cbv)
        | (refine Lex.mk (by kernel_rfl) ?_; cbv)
      all_goals (try simp only [Unit.unit, Int.ofNat_lt, Int.ofNat_le, BE.val, IE.val, NE.val, ltB_iff, ltB_no, leB_iff, leB_no, Int.toNat_natCast, Nat.zero_add, Nat.add_zero, Nat.mul_one, forced, beq_iff_eq, beq_eq_false_iff_ne, bne_iff_ne, bne_eq_false_iff_eq] at *)
      all_goals first | with_reducible rfl | exact ⟨ho0, hlen, hbig⟩ | exact ⟨by trivial, hlen, hbig⟩ | (rw [set_a (by assumption)]; done) | (rw [set_4 (by assumption) (by simp_all)]; done) | (exfalso; first | exact absurd (set_ok (by simp_all)).1 (by assumption) | (simp_all [setC]; done)) | exact kn (asked_ok (by assumption)).2 | exact (asked_ok (by assumption)).2 | (have ha := (asked_ok (by assumption)).2; omega) | (refine ⟨by trivial, ?_, by assumption⟩; exact set_len (by assumption)) | (simp only [ho0, Nat.zero_add]; done) | (simp_all; done)
    · cases hs
  · cases hs
def s126bF : Spec := hspec fun args H => match args, H with
  | [.a [.f .f32 st, .f .f32 sp, .f .f32 fd, .sl 0 (.x o) (.x n)], .c (.i .i64 (.x k)), .c (.fn 128 [1])], [some ⟨false, 0, x⟩, some ⟨false, 0, .lit [.f .f32 v]⟩] => match x.toFl with
    | some l => some (.t [.a [.f .f32 fun _ => 0, .f .f32 fun _ => 0, .f .f32 fun _ => 0, .sn], vI (setC (st ()) (sp ()) (fd ()) (l ()) (n ()) (k ()) 2 (v ()))], [none, none], [fun _ => (setC (st ()) (sp ()) (fd ()) (l ()) (n ()) (k ()) 2 (v ()) == 0) = false, fun _ => o () = 0 ∧ (l ()).length = 3 * n () ∧ n () ≤ 1048576])
    | _ => none
  | _, _ => none
def E126bF : Env := fun g => envGetL [(110, ⟨true, s110, none⟩), (88, ⟨true, s88, none⟩), (128, ⟨false, s128, none⟩), (51, ⟨true, s51, none⟩)] g
theorem E126bFok : EnvOk Try.prog E126bF := envOk_cons ok110 (envOk_cons ok88 (envOk_cons ok128 (envOk_cons ok51 (envOk_nil _))))
set_option maxRecDepth 100000 in
set_option maxHeartbeats 2000000 in
theorem ok126bF : Ok Try.prog 126 (s126bF) := ok_of_wpaH (E := E126bF) mixed tts E126bFok fn126 fun args H v H' o hs ho => by
  split at hs
  · rename_i st sp fd o n k x v
    split at hs
    · rename_i l hl
      cases hs
      obtain ⟨hc, ⟨ho0, hlen, hbig⟩⟩ := ho.two
      try simp only [Unit.unit] at hc ho0 hlen hbig
      refine ⟨_, HLe.cons (BLe.fl hl) (HLe.cons (BLe.refl _) HLe.nil), ?_⟩
      cbv
      repeat' first
        | (refine alt_t (by assumption) ?_; cbv)
        | (refine alt_f (by assumption) ?_; cbv)
        | (refine alt_b (fun h => ?_) (fun h => ?_) <;> cbv)
        | (refine Br.mk (fun h => ?_) (fun h => ?_) <;> cbv)
        | (refine Ob.mk ?_ ?_; rotate_left; cbv)
        | (refine Lex.mk (by kernel_rfl) ?_; cbv)
      all_goals (try simp only [Unit.unit, Int.ofNat_lt, Int.ofNat_le, BE.val, IE.val, NE.val, ltB_iff, ltB_no, leB_iff, leB_no, Int.toNat_natCast, Nat.zero_add, Nat.add_zero, Nat.mul_one, forced, beq_iff_eq, beq_eq_false_iff_ne, bne_iff_ne, bne_eq_false_iff_eq] at *)
      all_goals first | with_reducible rfl | exact ⟨ho0, hlen, hbig⟩ | exact ⟨by trivial, hlen, hbig⟩ | (rw [set_a (by assumption)]; done) | (rw [set_4 (by assumption) (by simp_all)]; done) | (exfalso; first | exact absurd (set_ok (by simp_all)).1 (by assumption) | (simp_all [setC]; done)) | exact kn (asked_ok (by assumption)).2 | exact (asked_ok (by assumption)).2 | (have ha := (asked_ok (by assumption)).2; omega) | (refine ⟨by trivial, ?_, by assumption⟩; exact set_len (by assumption)) | (simp only [ho0, Nat.zero_add]; done) | (simp_all; done)
    · cases hs
  · cases hs
theorem fn66 : FnOk Try.prog 66 Try.f66 (bodyOf Try.f66) := ⟨Try.func66, rfl, by rfl⟩
def s66T : Spec := hspec fun args H => match args, H with
  | [.a [.f .f32 st, .f .f32 sp, .f .f32 fd, .sl 0 (.x o) (.x n)], .c (.i .i64 (.x k)), .c (.f .f32 v)], [some ⟨false, 0, x⟩] => match x.toFl with
    | some l => some (.t [.a [.f .f32 st, .f .f32 sp, .f .f32 fd, .sl 1 (.l 0) (.x n)], vI 0], [none, some ⟨true, 3, .fl fun _ => (l ()).set ((k ()).toNat * 3 + 1) (v ())⟩], [fun _ => (setC (st ()) (sp ()) (fd ()) (l ()) (n ()) (k ()) 1 (v ()) == 0) = true, fun _ => o () = 0 ∧ (l ()).length = 3 * n () ∧ n () ≤ 1048576])
    | _ => none
  | _, _ => none
def E66T : Env := fun g => envGetL [(126, ⟨true, sNo, some (s126aT, s126aF)⟩)] g
theorem E66Tok : EnvOk Try.prog E66T := envOk_alt ok126aT ok126aF (envOk_nil _)
set_option maxRecDepth 100000 in
set_option maxHeartbeats 2000000 in
theorem ok66T : Ok Try.prog 66 (s66T) := ok_of_wpaH (E := E66T) mixed tts E66Tok fn66 fun args H v H' o hs ho => by
  split at hs
  · rename_i st sp fd o n k v x
    split at hs
    · rename_i l hl
      cases hs
      obtain ⟨hc, ⟨ho0, hlen, hbig⟩⟩ := ho.two
      try simp only [Unit.unit] at hc ho0 hlen hbig
      refine ⟨_, HLe.cons (BLe.fl hl) HLe.nil, ?_⟩
      cbv
      repeat' first
        | (refine alt_t (by assumption) ?_; cbv)
        | (refine alt_f (by assumption) ?_; cbv)
        | (refine alt_b (fun h => ?_) (fun h => ?_) <;> cbv)
        | (refine Br.mk (fun h => ?_) (fun h => ?_) <;> cbv)
        | (refine Ob.mk ?_ ?_; rotate_left; cbv)
        | (refine Lex.mk (by kernel_rfl) ?_; cbv)
      all_goals (try simp only [Unit.unit, Int.ofNat_lt, Int.ofNat_le, BE.val, IE.val, NE.val, ltB_iff, ltB_no, leB_iff, leB_no, Int.toNat_natCast, Nat.zero_add, Nat.add_zero, Nat.mul_one, forced, beq_iff_eq, beq_eq_false_iff_ne, bne_iff_ne, bne_eq_false_iff_eq] at *)
      all_goals first | with_reducible rfl | exact ⟨ho0, hlen, hbig⟩ | exact ⟨by trivial, hlen, hbig⟩ | exact hc | (simp_all; done)
    · cases hs
  · cases hs
def s66F : Spec := hspec fun args H => match args, H with
  | [.a [.f .f32 st, .f .f32 sp, .f .f32 fd, .sl 0 (.x o) (.x n)], .c (.i .i64 (.x k)), .c (.f .f32 v)], [some ⟨false, 0, x⟩] => match x.toFl with
    | some l => some (.t [.a [.f .f32 fun _ => 0, .f .f32 fun _ => 0, .f .f32 fun _ => 0, .sn], vI (setC (st ()) (sp ()) (fd ()) (l ()) (n ()) (k ()) 1 (v ()))], [none], [fun _ => (setC (st ()) (sp ()) (fd ()) (l ()) (n ()) (k ()) 1 (v ()) == 0) = false, fun _ => o () = 0 ∧ (l ()).length = 3 * n () ∧ n () ≤ 1048576])
    | _ => none
  | _, _ => none
def E66F : Env := fun g => envGetL [(126, ⟨true, sNo, some (s126aT, s126aF)⟩)] g
theorem E66Fok : EnvOk Try.prog E66F := envOk_alt ok126aT ok126aF (envOk_nil _)
set_option maxRecDepth 100000 in
set_option maxHeartbeats 2000000 in
theorem ok66F : Ok Try.prog 66 (s66F) := ok_of_wpaH (E := E66F) mixed tts E66Fok fn66 fun args H v H' o hs ho => by
  split at hs
  · rename_i st sp fd o n k v x
    split at hs
    · rename_i l hl
      cases hs
      obtain ⟨hc, ⟨ho0, hlen, hbig⟩⟩ := ho.two
      try simp only [Unit.unit] at hc ho0 hlen hbig
      refine ⟨_, HLe.cons (BLe.fl hl) HLe.nil, ?_⟩
      cbv
      repeat' first
        | (refine alt_t (by assumption) ?_; cbv)
        | (refine alt_f (by assumption) ?_; cbv)
        | (refine alt_b (fun h => ?_) (fun h => ?_) <;> cbv)
        | (refine Br.mk (fun h => ?_) (fun h => ?_) <;> cbv)
        | (refine Ob.mk ?_ ?_; rotate_left; cbv)
        | (refine Lex.mk (by kernel_rfl) ?_; cbv)
      all_goals (try simp only [Unit.unit, Int.ofNat_lt, Int.ofNat_le, BE.val, IE.val, NE.val, ltB_iff, ltB_no, leB_iff, leB_no, Int.toNat_natCast, Nat.zero_add, Nat.add_zero, Nat.mul_one, forced, beq_iff_eq, beq_eq_false_iff_ne, bne_iff_ne, bne_eq_false_iff_eq] at *)
      all_goals first | with_reducible rfl | exact ⟨ho0, hlen, hbig⟩ | exact ⟨by trivial, hlen, hbig⟩ | exact hc | (simp_all; done)
    · cases hs
  · cases hs
theorem fn68 : FnOk Try.prog 68 Try.f68 (bodyOf Try.f68) := ⟨Try.func68, rfl, by rfl⟩
def s68T : Spec := hspec fun args H => match args, H with
  | [.a [.f .f32 st, .f .f32 sp, .f .f32 fd, .sl 0 (.x o) (.x n)], .c (.i .i64 (.x k)), .c (.f .f32 v)], [some ⟨false, 0, x⟩] => match x.toFl with
    | some l => some (.t [.a [.f .f32 st, .f .f32 sp, .f .f32 fd, .sl 1 (.l 0) (.x n)], vI 0], [none, some ⟨true, 3, .fl fun _ => (l ()).set ((k ()).toNat * 3 + 2) (v ())⟩], [fun _ => (setC (st ()) (sp ()) (fd ()) (l ()) (n ()) (k ()) 2 (v ()) == 0) = true, fun _ => o () = 0 ∧ (l ()).length = 3 * n () ∧ n () ≤ 1048576])
    | _ => none
  | _, _ => none
def E68T : Env := fun g => envGetL [(126, ⟨true, sNo, some (s126bT, s126bF)⟩)] g
theorem E68Tok : EnvOk Try.prog E68T := envOk_alt ok126bT ok126bF (envOk_nil _)
set_option maxRecDepth 100000 in
set_option maxHeartbeats 2000000 in
theorem ok68T : Ok Try.prog 68 (s68T) := ok_of_wpaH (E := E68T) mixed tts E68Tok fn68 fun args H v H' o hs ho => by
  split at hs
  · rename_i st sp fd o n k v x
    split at hs
    · rename_i l hl
      cases hs
      obtain ⟨hc, ⟨ho0, hlen, hbig⟩⟩ := ho.two
      try simp only [Unit.unit] at hc ho0 hlen hbig
      refine ⟨_, HLe.cons (BLe.fl hl) HLe.nil, ?_⟩
      cbv
      repeat' first
        | (refine alt_t (by assumption) ?_; cbv)
        | (refine alt_f (by assumption) ?_; cbv)
        | (refine alt_b (fun h => ?_) (fun h => ?_) <;> cbv)
        | (refine Br.mk (fun h => ?_) (fun h => ?_) <;> cbv)
        | (refine Ob.mk ?_ ?_; rotate_left; cbv)
        | (refine Lex.mk (by kernel_rfl) ?_; cbv)
      all_goals (try simp only [Unit.unit, Int.ofNat_lt, Int.ofNat_le, BE.val, IE.val, NE.val, ltB_iff, ltB_no, leB_iff, leB_no, Int.toNat_natCast, Nat.zero_add, Nat.add_zero, Nat.mul_one, forced, beq_iff_eq, beq_eq_false_iff_ne, bne_iff_ne, bne_eq_false_iff_eq] at *)
      all_goals first | with_reducible rfl | exact ⟨ho0, hlen, hbig⟩ | exact ⟨by trivial, hlen, hbig⟩ | exact hc | (simp_all; done)
    · cases hs
  · cases hs
def s68F : Spec := hspec fun args H => match args, H with
  | [.a [.f .f32 st, .f .f32 sp, .f .f32 fd, .sl 0 (.x o) (.x n)], .c (.i .i64 (.x k)), .c (.f .f32 v)], [some ⟨false, 0, x⟩] => match x.toFl with
    | some l => some (.t [.a [.f .f32 fun _ => 0, .f .f32 fun _ => 0, .f .f32 fun _ => 0, .sn], vI (setC (st ()) (sp ()) (fd ()) (l ()) (n ()) (k ()) 2 (v ()))], [none], [fun _ => (setC (st ()) (sp ()) (fd ()) (l ()) (n ()) (k ()) 2 (v ()) == 0) = false, fun _ => o () = 0 ∧ (l ()).length = 3 * n () ∧ n () ≤ 1048576])
    | _ => none
  | _, _ => none
def E68F : Env := fun g => envGetL [(126, ⟨true, sNo, some (s126bT, s126bF)⟩)] g
theorem E68Fok : EnvOk Try.prog E68F := envOk_alt ok126bT ok126bF (envOk_nil _)
set_option maxRecDepth 100000 in
set_option maxHeartbeats 2000000 in
theorem ok68F : Ok Try.prog 68 (s68F) := ok_of_wpaH (E := E68F) mixed tts E68Fok fn68 fun args H v H' o hs ho => by
  split at hs
  · rename_i st sp fd o n k v x
    split at hs
    · rename_i l hl
      cases hs
      obtain ⟨hc, ⟨ho0, hlen, hbig⟩⟩ := ho.two
      try simp only [Unit.unit] at hc ho0 hlen hbig
      refine ⟨_, HLe.cons (BLe.fl hl) HLe.nil, ?_⟩
      cbv
      repeat' first
        | (refine alt_t (by assumption) ?_; cbv)
        | (refine alt_f (by assumption) ?_; cbv)
        | (refine alt_b (fun h => ?_) (fun h => ?_) <;> cbv)
        | (refine Br.mk (fun h => ?_) (fun h => ?_) <;> cbv)
        | (refine Ob.mk ?_ ?_; rotate_left; cbv)
        | (refine Lex.mk (by kernel_rfl) ?_; cbv)
      all_goals (try simp only [Unit.unit, Int.ofNat_lt, Int.ofNat_le, BE.val, IE.val, NE.val, ltB_iff, ltB_no, leB_iff, leB_no, Int.toNat_natCast, Nat.zero_add, Nat.add_zero, Nat.mul_one, forced, beq_iff_eq, beq_eq_false_iff_ne, bne_iff_ne, bne_eq_false_iff_eq] at *)
      all_goals first | with_reducible rfl | exact ⟨ho0, hlen, hbig⟩ | exact ⟨by trivial, hlen, hbig⟩ | exact hc | (simp_all; done)
    · cases hs
  · cases hs
theorem fn125 : FnOk Try.prog 125 Try.f125 (bodyOf Try.f125) := ⟨Try.func125, rfl, by rfl⟩
def s125T : Spec := hspec fun args H => match args, H with
  | [.c (.p 0 (.l 0))], [some ⟨true, 0, .lit [.f .f32 st, .f .f32 sp, .f .f32 fd, .sl 1 (.x o) (.x n)]⟩, some ⟨true, 3, x⟩] => match x.toFl with
    | some l => some (.t [.a [.f .f32 st, .f .f32 sp, .f .f32 fd, .sl 1 (.x o) (.x n)], vI 0], [some ⟨true, 0, .lit [.f .f32 st, .f .f32 sp, .f .f32 fd, .sl 1 (.x o) (.x n)]⟩, some ⟨true, 3, .fl l⟩], [fun _ => webOk (st ()) (sp ()) (fd ()) (l ()) (n ()) = true, fun _ => o () = 0 ∧ (l ()).length = 3 * n () ∧ n () ≤ 1048576])
    | _ => none
  | _, _ => none
def E125T : Env := fun g => envGetL [(86, ⟨true, s86, none⟩)] g
theorem E125Tok : EnvOk Try.prog E125T := envOk_cons ok86 (envOk_nil _)
theorem ok125T : Ok Try.prog 125 (s125T) := ok_of_wpaH (E := E125T) mixed tts E125Tok fn125 fun args H v H' o hs ho => by
  split at hs
  · rename_i st sp fd o n x
    split at hs
    · rename_i l hl
      cases hs
      obtain ⟨hc, ⟨ho0, hlen, hbig⟩⟩ := ho.two
      try simp only [Unit.unit] at hc ho0 hlen hbig
      refine ⟨_, HLe.cons (BLe.refl _) (HLe.cons (BLe.fl hl) HLe.nil), ?_⟩
      cbv
      repeat' first
        | (refine alt_t (by assumption) ?_; cbv)
        | (refine alt_f (by assumption) ?_; cbv)
        | (refine alt_b (fun h => ?_) (fun h => ?_) <;> cbv)
        | (refine Br.mk (fun h => ?_) (fun h => ?_) <;> cbv)
        | (refine Ob.mk ?_ ?_; rotate_left; cbv)
        | (refine Lex.mk (by kernel_rfl) ?_; cbv)
      all_goals (try simp only [Unit.unit, Int.ofNat_lt, Int.ofNat_le, BE.val, IE.val, NE.val, ltB_iff, ltB_no, leB_iff, leB_no, Int.toNat_natCast, Nat.zero_add, Nat.add_zero, Nat.mul_one, forced, beq_iff_eq, beq_eq_false_iff_ne, bne_iff_ne, bne_eq_false_iff_eq] at *)
      all_goals first | with_reducible rfl | exact ⟨ho0, hlen, hbig⟩ | exact ⟨by trivial, hlen, hbig⟩ | (simp_all; done)
    · cases hs
  · cases hs
def s125F : Spec := hspec fun args H => match args, H with
  | [.c (.p 0 (.l 0))], [some ⟨true, 0, .lit [.f .f32 st, .f .f32 sp, .f .f32 fd, .sl 1 (.x o) (.x n)]⟩, some ⟨true, 3, x⟩] => match x.toFl with
    | some l => some (.t [.a [.f .f32 fun _ => 0, .f .f32 fun _ => 0, .f .f32 fun _ => 0, .sn], vI 4], [some ⟨true, 0, .lit [.f .f32 st, .f .f32 sp, .f .f32 fd, .sl 1 (.x o) (.x n)]⟩, some ⟨true, 3, .fl l⟩], [fun _ => webOk (st ()) (sp ()) (fd ()) (l ()) (n ()) = false, fun _ => o () = 0 ∧ (l ()).length = 3 * n () ∧ n () ≤ 1048576])
    | _ => none
  | _, _ => none
def E125F : Env := fun g => envGetL [(86, ⟨true, s86, none⟩)] g
theorem E125Fok : EnvOk Try.prog E125F := envOk_cons ok86 (envOk_nil _)
theorem ok125F : Ok Try.prog 125 (s125F) := ok_of_wpaH (E := E125F) mixed tts E125Fok fn125 fun args H v H' o hs ho => by
  split at hs
  · rename_i st sp fd o n x
    split at hs
    · rename_i l hl
      cases hs
      obtain ⟨hc, ⟨ho0, hlen, hbig⟩⟩ := ho.two
      try simp only [Unit.unit] at hc ho0 hlen hbig
      refine ⟨_, HLe.cons (BLe.refl _) (HLe.cons (BLe.fl hl) HLe.nil), ?_⟩
      cbv
      repeat' first
        | (refine alt_t (by assumption) ?_; cbv)
        | (refine alt_f (by assumption) ?_; cbv)
        | (refine alt_b (fun h => ?_) (fun h => ?_) <;> cbv)
        | (refine Br.mk (fun h => ?_) (fun h => ?_) <;> cbv)
        | (refine Ob.mk ?_ ?_; rotate_left; cbv)
        | (refine Lex.mk (by kernel_rfl) ?_; cbv)
      all_goals (try simp only [Unit.unit, Int.ofNat_lt, Int.ofNat_le, BE.val, IE.val, NE.val, ltB_iff, ltB_no, leB_iff, leB_no, Int.toNat_natCast, Nat.zero_add, Nat.add_zero, Nat.mul_one, forced, beq_iff_eq, beq_eq_false_iff_ne, bne_iff_ne, bne_eq_false_iff_eq] at *)
      all_goals first | with_reducible rfl | exact ⟨ho0, hlen, hbig⟩ | exact ⟨by trivial, hlen, hbig⟩ | (simp_all; done)
    · cases hs
  · cases hs
theorem fn65 : FnOk Try.prog 65 Try.f65 (bodyOf Try.f65) := ⟨Try.func65, rfl, by rfl⟩
def s65T : Spec := hspec fun args H => match args, H with
  | [.a [.f .f32 st, .f .f32 sp, .f .f32 fd, .sl 0 (.x o) (.x n)], .c (.i .i64 (.x k)), .c (.f .f32 v)], [some ⟨false, 0, x⟩] => match x.toFl with
    | some l => some (.t [.a [.f .f32 st, .f .f32 sp, .f .f32 fd, .sl 1 (.l 0) (.x n)], vI 0], [none, some ⟨true, 3, .fl fun _ => (l ()).set ((k ()).toNat * 3 + 1) (v ())⟩], [fun _ => (setC (st ()) (sp ()) (fd ()) (l ()) (n ()) (k ()) 1 (v ()) == 0) = true, fun _ => o () = 0 ∧ (l ()).length = 3 * n () ∧ n () ≤ 1048576])
    | _ => none
  | _, _ => none
def E65T : Env := fun g => envGetL [(119, ⟨true, s119, none⟩), (89, ⟨true, s89, none⟩), (125, ⟨false, sNo, some (s125T, s125F)⟩)] g
theorem E65Tok : EnvOk Try.prog E65T := envOk_cons ok119 (envOk_cons ok89 (envOk_alt ok125T ok125F (envOk_nil _)))
set_option maxRecDepth 100000 in
set_option maxHeartbeats 2000000 in
theorem ok65T : Ok Try.prog 65 (s65T) := ok_of_wpaH (E := E65T) mixed tts E65Tok fn65 fun args H v H' o hs ho => by
  split at hs
  · rename_i st sp fd o n k v x
    split at hs
    · rename_i l hl
      cases hs
      obtain ⟨hc, ⟨ho0, hlen, hbig⟩⟩ := ho.two
      try simp only [Unit.unit] at hc ho0 hlen hbig
      refine ⟨_, HLe.cons (BLe.fl hl) HLe.nil, ?_⟩
      cbv
      repeat' first
        | (refine alt_t (by assumption) ?_; cbv)
        | (refine alt_f (by assumption) ?_; cbv)
        | (refine alt_b (fun h => ?_) (fun h => ?_) <;> cbv)
        | (refine Br.mk (fun h => ?_) (fun h => ?_) <;> cbv)
        | (refine Ob.mk ?_ ?_; rotate_left; cbv)
        | (refine Lex.mk (by kernel_rfl) ?_; cbv)
      all_goals (try simp only [Unit.unit, Int.ofNat_lt, Int.ofNat_le, BE.val, IE.val, NE.val, ltB_iff, ltB_no, leB_iff, leB_no, Int.toNat_natCast, Nat.zero_add, Nat.add_zero, Nat.mul_one, forced, beq_iff_eq, beq_eq_false_iff_ne, bne_iff_ne, bne_eq_false_iff_eq] at *)
      all_goals first | with_reducible rfl | exact ⟨ho0, hlen, hbig⟩ | exact ⟨by trivial, hlen, hbig⟩ | (rw [set_a (by assumption)]; done) | (rw [set_4 (by assumption) (by simp_all)]; done) | (exfalso; first | exact absurd (set_ok (by simp_all)).1 (by assumption) | (simp_all [setC]; done)) | exact kn (asked_ok (by assumption)).2 | exact (asked_ok (by assumption)).2 | (have ha := (asked_ok (by assumption)).2; omega) | (refine ⟨by trivial, ?_, by assumption⟩; exact set_len (by assumption)) | (simp only [ho0, Nat.zero_add]; done) | (simp_all; done)
    · cases hs
  · cases hs
def s65F : Spec := hspec fun args H => match args, H with
  | [.a [.f .f32 st, .f .f32 sp, .f .f32 fd, .sl 0 (.x o) (.x n)], .c (.i .i64 (.x k)), .c (.f .f32 v)], [some ⟨false, 0, x⟩] => match x.toFl with
    | some l => some (.t [.a [.f .f32 fun _ => 0, .f .f32 fun _ => 0, .f .f32 fun _ => 0, .sn], vI (setC (st ()) (sp ()) (fd ()) (l ()) (n ()) (k ()) 1 (v ()))], [none], [fun _ => (setC (st ()) (sp ()) (fd ()) (l ()) (n ()) (k ()) 1 (v ()) == 0) = false, fun _ => o () = 0 ∧ (l ()).length = 3 * n () ∧ n () ≤ 1048576])
    | _ => none
  | _, _ => none
def E65F : Env := fun g => envGetL [(119, ⟨true, s119, none⟩), (89, ⟨true, s89, none⟩), (125, ⟨false, sNo, some (s125T, s125F)⟩)] g
theorem E65Fok : EnvOk Try.prog E65F := envOk_cons ok119 (envOk_cons ok89 (envOk_alt ok125T ok125F (envOk_nil _)))
set_option maxRecDepth 100000 in
set_option maxHeartbeats 2000000 in
theorem ok65F : Ok Try.prog 65 (s65F) := ok_of_wpaH (E := E65F) mixed tts E65Fok fn65 fun args H v H' o hs ho => by
  split at hs
  · rename_i st sp fd o n k v x
    split at hs
    · rename_i l hl
      cases hs
      obtain ⟨hc, ⟨ho0, hlen, hbig⟩⟩ := ho.two
      try simp only [Unit.unit] at hc ho0 hlen hbig
      refine ⟨_, HLe.cons (BLe.fl hl) HLe.nil, ?_⟩
      cbv
      repeat' first
        | (refine alt_t (by assumption) ?_; cbv)
        | (refine alt_f (by assumption) ?_; cbv)
        | (refine alt_b (fun h => ?_) (fun h => ?_) <;> cbv)
        | (refine Br.mk (fun h => ?_) (fun h => ?_) <;> cbv)
        | (refine Ob.mk ?_ ?_; rotate_left; cbv)
        | (refine Lex.mk (by kernel_rfl) ?_; cbv)
      all_goals (try simp only [Unit.unit, Int.ofNat_lt, Int.ofNat_le, BE.val, IE.val, NE.val, ltB_iff, ltB_no, leB_iff, leB_no, Int.toNat_natCast, Nat.zero_add, Nat.add_zero, Nat.mul_one, forced, beq_iff_eq, beq_eq_false_iff_ne, bne_iff_ne, bne_eq_false_iff_eq] at *)
      all_goals first | with_reducible rfl | exact ⟨ho0, hlen, hbig⟩ | exact ⟨by trivial, hlen, hbig⟩ | (rw [set_a (by assumption)]; done) | (rw [set_4 (by assumption) (by simp_all)]; done) | (exfalso; first | exact absurd (set_ok (by simp_all)).1 (by assumption) | (simp_all [setC]; done)) | exact kn (asked_ok (by assumption)).2 | exact (asked_ok (by assumption)).2 | (have ha := (asked_ok (by assumption)).2; omega) | (refine ⟨by trivial, ?_, by assumption⟩; exact set_len (by assumption)) | (simp only [ho0, Nat.zero_add]; done) | (simp_all; done)
    · cases hs
  · cases hs
theorem fn67 : FnOk Try.prog 67 Try.f67 (bodyOf Try.f67) := ⟨Try.func67, rfl, by rfl⟩
def s67T : Spec := hspec fun args H => match args, H with
  | [.a [.f .f32 st, .f .f32 sp, .f .f32 fd, .sl 0 (.x o) (.x n)], .c (.i .i64 (.x k)), .c (.f .f32 v)], [some ⟨false, 0, x⟩] => match x.toFl with
    | some l => some (.t [.a [.f .f32 st, .f .f32 sp, .f .f32 fd, .sl 1 (.l 0) (.x n)], vI 0], [none, some ⟨true, 3, .fl fun _ => (l ()).set ((k ()).toNat * 3 + 2) (v ())⟩], [fun _ => (setC (st ()) (sp ()) (fd ()) (l ()) (n ()) (k ()) 2 (v ()) == 0) = true, fun _ => o () = 0 ∧ (l ()).length = 3 * n () ∧ n () ≤ 1048576])
    | _ => none
  | _, _ => none
def E67T : Env := fun g => envGetL [(119, ⟨true, s119, none⟩), (89, ⟨true, s89, none⟩), (125, ⟨false, sNo, some (s125T, s125F)⟩)] g
theorem E67Tok : EnvOk Try.prog E67T := envOk_cons ok119 (envOk_cons ok89 (envOk_alt ok125T ok125F (envOk_nil _)))
set_option maxRecDepth 100000 in
set_option maxHeartbeats 2000000 in
theorem ok67T : Ok Try.prog 67 (s67T) := ok_of_wpaH (E := E67T) mixed tts E67Tok fn67 fun args H v H' o hs ho => by
  split at hs
  · rename_i st sp fd o n k v x
    split at hs
    · rename_i l hl
      cases hs
      obtain ⟨hc, ⟨ho0, hlen, hbig⟩⟩ := ho.two
      try simp only [Unit.unit] at hc ho0 hlen hbig
      refine ⟨_, HLe.cons (BLe.fl hl) HLe.nil, ?_⟩
      cbv
      repeat' first
        | (refine alt_t (by assumption) ?_; cbv)
        | (refine alt_f (by assumption) ?_; cbv)
        | (refine alt_b (fun h => ?_) (fun h => ?_) <;> cbv)
        | (refine Br.mk (fun h => ?_) (fun h => ?_) <;> cbv)
        | (refine Ob.mk ?_ ?_; rotate_left; cbv)
        | (refine Lex.mk (by kernel_rfl) ?_; cbv)
      all_goals (try simp only [Unit.unit, Int.ofNat_lt, Int.ofNat_le, BE.val, IE.val, NE.val, ltB_iff, ltB_no, leB_iff, leB_no, Int.toNat_natCast, Nat.zero_add, Nat.add_zero, Nat.mul_one, forced, beq_iff_eq, beq_eq_false_iff_ne, bne_iff_ne, bne_eq_false_iff_eq] at *)
      all_goals first | with_reducible rfl | exact ⟨ho0, hlen, hbig⟩ | exact ⟨by trivial, hlen, hbig⟩ | (rw [set_a (by assumption)]; done) | (rw [set_4 (by assumption) (by simp_all)]; done) | (exfalso; first | exact absurd (set_ok (by simp_all)).1 (by assumption) | (simp_all [setC]; done)) | exact kn (asked_ok (by assumption)).2 | exact (asked_ok (by assumption)).2 | (have ha := (asked_ok (by assumption)).2; omega) | (refine ⟨by trivial, ?_, by assumption⟩; exact set_len (by assumption)) | (simp only [ho0, Nat.zero_add]; done) | (simp_all; done)
    · cases hs
  · cases hs
def s67F : Spec := hspec fun args H => match args, H with
  | [.a [.f .f32 st, .f .f32 sp, .f .f32 fd, .sl 0 (.x o) (.x n)], .c (.i .i64 (.x k)), .c (.f .f32 v)], [some ⟨false, 0, x⟩] => match x.toFl with
    | some l => some (.t [.a [.f .f32 fun _ => 0, .f .f32 fun _ => 0, .f .f32 fun _ => 0, .sn], vI (setC (st ()) (sp ()) (fd ()) (l ()) (n ()) (k ()) 2 (v ()))], [none], [fun _ => (setC (st ()) (sp ()) (fd ()) (l ()) (n ()) (k ()) 2 (v ()) == 0) = false, fun _ => o () = 0 ∧ (l ()).length = 3 * n () ∧ n () ≤ 1048576])
    | _ => none
  | _, _ => none
def E67F : Env := fun g => envGetL [(119, ⟨true, s119, none⟩), (89, ⟨true, s89, none⟩), (125, ⟨false, sNo, some (s125T, s125F)⟩)] g
theorem E67Fok : EnvOk Try.prog E67F := envOk_cons ok119 (envOk_cons ok89 (envOk_alt ok125T ok125F (envOk_nil _)))
set_option maxRecDepth 100000 in
set_option maxHeartbeats 2000000 in
theorem ok67F : Ok Try.prog 67 (s67F) := ok_of_wpaH (E := E67F) mixed tts E67Fok fn67 fun args H v H' o hs ho => by
  split at hs
  · rename_i st sp fd o n k v x
    split at hs
    · rename_i l hl
      cases hs
      obtain ⟨hc, ⟨ho0, hlen, hbig⟩⟩ := ho.two
      try simp only [Unit.unit] at hc ho0 hlen hbig
      refine ⟨_, HLe.cons (BLe.fl hl) HLe.nil, ?_⟩
      cbv
      repeat' first
        | (refine alt_t (by assumption) ?_; cbv)
        | (refine alt_f (by assumption) ?_; cbv)
        | (refine alt_b (fun h => ?_) (fun h => ?_) <;> cbv)
        | (refine Br.mk (fun h => ?_) (fun h => ?_) <;> cbv)
        | (refine Ob.mk ?_ ?_; rotate_left; cbv)
        | (refine Lex.mk (by kernel_rfl) ?_; cbv)
      all_goals (try simp only [Unit.unit, Int.ofNat_lt, Int.ofNat_le, BE.val, IE.val, NE.val, ltB_iff, ltB_no, leB_iff, leB_no, Int.toNat_natCast, Nat.zero_add, Nat.add_zero, Nat.mul_one, forced, beq_iff_eq, beq_eq_false_iff_ne, bne_iff_ne, bne_eq_false_iff_eq] at *)
      all_goals first | with_reducible rfl | exact ⟨ho0, hlen, hbig⟩ | exact ⟨by trivial, hlen, hbig⟩ | (rw [set_a (by assumption)]; done) | (rw [set_4 (by assumption) (by simp_all)]; done) | (exfalso; first | exact absurd (set_ok (by simp_all)).1 (by assumption) | (simp_all [setC]; done)) | exact kn (asked_ok (by assumption)).2 | exact (asked_ok (by assumption)).2 | (have ha := (asked_ok (by assumption)).2; omega) | (refine ⟨by trivial, ?_, by assumption⟩; exact set_len (by assumption)) | (simp only [ho0, Nat.zero_add]; done) | (simp_all; done)
    · cases hs
  · cases hs
end Go.Proofs.Ythkjlbggipocdaa.Sh
