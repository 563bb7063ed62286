/- What the first functions of marks and sheets of this seat compute, each shown once. No condition. -/
import Derived.Test.YtanndlifpojenaaVa
import Derived.Test.YtanndlifpojenaaProg
set_option linter.unusedVariables false
set_option linter.unusedSimpArgs false
set_option linter.unusedSectionVars false
namespace Go.Proofs.Ytanndlifpojenaa.Sh
open Go Go.Proofs
section
def ttl : TTL := [
  (2, ⟨1, 8, .cell, [.i .i64 (.l 0)], some (.inl .i64)⟩),
  (3, ⟨1, 8, .cell, [.i .i64 (.l 0)], some (.inl .i64)⟩),
  (4, ⟨1, 1, .bool, [.b (.l false)], none⟩),
  (5, ⟨1, 1, .cell, [.i .u8 (.l 0)], some (.inl .u8)⟩),
  (6, ⟨1, 1, .cell, [.i .u8 (.l 0)], some (.inl .u8)⟩),
  (7, ⟨4, 24, .st [(0, 2), (1, 3), (2, 4), (3, 6)], [.i .i64 (.l 0), .i .i64 (.l 0), .b (.l false), .i .u8 (.l 0)], none⟩),
  (8, ⟨4, 24, .st [(0, 2), (1, 3), (2, 4), (3, 6)], [.i .i64 (.l 0), .i .i64 (.l 0), .b (.l false), .i .u8 (.l 0)], none⟩),
  (9, ⟨1, 16, .str, [.s fun _ => .empty], none⟩),
  (10, ⟨1, 16, .str, [.s fun _ => .empty], none⟩),
  (11, ⟨1, 16, .str, [.s fun _ => .empty], none⟩),
  (12, ⟨1, 8, .cell, [.i .u64 (.l 0)], some (.inl .u64)⟩),
  (13, ⟨2, 24, .st [(0, 9), (1, 12)], [.s fun _ => .empty, .i .u64 (.l 0)], none⟩),
  (14, ⟨2, 24, .st [(0, 9), (1, 12)], [.s fun _ => .empty, .i .u64 (.l 0)], none⟩),
  (15, ⟨1, 8, .cell, [.pn], none⟩),
  (16, ⟨1, 8, .cell, [.pn], none⟩),
  (17, ⟨1, 8, .cell, [.pn], none⟩),
  (18, ⟨1, 8, .st [(0, 17)], [.pn], none⟩),
  (19, ⟨1, 8, .st [(0, 17)], [.pn], none⟩),
  (21, ⟨1, 4, .cell, [.i .i32 (.l 0)], some (.inl .i32)⟩),
  (22, ⟨1, 24, .sl 5, [.sn], none⟩),
  (24, ⟨1, 8, .cpx, [.z .f32 (fun _ => 0) (fun _ => 0)], none⟩),
  (25, ⟨1, 8, .cpx, [.z .f32 (fun _ => 0) (fun _ => 0)], none⟩),
  (28, ⟨4, 32, .ar 4 25, [.z .f32 (fun _ => 0) (fun _ => 0), .z .f32 (fun _ => 0) (fun _ => 0), .z .f32 (fun _ => 0) (fun _ => 0), .z .f32 (fun _ => 0) (fun _ => 0)], none⟩),
  (29, ⟨16, 128, .ar 4 28, [.z .f32 (fun _ => 0) (fun _ => 0), .z .f32 (fun _ => 0) (fun _ => 0), .z .f32 (fun _ => 0) (fun _ => 0), .z .f32 (fun _ => 0) (fun _ => 0), .z .f32 (fun _ => 0) (fun _ => 0), .z .f32 (fun _ => 0) (fun _ => 0), .z .f32 (fun _ => 0) (fun _ => 0), .z .f32 (fun _ => 0) (fun _ => 0), .z .f32 (fun _ => 0) (fun _ => 0), .z .f32 (fun _ => 0) (fun _ => 0), .z .f32 (fun _ => 0) (fun _ => 0), .z .f32 (fun _ => 0) (fun _ => 0), .z .f32 (fun _ => 0) (fun _ => 0), .z .f32 (fun _ => 0) (fun _ => 0), .z .f32 (fun _ => 0) (fun _ => 0), .z .f32 (fun _ => 0) (fun _ => 0)], none⟩),
  (30, ⟨16, 128, .ar 4 28, [.z .f32 (fun _ => 0) (fun _ => 0), .z .f32 (fun _ => 0) (fun _ => 0), .z .f32 (fun _ => 0) (fun _ => 0), .z .f32 (fun _ => 0) (fun _ => 0), .z .f32 (fun _ => 0) (fun _ => 0), .z .f32 (fun _ => 0) (fun _ => 0), .z .f32 (fun _ => 0) (fun _ => 0), .z .f32 (fun _ => 0) (fun _ => 0), .z .f32 (fun _ => 0) (fun _ => 0), .z .f32 (fun _ => 0) (fun _ => 0), .z .f32 (fun _ => 0) (fun _ => 0), .z .f32 (fun _ => 0) (fun _ => 0), .z .f32 (fun _ => 0) (fun _ => 0), .z .f32 (fun _ => 0) (fun _ => 0), .z .f32 (fun _ => 0) (fun _ => 0), .z .f32 (fun _ => 0) (fun _ => 0)], none⟩),
  (32, ⟨1, 4, .cell, [.f .f32 fun _ => 0], some (.inr .f32)⟩),
  (44, ⟨2, 16, .st [(0, 25), (1, 25)], [.z .f32 (fun _ => 0) (fun _ => 0), .z .f32 (fun _ => 0) (fun _ => 0)], none⟩),
  (45, ⟨2, 16, .st [(0, 25), (1, 25)], [.z .f32 (fun _ => 0) (fun _ => 0), .z .f32 (fun _ => 0) (fun _ => 0)], none⟩),
  (55, ⟨1, 24, .sl 30, [.sn], none⟩),
  (60, ⟨1, 8, .cell, [.pn], none⟩),
  (75, ⟨1, 8, .cell, [.pn], none⟩),
  (89, ⟨1, 8, .cell, [.i .u64 (.l 0)], some (.inl .u64)⟩),
  (90, ⟨3, 40, .st [(0, 22), (1, 3), (2, 89)], [.sn, .i .i64 (.l 0), .i .u64 (.l 0)], none⟩),
  (91, ⟨3, 40, .st [(0, 22), (1, 3), (2, 89)], [.sn, .i .i64 (.l 0), .i .u64 (.l 0)], none⟩),
  (93, ⟨1, 24, .sl 2, [.sn], none⟩),
  (97, ⟨1, 8, .cell, [.f .f64 fun _ => 0], some (.inr .f64)⟩),
  (102, ⟨1, 4, .cell, [.i .u32 (.l 0)], some (.inl .u32)⟩),
  (104, ⟨1, 8, .cell, [.i .u64 (.l 0)], some (.inl .u64)⟩),
  (117, ⟨4, 40, .st [(0, 17), (1, 17), (2, 17), (3, 9)], [.pn, .pn, .pn, .s fun _ => .empty], none⟩),
  (118, ⟨4, 40, .st [(0, 17), (1, 17), (2, 17), (3, 9)], [.pn, .pn, .pn, .s fun _ => .empty], none⟩),
  (119, ⟨0, 0, .ar 0 16, [], none⟩),
  (120, ⟨0, 0, .st [(0, 119)], [], none⟩),
  (121, ⟨0, 0, .st [(0, 119)], [], none⟩),
  (123, ⟨1, 1, .cell, [.i .u8 (.l 0)], some (.inl .u8)⟩),
  (124, ⟨1, 1, .cell, [.i .u8 (.l 0)], some (.inl .u8)⟩),
  (126, ⟨1, 8, .cell, [.pn], none⟩),
  (127, ⟨1, 4, .cell, [.i .i32 (.l 0)], some (.inl .i32)⟩),
  (128, ⟨1, 4, .cell, [.i .i32 (.l 0)], some (.inl .i32)⟩),
  (129, ⟨11, 48, .st [(0, 12), (1, 12), (2, 102), (3, 123), (4, 5), (5, 5), (6, 124), (7, 125), (8, 126), (9, 127), (10, 128)], [.i .u64 (.l 0), .i .u64 (.l 0), .i .u32 (.l 0), .i .u8 (.l 0), .i .u8 (.l 0), .i .u8 (.l 0), .i .u8 (.l 0), .fnn, .pn, .i .i32 (.l 0), .i .i32 (.l 0)], none⟩),
  (130, ⟨11, 48, .st [(0, 12), (1, 12), (2, 102), (3, 123), (4, 5), (5, 5), (6, 124), (7, 125), (8, 126), (9, 127), (10, 128)], [.i .u64 (.l 0), .i .u64 (.l 0), .i .u32 (.l 0), .i .u8 (.l 0), .i .u8 (.l 0), .i .u8 (.l 0), .i .u8 (.l 0), .fnn, .pn, .i .i32 (.l 0), .i .i32 (.l 0)], none⟩)]
def tt : TT := fun t => ttGetL ttl t
theorem tts : TtOk Try.prog tt := ttOk_list (l := ttl) (by kernel_rfl)
theorem mixed : Try.prog.follows .mixedOrders = true := by kernel_rfl
abbrev Zm (m : M) : V := .c (.z .f32 (fun _ => m.1) (fun _ => m.2))
theorem cx_cons {cs : List C} {q : List (Unit → Nat × Nat)} {n : Nat} (h : cxsOf cs = some q) (hl : q.length = n + 1) : ∃ a b r q', cs = .z .f32 a b :: r ∧ q = (fun _ => (a (), b ())) :: q' ∧ cxsOf r = some q' ∧ q'.length = n := by
  unfold cxsOf at h
  split at h
  · cases h; simp at hl
  · rename_i a b r
    split at h
    · rename_i q' hq
      cases h
      exact ⟨a, b, r, q', rfl, rfl, hq, by simpa using hl⟩
    · cases h
  · cases h
theorem cx_nil {cs : List C} {q : List (Unit → Nat × Nat)} (h : cxsOf cs = some q) (hl : q.length = 0) : cs = [] ∧ q = [] := by
  have : q = [] := List.length_eq_zero_iff.1 hl
  subst this
  unfold cxsOf at h
  split at h
  · exact ⟨rfl, rfl⟩
  · split at h <;> cases h
  · cases h
theorem cx4 {cs : List C} {q : List (Unit → Nat × Nat)} (h : cxsOf cs = some q) (hl : q.length = 4) : ∃ e m : Nat → Unit → Nat, cs = [.z .f32 (e 0) (m 0), .z .f32 (e 1) (m 1), .z .f32 (e 2) (m 2), .z .f32 (e 3) (m 3)] ∧ q = [fun _ => (e 0 (), m 0 ()), fun _ => (e 1 (), m 1 ()), fun _ => (e 2 (), m 2 ()), fun _ => (e 3 (), m 3 ())] := by
  obtain ⟨a0, b0, cs, q, rfl, rfl, h, hl⟩ := cx_cons h hl
  obtain ⟨a1, b1, cs, q, rfl, rfl, h, hl⟩ := cx_cons h hl
  obtain ⟨a2, b2, cs, q, rfl, rfl, h, hl⟩ := cx_cons h hl
  obtain ⟨a3, b3, cs, q, rfl, rfl, h, hl⟩ := cx_cons h hl
  obtain ⟨rfl, rfl⟩ := cx_nil h hl
  exact ⟨fun i => [a0, a1, a2, a3].getD i a0, fun i => [b0, b1, b2, b3].getD i b0, rfl, rfl⟩
theorem cx16 {cs : List C} {q : List (Unit → Nat × Nat)} (h : cxsOf cs = some q) (hl : q.length = 16) : ∃ e m : Nat → Unit → Nat, cs = [.z .f32 (e 0) (m 0), .z .f32 (e 1) (m 1), .z .f32 (e 2) (m 2), .z .f32 (e 3) (m 3), .z .f32 (e 4) (m 4), .z .f32 (e 5) (m 5), .z .f32 (e 6) (m 6), .z .f32 (e 7) (m 7), .z .f32 (e 8) (m 8), .z .f32 (e 9) (m 9), .z .f32 (e 10) (m 10), .z .f32 (e 11) (m 11), .z .f32 (e 12) (m 12), .z .f32 (e 13) (m 13), .z .f32 (e 14) (m 14), .z .f32 (e 15) (m 15)] ∧ q = [fun _ => (e 0 (), m 0 ()), fun _ => (e 1 (), m 1 ()), fun _ => (e 2 (), m 2 ()), fun _ => (e 3 (), m 3 ()), fun _ => (e 4 (), m 4 ()), fun _ => (e 5 (), m 5 ()), fun _ => (e 6 (), m 6 ()), fun _ => (e 7 (), m 7 ()), fun _ => (e 8 (), m 8 ()), fun _ => (e 9 (), m 9 ()), fun _ => (e 10 (), m 10 ()), fun _ => (e 11 (), m 11 ()), fun _ => (e 12 (), m 12 ()), fun _ => (e 13 (), m 13 ()), fun _ => (e 14 (), m 14 ()), fun _ => (e 15 (), m 15 ())] := by
  obtain ⟨a0, b0, cs, q, rfl, rfl, h, hl⟩ := cx_cons h hl
  obtain ⟨a1, b1, cs, q, rfl, rfl, h, hl⟩ := cx_cons h hl
  obtain ⟨a2, b2, cs, q, rfl, rfl, h, hl⟩ := cx_cons h hl
  obtain ⟨a3, b3, cs, q, rfl, rfl, h, hl⟩ := cx_cons h hl
  obtain ⟨a4, b4, cs, q, rfl, rfl, h, hl⟩ := cx_cons h hl
  obtain ⟨a5, b5, cs, q, rfl, rfl, h, hl⟩ := cx_cons h hl
  obtain ⟨a6, b6, cs, q, rfl, rfl, h, hl⟩ := cx_cons h hl
  obtain ⟨a7, b7, cs, q, rfl, rfl, h, hl⟩ := cx_cons h hl
  obtain ⟨a8, b8, cs, q, rfl, rfl, h, hl⟩ := cx_cons h hl
  obtain ⟨a9, b9, cs, q, rfl, rfl, h, hl⟩ := cx_cons h hl
  obtain ⟨a10, b10, cs, q, rfl, rfl, h, hl⟩ := cx_cons h hl
  obtain ⟨a11, b11, cs, q, rfl, rfl, h, hl⟩ := cx_cons h hl
  obtain ⟨a12, b12, cs, q, rfl, rfl, h, hl⟩ := cx_cons h hl
  obtain ⟨a13, b13, cs, q, rfl, rfl, h, hl⟩ := cx_cons h hl
  obtain ⟨a14, b14, cs, q, rfl, rfl, h, hl⟩ := cx_cons h hl
  obtain ⟨a15, b15, cs, q, rfl, rfl, h, hl⟩ := cx_cons h hl
  obtain ⟨rfl, rfl⟩ := cx_nil h hl
  exact ⟨fun i => [a0, a1, a2, a3, a4, a5, a6, a7, a8, a9, a10, a11, a12, a13, a14, a15].getD i a0, fun i => [b0, b1, b2, b3, b4, b5, b6, b7, b8, b9, b10, b11, b12, b13, b14, b15].getD i b0, rfl, rfl⟩
end
section
theorem fn38 : FnOk Try.prog 38 Try.f38 (bodyOf Try.f38) := ⟨Try.func38, rfl, by rfl⟩
def s38 : Spec := hspec fun args H => match args, H with
  | [.c (.f .f32 a), .c (.f .f32 b)], [] => some (Zm (a (), b ()), [], [])
  | _, _ => none
theorem ok38 : Ok Try.prog 38 (s38) := ok_of_wpaH (E := envGetL []) mixed tts (envOk_nil _) fn38 fun args H v H' o hs ho => by
  split at hs
  · rename_i a b
    cases hs
    refine ⟨_, HLe.refl _, ?_⟩
    cbv
    repeat' first
      | (refine Br.mk (fun h => ?_) (fun h => ?_) <;> cbv)
      | (refine Ob.mk ?_ ?_; rotate_left; cbv)
      | (refine Lex.mk (by decide +kernel) ?_; cbv)
    all_goals (try simp only [Unit.unit, Int.ofNat_lt, Int.ofNat_le, BE.val, IE.val, NE.val, ltB_iff, ltB_no, leB_iff, leB_no, Int.toNat_natCast, Nat.zero_add, Nat.add_zero, Nat.mul_one, forced, beq_iff_eq, beq_eq_false_iff_ne, bne_iff_ne, bne_eq_false_iff_eq] at *)
    all_goals first | with_reducible rfl | rfl
  · cases hs
theorem fn44 : FnOk Try.prog 44 Try.f44 (bodyOf Try.f44) := ⟨Try.func44, rfl, by rfl⟩
def s44 : Spec := hspec fun args H => match args, H with
  | [.c (.f .f32 a), .c (.f .f32 b)], [] => some (Zm (a (), b ()), [], [])
  | _, _ => none
theorem ok44 : Ok Try.prog 44 (s44) := ok_of_wpaH (E := envGetL []) mixed tts (envOk_nil _) fn44 fun args H v H' o hs ho => by
  split at hs
  · rename_i a b
    cases hs
    refine ⟨_, HLe.refl _, ?_⟩
    cbv
    repeat' first
      | (refine Br.mk (fun h => ?_) (fun h => ?_) <;> cbv)
      | (refine Ob.mk ?_ ?_; rotate_left; cbv)
      | (refine Lex.mk (by decide +kernel) ?_; cbv)
    all_goals (try simp only [Unit.unit, Int.ofNat_lt, Int.ofNat_le, BE.val, IE.val, NE.val, ltB_iff, ltB_no, leB_iff, leB_no, Int.toNat_natCast, Nat.zero_add, Nat.add_zero, Nat.mul_one, forced, beq_iff_eq, beq_eq_false_iff_ne, bne_iff_ne, bne_eq_false_iff_eq] at *)
    all_goals first | with_reducible rfl | rfl
  · cases hs
theorem fn56 : FnOk Try.prog 56 Try.f56 (bodyOf Try.f56) := ⟨Try.func56, rfl, by rfl⟩
def s56 : Spec := hspec fun args H => match args, H with
  | [.c (.z .f32 a1 a2)], [] => some (F (a1 ()), [], [])
  | _, _ => none
theorem ok56 : Ok Try.prog 56 (s56) := ok_of_wpaH (E := envGetL []) mixed tts (envOk_nil _) fn56 fun args H v H' o hs ho => by
  split at hs
  · rename_i a1 a2
    cases hs
    refine ⟨_, HLe.refl _, ?_⟩
    cbv
    repeat' first
      | (refine Br.mk (fun h => ?_) (fun h => ?_) <;> cbv)
      | (refine Ob.mk ?_ ?_; rotate_left; cbv)
      | (refine Lex.mk (by decide +kernel) ?_; cbv)
    all_goals (try simp only [Unit.unit, Int.ofNat_lt, Int.ofNat_le, BE.val, IE.val, NE.val, ltB_iff, ltB_no, leB_iff, leB_no, Int.toNat_natCast, Nat.zero_add, Nat.add_zero, Nat.mul_one, forced, beq_iff_eq, beq_eq_false_iff_ne, bne_iff_ne, bne_eq_false_iff_eq] at *)
    all_goals first | with_reducible rfl | rfl
  · cases hs
theorem fn46 : FnOk Try.prog 46 Try.f46 (bodyOf Try.f46) := ⟨Try.func46, rfl, by rfl⟩
def s46 : Spec := hspec fun args H => match args, H with
  | [.c (.z .f32 a1 a2)], [] => some (F (a1 ()), [], [])
  | _, _ => none
theorem ok46 : Ok Try.prog 46 (s46) := ok_of_wpaH (E := envGetL []) mixed tts (envOk_nil _) fn46 fun args H v H' o hs ho => by
  split at hs
  · rename_i a1 a2
    cases hs
    refine ⟨_, HLe.refl _, ?_⟩
    cbv
    repeat' first
      | (refine Br.mk (fun h => ?_) (fun h => ?_) <;> cbv)
      | (refine Ob.mk ?_ ?_; rotate_left; cbv)
      | (refine Lex.mk (by decide +kernel) ?_; cbv)
    all_goals (try simp only [Unit.unit, Int.ofNat_lt, Int.ofNat_le, BE.val, IE.val, NE.val, ltB_iff, ltB_no, leB_iff, leB_no, Int.toNat_natCast, Nat.zero_add, Nat.add_zero, Nat.mul_one, forced, beq_iff_eq, beq_eq_false_iff_ne, bne_iff_ne, bne_eq_false_iff_eq] at *)
    all_goals first | with_reducible rfl | rfl
  · cases hs
theorem fn57 : FnOk Try.prog 57 Try.f57 (bodyOf Try.f57) := ⟨Try.func57, rfl, by rfl⟩
def s57 : Spec := hspec fun args H => match args, H with
  | [.c (.z .f32 a1 a2)], [] => some (F (a2 ()), [], [])
  | _, _ => none
theorem ok57 : Ok Try.prog 57 (s57) := ok_of_wpaH (E := envGetL []) mixed tts (envOk_nil _) fn57 fun args H v H' o hs ho => by
  split at hs
  · rename_i a1 a2
    cases hs
    refine ⟨_, HLe.refl _, ?_⟩
    cbv
    repeat' first
      | (refine Br.mk (fun h => ?_) (fun h => ?_) <;> cbv)
      | (refine Ob.mk ?_ ?_; rotate_left; cbv)
      | (refine Lex.mk (by decide +kernel) ?_; cbv)
    all_goals (try simp only [Unit.unit, Int.ofNat_lt, Int.ofNat_le, BE.val, IE.val, NE.val, ltB_iff, ltB_no, leB_iff, leB_no, Int.toNat_natCast, Nat.zero_add, Nat.add_zero, Nat.mul_one, forced, beq_iff_eq, beq_eq_false_iff_ne, bne_iff_ne, bne_eq_false_iff_eq] at *)
    all_goals first | with_reducible rfl | rfl
  · cases hs
theorem fn47 : FnOk Try.prog 47 Try.f47 (bodyOf Try.f47) := ⟨Try.func47, rfl, by rfl⟩
def s47 : Spec := hspec fun args H => match args, H with
  | [.c (.z .f32 a1 a2)], [] => some (F (a2 ()), [], [])
  | _, _ => none
theorem ok47 : Ok Try.prog 47 (s47) := ok_of_wpaH (E := envGetL []) mixed tts (envOk_nil _) fn47 fun args H v H' o hs ho => by
  split at hs
  · rename_i a1 a2
    cases hs
    refine ⟨_, HLe.refl _, ?_⟩
    cbv
    repeat' first
      | (refine Br.mk (fun h => ?_) (fun h => ?_) <;> cbv)
      | (refine Ob.mk ?_ ?_; rotate_left; cbv)
      | (refine Lex.mk (by decide +kernel) ?_; cbv)
    all_goals (try simp only [Unit.unit, Int.ofNat_lt, Int.ofNat_le, BE.val, IE.val, NE.val, ltB_iff, ltB_no, leB_iff, leB_no, Int.toNat_natCast, Nat.zero_add, Nat.add_zero, Nat.mul_one, forced, beq_iff_eq, beq_eq_false_iff_ne, bne_iff_ne, bne_eq_false_iff_eq] at *)
    all_goals first | with_reducible rfl | rfl
  · cases hs
theorem fn45 : FnOk Try.prog 45 Try.f45 (bodyOf Try.f45) := ⟨Try.func45, rfl, by rfl⟩
def s45 : Spec := hspec fun args H => match args, H with
  | [.c (.f .f32 a), .c (.f .f32 b)], [] => some (F (fop .mul .f32 (a ()) (b ())), [], [])
  | _, _ => none
theorem ok45 : Ok Try.prog 45 (s45) := ok_of_wpaH (E := envGetL []) mixed tts (envOk_nil _) fn45 fun args H v H' o hs ho => by
  split at hs
  · rename_i a b
    cases hs
    refine ⟨_, HLe.refl _, ?_⟩
    cbv
    repeat' first
      | (refine Br.mk (fun h => ?_) (fun h => ?_) <;> cbv)
      | (refine Ob.mk ?_ ?_; rotate_left; cbv)
      | (refine Lex.mk (by decide +kernel) ?_; cbv)
    all_goals (try simp only [Unit.unit, Int.ofNat_lt, Int.ofNat_le, BE.val, IE.val, NE.val, ltB_iff, ltB_no, leB_iff, leB_no, Int.toNat_natCast, Nat.zero_add, Nat.add_zero, Nat.mul_one, forced, beq_iff_eq, beq_eq_false_iff_ne, bne_iff_ne, bne_eq_false_iff_eq] at *)
    all_goals first | with_reducible rfl | rfl
  · cases hs
theorem fn101 : FnOk Try.prog 101 Try.f101 (bodyOf Try.f101) := ⟨Try.func101, rfl, by rfl⟩
def s101 : Spec := hspec fun args H => match args, H with
  | [.c (.f .f32 a)], [] => some (vB (okX (a ())), [], [])
  | _, _ => none
theorem ok101 : Ok Try.prog 101 (s101) := ok_of_wpaH (E := envGetL []) mixed tts (envOk_nil _) fn101 fun args H v H' o hs ho => by
  split at hs
  · rename_i a
    cases hs
    refine ⟨_, HLe.refl _, ?_⟩
    cbv
    repeat' first
      | (refine Br.mk (fun h => ?_) (fun h => ?_) <;> cbv)
      | (refine Ob.mk ?_ ?_; rotate_left; cbv)
      | (refine Lex.mk (by decide +kernel) ?_; cbv)
    all_goals (try simp only [Unit.unit, Int.ofNat_lt, Int.ofNat_le, BE.val, IE.val, NE.val, ltB_iff, ltB_no, leB_iff, leB_no, Int.toNat_natCast, Nat.zero_add, Nat.add_zero, Nat.mul_one, forced, beq_iff_eq, beq_eq_false_iff_ne, bne_iff_ne, bne_eq_false_iff_eq] at *)
    all_goals first | with_reducible rfl | (simp_all [okX, isIn, okM]; done)
  · cases hs
theorem fn60 : FnOk Try.prog 60 Try.f60 (bodyOf Try.f60) := ⟨Try.func60, rfl, by rfl⟩
def s60 : Spec := hspec fun args H => match args, H with
  | [.c (.f .f32 a), .c (.f .f32 lo), .c (.f .f32 hi)], [] => some (vB (isIn (a ()) (lo ()) (hi ())), [], [])
  | _, _ => none
theorem ok60 : Ok Try.prog 60 (s60) := ok_of_wpaH (E := envGetL []) mixed tts (envOk_nil _) fn60 fun args H v H' o hs ho => by
  split at hs
  · rename_i a lo hi
    cases hs
    refine ⟨_, HLe.refl _, ?_⟩
    cbv
    repeat' first
      | (refine Br.mk (fun h => ?_) (fun h => ?_) <;> cbv)
      | (refine Ob.mk ?_ ?_; rotate_left; cbv)
      | (refine Lex.mk (by decide +kernel) ?_; cbv)
    all_goals (try simp only [Unit.unit, Int.ofNat_lt, Int.ofNat_le, BE.val, IE.val, NE.val, ltB_iff, ltB_no, leB_iff, leB_no, Int.toNat_natCast, Nat.zero_add, Nat.add_zero, Nat.mul_one, forced, beq_iff_eq, beq_eq_false_iff_ne, bne_iff_ne, bne_eq_false_iff_eq] at *)
    all_goals first | with_reducible rfl | (simp_all [okX, isIn, okM]; done)
  · cases hs
theorem fn62 : FnOk Try.prog 62 Try.f62 (bodyOf Try.f62) := ⟨Try.func62, rfl, by rfl⟩
def s62 : Spec := hspec fun args H => match args, H with
  | [.c (.z .f32 a1 a2)], [] => some (vB (okM (a1 (), a2 ())), [], [])
  | _, _ => none
def E62 : Env := fun g => envGetL [(56, ⟨true, s56, none⟩), (57, ⟨true, s57, none⟩), (101, ⟨true, s101, none⟩)] g
theorem E62ok : EnvOk Try.prog E62 := envOk_cons ok56 (envOk_cons ok57 (envOk_cons ok101 (envOk_nil _)))
theorem ok62 : Ok Try.prog 62 (s62) := ok_of_wpaH (E := E62) mixed tts E62ok fn62 fun args H v H' o hs ho => by
  split at hs
  · rename_i a1 a2
    cases hs
    refine ⟨_, HLe.refl _, ?_⟩
    cbv
    repeat' first
      | (refine Br.mk (fun h => ?_) (fun h => ?_) <;> cbv)
      | (refine Ob.mk ?_ ?_; rotate_left; cbv)
      | (refine Lex.mk (by decide +kernel) ?_; cbv)
    all_goals (try simp only [Unit.unit, Int.ofNat_lt, Int.ofNat_le, BE.val, IE.val, NE.val, ltB_iff, ltB_no, leB_iff, leB_no, Int.toNat_natCast, Nat.zero_add, Nat.add_zero, Nat.mul_one, forced, beq_iff_eq, beq_eq_false_iff_ne, bne_iff_ne, bne_eq_false_iff_eq] at *)
    all_goals first | with_reducible rfl | (simp_all [okX, isIn, okM]; done)
  · cases hs
theorem fn59 : FnOk Try.prog 59 Try.f59 (bodyOf Try.f59) := ⟨Try.func59, rfl, by rfl⟩
def s59 : Spec := hspec fun args H => match args, H with
  | [.c (.z .f32 a1 a2)], [] => some (vB (okM (a1 (), a2 ())), [], [])
  | _, _ => none
def E59 : Env := fun g => envGetL [(46, ⟨true, s46, none⟩), (47, ⟨true, s47, none⟩), (60, ⟨true, s60, none⟩)] g
theorem E59ok : EnvOk Try.prog E59 := envOk_cons ok46 (envOk_cons ok47 (envOk_cons ok60 (envOk_nil _)))
theorem ok59 : Ok Try.prog 59 (s59) := ok_of_wpaH (E := E59) mixed tts E59ok fn59 fun args H v H' o hs ho => by
  split at hs
  · rename_i a1 a2
    cases hs
    refine ⟨_, HLe.refl _, ?_⟩
    cbv
    repeat' first
      | (refine Br.mk (fun h => ?_) (fun h => ?_) <;> cbv)
      | (refine Ob.mk ?_ ?_; rotate_left; cbv)
      | (refine Lex.mk (by decide +kernel) ?_; cbv)
    all_goals (try simp only [Unit.unit, Int.ofNat_lt, Int.ofNat_le, BE.val, IE.val, NE.val, ltB_iff, ltB_no, leB_iff, leB_no, Int.toNat_natCast, Nat.zero_add, Nat.add_zero, Nat.mul_one, forced, beq_iff_eq, beq_eq_false_iff_ne, bne_iff_ne, bne_eq_false_iff_eq] at *)
    all_goals first | with_reducible rfl | (simp_all [okX, isIn, okM]; done)
  · cases hs
theorem fn41 : FnOk Try.prog 41 Try.f41 (bodyOf Try.f41) := ⟨Try.func41, rfl, by rfl⟩
def s41 : Spec := hspec fun args H => match args, H with
  | [.c (.f .f32 a)], [] => some (vB (isIn (a ()) 0 1166016512), [], [])
  | _, _ => none
def E41 : Env := fun g => envGetL [(60, ⟨true, s60, none⟩)] g
theorem E41ok : EnvOk Try.prog E41 := envOk_cons ok60 (envOk_nil _)
theorem ok41 : Ok Try.prog 41 (s41) := ok_of_wpaH (E := E41) mixed tts E41ok fn41 fun args H v H' o hs ho => by
  split at hs
  · rename_i a
    cases hs
    refine ⟨_, HLe.refl _, ?_⟩
    cbv
    repeat' first
      | (refine Br.mk (fun h => ?_) (fun h => ?_) <;> cbv)
      | (refine Ob.mk ?_ ?_; rotate_left; cbv)
      | (refine Lex.mk (by decide +kernel) ?_; cbv)
    all_goals (try simp only [Unit.unit, Int.ofNat_lt, Int.ofNat_le, BE.val, IE.val, NE.val, ltB_iff, ltB_no, leB_iff, leB_no, Int.toNat_natCast, Nat.zero_add, Nat.add_zero, Nat.mul_one, forced, beq_iff_eq, beq_eq_false_iff_ne, bne_iff_ne, bne_eq_false_iff_eq] at *)
    all_goals first | with_reducible rfl | rfl
  · cases hs
theorem fn71 : FnOk Try.prog 71 Try.f71 (bodyOf Try.f71) := ⟨Try.func71, rfl, by rfl⟩
def s71 : Spec := hspec fun args H => match args, H with
  | [.c (.z .f32 a1 a2), .c (.z .f32 b1 b2)], [] => some (Zm (minusM (a1 (), a2 ()) (b1 (), b2 ())), [], [])
  | _, _ => none
def E71 : Env := fun g => envGetL [(56, ⟨true, s56, none⟩), (57, ⟨true, s57, none⟩), (38, ⟨true, s38, none⟩)] g
theorem E71ok : EnvOk Try.prog E71 := envOk_cons ok56 (envOk_cons ok57 (envOk_cons ok38 (envOk_nil _)))
theorem ok71 : Ok Try.prog 71 (s71) := ok_of_wpaH (E := E71) mixed tts E71ok fn71 fun args H v H' o hs ho => by
  split at hs
  · rename_i a1 a2 b1 b2
    cases hs
    refine ⟨_, HLe.refl _, ?_⟩
    cbv
    repeat' first
      | (refine Br.mk (fun h => ?_) (fun h => ?_) <;> cbv)
      | (refine Ob.mk ?_ ?_; rotate_left; cbv)
      | (refine Lex.mk (by decide +kernel) ?_; cbv)
    all_goals (try simp only [Unit.unit, Int.ofNat_lt, Int.ofNat_le, BE.val, IE.val, NE.val, ltB_iff, ltB_no, leB_iff, leB_no, Int.toNat_natCast, Nat.zero_add, Nat.add_zero, Nat.mul_one, forced, beq_iff_eq, beq_eq_false_iff_ne, bne_iff_ne, bne_eq_false_iff_eq] at *)
    all_goals first | with_reducible rfl | rfl
  · cases hs
theorem fn65 : FnOk Try.prog 65 Try.f65 (bodyOf Try.f65) := ⟨Try.func65, rfl, by rfl⟩
def s65 : Spec := hspec fun args H => match args, H with
  | [.c (.z .f32 a1 a2), .c (.z .f32 b1 b2)], [] => some (Zm (minusM (a1 (), a2 ()) (b1 (), b2 ())), [], [])
  | _, _ => none
def E65 : Env := fun g => envGetL [(46, ⟨true, s46, none⟩), (47, ⟨true, s47, none⟩), (44, ⟨true, s44, none⟩)] g
theorem E65ok : EnvOk Try.prog E65 := envOk_cons ok46 (envOk_cons ok47 (envOk_cons ok44 (envOk_nil _)))
theorem ok65 : Ok Try.prog 65 (s65) := ok_of_wpaH (E := E65) mixed tts E65ok fn65 fun args H v H' o hs ho => by
  split at hs
  · rename_i a1 a2 b1 b2
    cases hs
    refine ⟨_, HLe.refl _, ?_⟩
    cbv
    repeat' first
      | (refine Br.mk (fun h => ?_) (fun h => ?_) <;> cbv)
      | (refine Ob.mk ?_ ?_; rotate_left; cbv)
      | (refine Lex.mk (by decide +kernel) ?_; cbv)
    all_goals (try simp only [Unit.unit, Int.ofNat_lt, Int.ofNat_le, BE.val, IE.val, NE.val, ltB_iff, ltB_no, leB_iff, leB_no, Int.toNat_natCast, Nat.zero_add, Nat.add_zero, Nat.mul_one, forced, beq_iff_eq, beq_eq_false_iff_ne, bne_iff_ne, bne_eq_false_iff_eq] at *)
    all_goals first | with_reducible rfl | rfl
  · cases hs
theorem fn77 : FnOk Try.prog 77 Try.f77 (bodyOf Try.f77) := ⟨Try.func77, rfl, by rfl⟩
def s77 : Spec := hspec fun args H => match args, H with
  | [.c (.z .f32 a1 a2), .c (.z .f32 b1 b2)], [] => some (Zm (plusM (a1 (), a2 ()) (b1 (), b2 ())), [], [])
  | _, _ => none
def E77 : Env := fun g => envGetL [(56, ⟨true, s56, none⟩), (57, ⟨true, s57, none⟩), (38, ⟨true, s38, none⟩)] g
theorem E77ok : EnvOk Try.prog E77 := envOk_cons ok56 (envOk_cons ok57 (envOk_cons ok38 (envOk_nil _)))
theorem ok77 : Ok Try.prog 77 (s77) := ok_of_wpaH (E := E77) mixed tts E77ok fn77 fun args H v H' o hs ho => by
  split at hs
  · rename_i a1 a2 b1 b2
    cases hs
    refine ⟨_, HLe.refl _, ?_⟩
    cbv
    repeat' first
      | (refine Br.mk (fun h => ?_) (fun h => ?_) <;> cbv)
      | (refine Ob.mk ?_ ?_; rotate_left; cbv)
      | (refine Lex.mk (by decide +kernel) ?_; cbv)
    all_goals (try simp only [Unit.unit, Int.ofNat_lt, Int.ofNat_le, BE.val, IE.val, NE.val, ltB_iff, ltB_no, leB_iff, leB_no, Int.toNat_natCast, Nat.zero_add, Nat.add_zero, Nat.mul_one, forced, beq_iff_eq, beq_eq_false_iff_ne, bne_iff_ne, bne_eq_false_iff_eq] at *)
    all_goals first | with_reducible rfl | rfl
  · cases hs
theorem fn68 : FnOk Try.prog 68 Try.f68 (bodyOf Try.f68) := ⟨Try.func68, rfl, by rfl⟩
def s68 : Spec := hspec fun args H => match args, H with
  | [.c (.z .f32 a1 a2), .c (.z .f32 b1 b2)], [] => some (Zm (plusM (a1 (), a2 ()) (b1 (), b2 ())), [], [])
  | _, _ => none
def E68 : Env := fun g => envGetL [(46, ⟨true, s46, none⟩), (47, ⟨true, s47, none⟩), (44, ⟨true, s44, none⟩)] g
theorem E68ok : EnvOk Try.prog E68 := envOk_cons ok46 (envOk_cons ok47 (envOk_cons ok44 (envOk_nil _)))
theorem ok68 : Ok Try.prog 68 (s68) := ok_of_wpaH (E := E68) mixed tts E68ok fn68 fun args H v H' o hs ho => by
  split at hs
  · rename_i a1 a2 b1 b2
    cases hs
    refine ⟨_, HLe.refl _, ?_⟩
    cbv
    repeat' first
      | (refine Br.mk (fun h => ?_) (fun h => ?_) <;> cbv)
      | (refine Ob.mk ?_ ?_; rotate_left; cbv)
      | (refine Lex.mk (by decide +kernel) ?_; cbv)
    all_goals (try simp only [Unit.unit, Int.ofNat_lt, Int.ofNat_le, BE.val, IE.val, NE.val, ltB_iff, ltB_no, leB_iff, leB_no, Int.toNat_natCast, Nat.zero_add, Nat.add_zero, Nat.mul_one, forced, beq_iff_eq, beq_eq_false_iff_ne, bne_iff_ne, bne_eq_false_iff_eq] at *)
    all_goals first | with_reducible rfl | rfl
  · cases hs
theorem fn78 : FnOk Try.prog 78 Try.f78 (bodyOf Try.f78) := ⟨Try.func78, rfl, by rfl⟩
def s78 : Spec := hspec fun args H => match args, H with
  | [.c (.z .f32 a1 a2), .c (.f .f32 d)], [] => some (Zm (overM (a1 (), a2 ()) (d ())), [], [])
  | _, _ => none
def E78 : Env := fun g => envGetL [(56, ⟨true, s56, none⟩), (57, ⟨true, s57, none⟩), (38, ⟨true, s38, none⟩)] g
theorem E78ok : EnvOk Try.prog E78 := envOk_cons ok56 (envOk_cons ok57 (envOk_cons ok38 (envOk_nil _)))
theorem ok78 : Ok Try.prog 78 (s78) := ok_of_wpaH (E := E78) mixed tts E78ok fn78 fun args H v H' o hs ho => by
  split at hs
  · rename_i a1 a2 d
    cases hs
    refine ⟨_, HLe.refl _, ?_⟩
    cbv
    repeat' first
      | (refine Br.mk (fun h => ?_) (fun h => ?_) <;> cbv)
      | (refine Ob.mk ?_ ?_; rotate_left; cbv)
      | (refine Lex.mk (by decide +kernel) ?_; cbv)
    all_goals (try simp only [Unit.unit, Int.ofNat_lt, Int.ofNat_le, BE.val, IE.val, NE.val, ltB_iff, ltB_no, leB_iff, leB_no, Int.toNat_natCast, Nat.zero_add, Nat.add_zero, Nat.mul_one, forced, beq_iff_eq, beq_eq_false_iff_ne, bne_iff_ne, bne_eq_false_iff_eq] at *)
    all_goals first | with_reducible rfl | rfl
  · cases hs
theorem fn69 : FnOk Try.prog 69 Try.f69 (bodyOf Try.f69) := ⟨Try.func69, rfl, by rfl⟩
def s69 : Spec := hspec fun args H => match args, H with
  | [.c (.z .f32 a1 a2), .c (.f .f32 d)], [] => some (Zm (overM (a1 (), a2 ()) (d ())), [], [])
  | _, _ => none
def E69 : Env := fun g => envGetL [(46, ⟨true, s46, none⟩), (47, ⟨true, s47, none⟩), (44, ⟨true, s44, none⟩)] g
theorem E69ok : EnvOk Try.prog E69 := envOk_cons ok46 (envOk_cons ok47 (envOk_cons ok44 (envOk_nil _)))
theorem ok69 : Ok Try.prog 69 (s69) := ok_of_wpaH (E := E69) mixed tts E69ok fn69 fun args H v H' o hs ho => by
  split at hs
  · rename_i a1 a2 d
    cases hs
    refine ⟨_, HLe.refl _, ?_⟩
    cbv
    repeat' first
      | (refine Br.mk (fun h => ?_) (fun h => ?_) <;> cbv)
      | (refine Ob.mk ?_ ?_; rotate_left; cbv)
      | (refine Lex.mk (by decide +kernel) ?_; cbv)
    all_goals (try simp only [Unit.unit, Int.ofNat_lt, Int.ofNat_le, BE.val, IE.val, NE.val, ltB_iff, ltB_no, leB_iff, leB_no, Int.toNat_natCast, Nat.zero_add, Nat.add_zero, Nat.mul_one, forced, beq_iff_eq, beq_eq_false_iff_ne, bne_iff_ne, bne_eq_false_iff_eq] at *)
    all_goals first | with_reducible rfl | rfl
  · cases hs
theorem fn76 : FnOk Try.prog 76 Try.f76 (bodyOf Try.f76) := ⟨Try.func76, rfl, by rfl⟩
def s76 : Spec := hspec fun args H => match args, H with
  | [.c (.z .f32 a1 a2)], [] => some (F (sqM (a1 (), a2 ())), [], [])
  | _, _ => none
def E76 : Env := fun g => envGetL [(56, ⟨true, s56, none⟩), (57, ⟨true, s57, none⟩)] g
theorem E76ok : EnvOk Try.prog E76 := envOk_cons ok56 (envOk_cons ok57 (envOk_nil _))
theorem ok76 : Ok Try.prog 76 (s76) := ok_of_wpaH (E := E76) mixed tts E76ok fn76 fun args H v H' o hs ho => by
  split at hs
  · rename_i a1 a2
    cases hs
    refine ⟨_, HLe.refl _, ?_⟩
    cbv
    repeat' first
      | (refine Br.mk (fun h => ?_) (fun h => ?_) <;> cbv)
      | (refine Ob.mk ?_ ?_; rotate_left; cbv)
      | (refine Lex.mk (by decide +kernel) ?_; cbv)
    all_goals (try simp only [Unit.unit, Int.ofNat_lt, Int.ofNat_le, BE.val, IE.val, NE.val, ltB_iff, ltB_no, leB_iff, leB_no, Int.toNat_natCast, Nat.zero_add, Nat.add_zero, Nat.mul_one, forced, beq_iff_eq, beq_eq_false_iff_ne, bne_iff_ne, bne_eq_false_iff_eq] at *)
    all_goals first | with_reducible rfl | rfl
  · cases hs
theorem fn67 : FnOk Try.prog 67 Try.f67 (bodyOf Try.f67) := ⟨Try.func67, rfl, by rfl⟩
def s67 : Spec := hspec fun args H => match args, H with
  | [.c (.z .f32 a1 a2)], [] => some (F (sqM (a1 (), a2 ())), [], [])
  | _, _ => none
def E67 : Env := fun g => envGetL [(45, ⟨true, s45, none⟩), (46, ⟨true, s46, none⟩), (47, ⟨true, s47, none⟩)] g
theorem E67ok : EnvOk Try.prog E67 := envOk_cons ok45 (envOk_cons ok46 (envOk_cons ok47 (envOk_nil _)))
theorem ok67 : Ok Try.prog 67 (s67) := ok_of_wpaH (E := E67) mixed tts E67ok fn67 fun args H v H' o hs ho => by
  split at hs
  · rename_i a1 a2
    cases hs
    refine ⟨_, HLe.refl _, ?_⟩
    cbv
    repeat' first
      | (refine Br.mk (fun h => ?_) (fun h => ?_) <;> cbv)
      | (refine Ob.mk ?_ ?_; rotate_left; cbv)
      | (refine Lex.mk (by decide +kernel) ?_; cbv)
    all_goals (try simp only [Unit.unit, Int.ofNat_lt, Int.ofNat_le, BE.val, IE.val, NE.val, ltB_iff, ltB_no, leB_iff, leB_no, Int.toNat_natCast, Nat.zero_add, Nat.add_zero, Nat.mul_one, forced, beq_iff_eq, beq_eq_false_iff_ne, bne_iff_ne, bne_eq_false_iff_eq] at *)
    all_goals first | with_reducible rfl | rfl
  · cases hs
end
section
theorem e104a : Extern.findNext Try.f104 = none := by rfl
theorem e104b : Extern.find Try.f104 = some Extern.MathSqrt.sqrt := by rfl
theorem sqrt_at (b : Nat) : Extern.MathSqrt.sqrt #[.float .f64 b] = (match FloatKind.f64.format.sqrt b with | some r => pure (.float .f64 r) | none => do pure (.float .f64 (← choose (.nanBits .f64 b b)))) := rfl
def s104 : Spec := fun args H => match args with
  | [.c (.f .f64 e)] => some (.c (.f .f64 fun _ => sqrtB (e ())), H, [])
  | _ => none
theorem ok104 : Ok Try.prog 104 s104 := by
  intro args H v H' o hs ho μ W w vs hW hH hr
  unfold s104 at hs
  split at hs
  · rename_i e
    cases hs
    match vs, hr with
    | [x], hr =>
      obtain ⟨⟨b, rfl, hb⟩, _⟩ := hr
      have hrun := run_callFunc_extern (P := Try.prog) (f := 104) Try.func104 (by rfl) (by rfl) e104a e104b #[.float .f64 b] w
      have hsame : FloatKind.f64.format.sqrt b = FloatKind.f64.format.sqrt (e ()) := by
        rcases hb with rfl | ⟨h1, h2⟩
        · rfl
        · obtain ⟨s, t, h1⟩ := isNaN_iff h1
          obtain ⟨s', t', h2⟩ := isNaN_iff h2
          unfold Ieee.Format.sqrt
          rw [h1, h2]; rfl
      cases hf : FloatKind.f64.format.sqrt b with
      | some r =>
        refine .inr ⟨.float .f64 r, w, ?_, μ, agree.refl _ _, Nat.le_refl _, hH, ⟨r, rfl, ?_⟩, Fr.refl _ _⟩
        · rw [hrun, sqrt_at, hf]
          simp
        · unfold sqrtB; rw [← hsame, hf]; exact .inl rfl
      | none =>
        refine .inr ⟨.float .f64 (nanOf .f64 (w.tape w.drawn (.nanBits .f64 b b))), w.drewN 1, ?_, μ, agree.refl _ _, Nat.le_refl _, hH.quiet (Fr.drewN _ _ _), ⟨_, rfl, ?_⟩, Fr.drewN _ _ _⟩
        · rw [hrun, sqrt_at, hf]
          simp [choose, Sem.run, Question.forced, Question.cut, nanOf] <;> rfl
        · exact .inr ⟨nan_nanOf _ _, by unfold sqrtB; rw [← hsame, hf]; exact nan_qn .f64⟩
  · cases hs
theorem fn95 : FnOk Try.prog 95 Try.f95 (bodyOf Try.f95) := ⟨Try.func95, rfl, by rfl⟩
def s95 : Spec := hspec fun args H => match args, H with
  | [.c (.f .f64 a)], [] => some (.c (.f .f64 fun _ => sqrtB (a ())), [], [])
  | _, _ => none
def E95 : Env := fun g => envGetL [(104, ⟨true, s104, none⟩)] g
theorem E95ok : EnvOk Try.prog E95 := envOk_cons ok104 (envOk_nil _)
theorem ok95 : Ok Try.prog 95 (s95) := ok_of_wpaH (E := E95) mixed tts E95ok fn95 fun args H v H' o hs ho => by
  split at hs
  · rename_i a
    cases hs
    refine ⟨_, HLe.refl _, ?_⟩
    cbv
    repeat' first
      | (refine Br.mk (fun h => ?_) (fun h => ?_) <;> cbv)
      | (refine Ob.mk ?_ ?_; rotate_left; cbv)
      | (refine Lex.mk (by decide +kernel) ?_; cbv)
    all_goals (try simp only [Unit.unit, Int.ofNat_lt, Int.ofNat_le, BE.val, IE.val, NE.val, ltB_iff, ltB_no, leB_iff, leB_no, Int.toNat_natCast, Nat.zero_add, Nat.add_zero, Nat.mul_one, forced, beq_iff_eq, beq_eq_false_iff_ne, bne_iff_ne, bne_eq_false_iff_eq] at *)
    all_goals first | with_reducible rfl | rfl
  · cases hs
theorem fn48 : FnOk Try.prog 48 Try.f48 (bodyOf Try.f48) := ⟨Try.func48, rfl, by rfl⟩
def s48 : Spec := hspec fun args H => match args, H with
  | [.c (.z .f32 a1 a2)], [] => some (F (sizeM (a1 (), a2 ())), [], [])
  | _, _ => none
def E48 : Env := fun g => envGetL [(76, ⟨true, s76, none⟩), (95, ⟨true, s95, none⟩)] g
theorem E48ok : EnvOk Try.prog E48 := envOk_cons ok76 (envOk_cons ok95 (envOk_nil _))
theorem ok48 : Ok Try.prog 48 (s48) := ok_of_wpaH (E := E48) mixed tts E48ok fn48 fun args H v H' o hs ho => by
  split at hs
  · rename_i a1 a2
    cases hs
    refine ⟨_, HLe.refl _, ?_⟩
    cbv
    repeat' first
      | (refine Br.mk (fun h => ?_) (fun h => ?_) <;> cbv)
      | (refine Ob.mk ?_ ?_; rotate_left; cbv)
      | (refine Lex.mk (by decide +kernel) ?_; cbv)
    all_goals (try simp only [Unit.unit, Int.ofNat_lt, Int.ofNat_le, BE.val, IE.val, NE.val, ltB_iff, ltB_no, leB_iff, leB_no, Int.toNat_natCast, Nat.zero_add, Nat.add_zero, Nat.mul_one, forced, beq_iff_eq, beq_eq_false_iff_ne, bne_iff_ne, bne_eq_false_iff_eq] at *)
    all_goals first | with_reducible rfl | rfl | exact sqrt_some _ (by assumption) | (intro h; exact sqrt_some _ h) | exact sqrt_some _
  · cases hs
theorem fn89 : FnOk Try.prog 89 Try.f89 (bodyOf Try.f89) := ⟨Try.func89, rfl, by rfl⟩
def s89 : Spec := hspec fun args H => match args, H with
  | [.c (.z .f32 a1 a2)], [] => some (F (sizeM (a1 (), a2 ())), [], [])
  | _, _ => none
def E89 : Env := fun g => envGetL [(67, ⟨true, s67, none⟩), (95, ⟨true, s95, none⟩)] g
theorem E89ok : EnvOk Try.prog E89 := envOk_cons ok67 (envOk_cons ok95 (envOk_nil _))
theorem ok89 : Ok Try.prog 89 (s89) := ok_of_wpaH (E := E89) mixed tts E89ok fn89 fun args H v H' o hs ho => by
  split at hs
  · rename_i a1 a2
    cases hs
    refine ⟨_, HLe.refl _, ?_⟩
    cbv
    repeat' first
      | (refine Br.mk (fun h => ?_) (fun h => ?_) <;> cbv)
      | (refine Ob.mk ?_ ?_; rotate_left; cbv)
      | (refine Lex.mk (by decide +kernel) ?_; cbv)
    all_goals (try simp only [Unit.unit, Int.ofNat_lt, Int.ofNat_le, BE.val, IE.val, NE.val, ltB_iff, ltB_no, leB_iff, leB_no, Int.toNat_natCast, Nat.zero_add, Nat.add_zero, Nat.mul_one, forced, beq_iff_eq, beq_eq_false_iff_ne, bne_iff_ne, bne_eq_false_iff_eq] at *)
    all_goals first | with_reducible rfl | rfl | exact sqrt_some _ (by assumption) | (intro h; exact sqrt_some _ h) | exact sqrt_some _
  · cases hs
theorem fn10 : FnOk Try.prog 10 Try.f10 (bodyOf Try.f10) := ⟨Try.func10, rfl, by rfl⟩
def s10 : Spec := hspec fun args H => match args, H with
  | [.c (.z .f32 a1 a2)], [] => some (F (sizeM (a1 (), a2 ())), [], [])
  | _, _ => none
def E10 : Env := fun g => envGetL [(48, ⟨true, s48, none⟩)] g
theorem E10ok : EnvOk Try.prog E10 := envOk_cons ok48 (envOk_nil _)
theorem ok10 : Ok Try.prog 10 (s10) := ok_of_wpaH (E := E10) mixed tts E10ok fn10 fun args H v H' o hs ho => by
  split at hs
  · rename_i a1 a2
    cases hs
    refine ⟨_, HLe.refl _, ?_⟩
    cbv
    repeat' first
      | (refine Br.mk (fun h => ?_) (fun h => ?_) <;> cbv)
      | (refine Ob.mk ?_ ?_; rotate_left; cbv)
      | (refine Lex.mk (by decide +kernel) ?_; cbv)
    all_goals (try simp only [Unit.unit, Int.ofNat_lt, Int.ofNat_le, BE.val, IE.val, NE.val, ltB_iff, ltB_no, leB_iff, leB_no, Int.toNat_natCast, Nat.zero_add, Nat.add_zero, Nat.mul_one, forced, beq_iff_eq, beq_eq_false_iff_ne, bne_iff_ne, bne_eq_false_iff_eq] at *)
    all_goals first | with_reducible rfl | rfl
  · cases hs
end
section
theorem off_get {c k : Int} (h0 : 0 ≤ c ∧ c ≤ 3) (h1 : 0 ≤ k ∧ k ≤ 3) : 0 + c.toNat * 4 + k.toNat = c.toNat * 4 + k.toNat ∧ 0 + c.toNat * 4 + k.toNat < 16 ∧ k.toNat < 16 := by omega
theorem fn94 : FnOk Try.prog 94 Try.f94 (bodyOf Try.f94) := ⟨Try.func94, rfl, by rfl⟩
def s94 : Spec := hspec fun args H => match args, H with
  | [.a cs, .c (.i .i64 (.x c)), .c (.i .i64 (.x k))], [] => match cxsOf cs with
    | some q => some (Zm (offM (forced q) (c ()).toNat (k ()).toNat), [], [fun _ => q.length = 16 ∧ 0 ≤ c () ∧ c () ≤ 3 ∧ 0 ≤ k () ∧ k () ≤ 3])
    | none => none
  | _, _ => none
def E94 : Env := fun g => envGetL [(65, ⟨true, s65, none⟩)] g
theorem E94ok : EnvOk Try.prog E94 := envOk_cons ok65 (envOk_nil _)
set_option maxRecDepth 100000 in
set_option maxHeartbeats 1000000 in
theorem ok94 : Ok Try.prog 94 (s94) := ok_of_wpaH (E := E94) mixed tts E94ok fn94 fun args H v H' o hs ho => by
  split at hs
  · rename_i cs c k
    split at hs
    · rename_i q hq
      cases hs
      obtain ⟨hlen, hx0, hx1⟩ := ho.one
      obtain ⟨e, m, rfl, rfl⟩ := cx16 hq hlen
      clear hq hlen
      try simp only [Unit.unit] at hx0 hx1
      have hc4 : 0 ≤ c ⟨⟩ ∧ c ⟨⟩ < ((4 : Nat) : Int) := by omega
      have hk4 : 0 ≤ k ⟨⟩ ∧ k ⟨⟩ < ((4 : Nat) : Int) := by omega
      refine ⟨_, HLe.refl _, ?_⟩
      cbv
      repeat' first
        | (refine Br.mk (fun h => ?_) (fun h => ?_) <;> cbv)
        | (refine Ob.mk ?_ ?_; rotate_left; cbv)
        | (refine Lex.mk (by decide +kernel) ?_; cbv)
      all_goals try (first | exact hc4 | exact hk4)
      all_goals (try simp only [Unit.unit, Int.ofNat_lt, Int.ofNat_le, BE.val, IE.val, NE.val, ltB_iff, ltB_no, leB_iff, leB_no, Int.toNat_natCast, Nat.zero_add, Nat.add_zero, Nat.mul_one, forced, beq_iff_eq, beq_eq_false_iff_ne, bne_iff_ne, bne_eq_false_iff_eq] at *)
      all_goals first | with_reducible rfl | rfl | omega | exact ⟨by omega, by omega⟩ | (simp only [List.length_cons, List.length_nil]; omega) | (simp [offM, minusM, Nat.add_assoc]; done)
    · cases hs
  · cases hs
theorem fn98 : FnOk Try.prog 98 Try.f98 (bodyOf Try.f98) := ⟨Try.func98, rfl, by rfl⟩
def s98 : Spec := hspec fun args H => match args, H with
  | [.c (.p 0 (.l 0)), .c (.i .i64 (.x c)), .c (.i .i64 (.x k))], [some ⟨false, 0, x⟩] => match x.toCx with
    | some l => some (Zm (offM (l ()) (c ()).toNat (k ()).toNat), [none], [fun _ => (l ()).length = 16 ∧ 0 ≤ c () ∧ c () ≤ 3 ∧ 0 ≤ k () ∧ k () ≤ 3])
    | none => none
  | _, _ => none
def E98 : Env := fun g => envGetL [(71, ⟨true, s71, none⟩)] g
theorem E98ok : EnvOk Try.prog E98 := envOk_cons ok71 (envOk_nil _)
set_option maxRecDepth 100000 in
set_option maxHeartbeats 1000000 in
theorem ok98 : Ok Try.prog 98 (s98) := ok_of_wpaH (E := E98) mixed tts E98ok fn98 fun args H v H' o hs ho => by
  split at hs
  · rename_i c k x
    split at hs
    · rename_i l hl
      cases hs
      obtain ⟨hlen, hx0, hx1⟩ := ho.one
      try simp only [Unit.unit] at hlen hx0 hx1
      have hc4 : 0 ≤ c ⟨⟩ ∧ c ⟨⟩ < ((4 : Nat) : Int) := by omega
      have hk4 : 0 ≤ k ⟨⟩ ∧ k ⟨⟩ < ((4 : Nat) : Int) := by omega
      refine ⟨_, HLe.cons (BLe.cx hl) HLe.nil, ?_⟩
      cbv
      repeat' first
        | (refine Br.mk (fun h => ?_) (fun h => ?_) <;> cbv)
        | (refine Ob.mk ?_ ?_; rotate_left; cbv)
        | (refine Lex.mk (by decide +kernel) ?_; cbv)
      all_goals try (first | exact hc4 | exact hk4)
      all_goals (try simp only [Unit.unit, Int.ofNat_lt, Int.ofNat_le, BE.val, IE.val, NE.val, ltB_iff, ltB_no, leB_iff, leB_no, Int.toNat_natCast, Nat.zero_add, Nat.add_zero, Nat.mul_one, forced, beq_iff_eq, beq_eq_false_iff_ne, bne_iff_ne, bne_eq_false_iff_eq] at *)
      all_goals first | with_reducible rfl | rfl | omega | exact ⟨by omega, by omega⟩ | (rw [hlen]; omega) | (simp [offM, minusM, Nat.add_assoc]; done)
    · cases hs
  · cases hs
theorem fn64 : FnOk Try.prog 64 Try.f64 (bodyOf Try.f64) := ⟨Try.func64, rfl, by rfl⟩
def s64 : Spec := hspec fun args H => match args, H with
  | [.a cs], [] => match cxsOf cs with
    | some q => some (Zm (meanM ((forced q).getD 0 (0, 0)) ((forced q).getD 1 (0, 0)) ((forced q).getD 2 (0, 0)) ((forced q).getD 3 (0, 0))), [], [fun _ => q.length = 4])
    | none => none
  | _, _ => none
def E64 : Env := fun g => envGetL [(68, ⟨true, s68, none⟩), (69, ⟨true, s69, none⟩)] g
theorem E64ok : EnvOk Try.prog E64 := envOk_cons ok68 (envOk_cons ok69 (envOk_nil _))
set_option maxRecDepth 100000 in
set_option maxHeartbeats 1000000 in
theorem ok64 : Ok Try.prog 64 (s64) := ok_of_wpaH (E := E64) mixed tts E64ok fn64 fun args H v H' o hs ho => by
  split at hs
  · rename_i cs
    split at hs
    · rename_i q hq
      cases hs
      obtain hlen := ho.one
      obtain ⟨e, m, rfl, rfl⟩ := cx4 hq hlen
      clear hq hlen
      refine ⟨_, HLe.refl _, ?_⟩
      cbv
      repeat' first
        | (refine Br.mk (fun h => ?_) (fun h => ?_) <;> cbv)
        | (refine Ob.mk ?_ ?_; rotate_left; cbv)
        | (refine Lex.mk (by decide +kernel) ?_; cbv)
      all_goals (try simp only [Unit.unit, Int.ofNat_lt, Int.ofNat_le, BE.val, IE.val, NE.val, ltB_iff, ltB_no, leB_iff, leB_no, Int.toNat_natCast, Nat.zero_add, Nat.add_zero, Nat.mul_one, forced, beq_iff_eq, beq_eq_false_iff_ne, bne_iff_ne, bne_eq_false_iff_eq] at *)
      all_goals first | with_reducible rfl | rfl
    · cases hs
  · cases hs
theorem fn74 : FnOk Try.prog 74 Try.f74 (bodyOf Try.f74) := ⟨Try.func74, rfl, by rfl⟩
def s74 : Spec := hspec fun args H => match args, H with
  | [.a cs], [] => match cxsOf cs with
    | some q => some (Zm (meanM ((forced q).getD 0 (0, 0)) ((forced q).getD 1 (0, 0)) ((forced q).getD 2 (0, 0)) ((forced q).getD 3 (0, 0))), [], [fun _ => q.length = 4])
    | none => none
  | _, _ => none
def E74 : Env := fun g => envGetL [(77, ⟨true, s77, none⟩), (78, ⟨true, s78, none⟩)] g
theorem E74ok : EnvOk Try.prog E74 := envOk_cons ok77 (envOk_cons ok78 (envOk_nil _))
set_option maxRecDepth 100000 in
set_option maxHeartbeats 1000000 in
theorem ok74 : Ok Try.prog 74 (s74) := ok_of_wpaH (E := E74) mixed tts E74ok fn74 fun args H v H' o hs ho => by
  split at hs
  · rename_i cs
    split at hs
    · rename_i q hq
      cases hs
      obtain hlen := ho.one
      obtain ⟨e, m, rfl, rfl⟩ := cx4 hq hlen
      clear hq hlen
      refine ⟨_, HLe.refl _, ?_⟩
      cbv
      repeat' first
        | (refine Br.mk (fun h => ?_) (fun h => ?_) <;> cbv)
        | (refine Ob.mk ?_ ?_; rotate_left; cbv)
        | (refine Lex.mk (by decide +kernel) ?_; cbv)
        | (refine Loop.mk 70 ?_; cbv)
        | (refine Gen.same ?_; cbv)
      all_goals (try simp only [Unit.unit, Int.ofNat_lt, Int.ofNat_le, BE.val, IE.val, NE.val, ltB_iff, ltB_no, leB_iff, leB_no, Int.toNat_natCast, Nat.zero_add, Nat.add_zero, Nat.mul_one, forced, beq_iff_eq, beq_eq_false_iff_ne, bne_iff_ne, bne_eq_false_iff_eq] at *)
      all_goals first | with_reducible rfl | rfl
    · cases hs
  · cases hs
end
section
theorem fn43 : FnOk Try.prog 43 Try.f43 (bodyOf Try.f43) := ⟨Try.func43, rfl, by rfl⟩
def s43 : Spec := hspec fun args H => match args, H with
  | [.a cs, .c (.i .i64 (.x c))], [] => match cxsOf cs with
    | some q => some (Zm (meanO (forced q) (c ()).toNat), [], [fun _ => q.length = 16 ∧ 0 ≤ c () ∧ c () ≤ 3])
    | none => none
  | _, _ => none
def E43 : Env := fun g => envGetL [(94, ⟨true, s94, none⟩), (64, ⟨true, s64, none⟩)] g
theorem E43ok : EnvOk Try.prog E43 := envOk_cons ok94 (envOk_cons ok64 (envOk_nil _))
set_option maxRecDepth 100000 in
set_option maxHeartbeats 1000000 in
theorem ok43 : Ok Try.prog 43 (s43) := ok_of_wpaH (E := E43) mixed tts E43ok fn43 fun args H v H' o hs ho => by
  split at hs
  · rename_i cs c
    split at hs
    · rename_i q hq
      cases hs
      obtain ⟨hlen, hx0⟩ := ho.one
      obtain ⟨e, m, rfl, rfl⟩ := cx16 hq hlen
      clear hq hlen
      try simp only [Unit.unit] at hx0
      have hc : 0 ≤ c ⟨⟩ ∧ c ⟨⟩ ≤ 3 := by omega
      refine ⟨_, HLe.refl _, ?_⟩
      cbv
      repeat' first
        | (refine Br.mk (fun h => ?_) (fun h => ?_) <;> cbv)
        | (refine Ob.mk ?_ ?_; rotate_left; cbv)
        | (refine Lex.mk (by decide +kernel) ?_; cbv)
        | (refine Loop.mk 70 ?_; cbv)
        | (refine Gen.same ?_; cbv)
      all_goals try (first | exact ⟨rfl, hc.1, hc.2, by decide, by decide⟩ | exact ⟨hlen, hc.1, hc.2, by decide, by decide⟩ | exact hlen | exact ⟨rfl, hc.1, hc.2⟩)
      all_goals (try simp only [Unit.unit, Int.ofNat_lt, Int.ofNat_le, BE.val, IE.val, NE.val, ltB_iff, ltB_no, leB_iff, leB_no, Int.toNat_natCast, Nat.zero_add, Nat.add_zero, Nat.mul_one, forced, beq_iff_eq, beq_eq_false_iff_ne, bne_iff_ne, bne_eq_false_iff_eq] at *)
      all_goals first | with_reducible rfl | rfl | omega | decide
    · cases hs
  · cases hs
theorem fn55 : FnOk Try.prog 55 Try.f55 (bodyOf Try.f55) := ⟨Try.func55, rfl, by rfl⟩
def s55 : Spec := hspec fun args H => match args, H with
  | [.c (.p 0 (.l 0)), .c (.i .i64 (.x c))], [some ⟨false, 0, x⟩] => match x.toCx with
    | some l => some (Zm (meanO (l ()) (c ()).toNat), [none], [fun _ => (l ()).length = 16 ∧ 0 ≤ c () ∧ c () ≤ 3])
    | none => none
  | _, _ => none
def E55 : Env := fun g => envGetL [(98, ⟨true, s98, none⟩), (74, ⟨true, s74, none⟩)] g
theorem E55ok : EnvOk Try.prog E55 := envOk_cons ok98 (envOk_cons ok74 (envOk_nil _))
set_option maxRecDepth 100000 in
set_option maxHeartbeats 1000000 in
theorem ok55 : Ok Try.prog 55 (s55) := ok_of_wpaH (E := E55) mixed tts E55ok fn55 fun args H v H' o hs ho => by
  split at hs
  · rename_i c x
    split at hs
    · rename_i l hl
      cases hs
      obtain ⟨hlen, hx0⟩ := ho.one
      try simp only [Unit.unit] at hlen hx0
      have hc : 0 ≤ c ⟨⟩ ∧ c ⟨⟩ ≤ 3 := by omega
      refine ⟨_, HLe.cons (BLe.cx hl) HLe.nil, ?_⟩
      cbv
      repeat' first
        | (refine Br.mk (fun h => ?_) (fun h => ?_) <;> cbv)
        | (refine Ob.mk ?_ ?_; rotate_left; cbv)
        | (refine Lex.mk (by decide +kernel) ?_; cbv)
        | (refine Loop.mk 70 ?_; cbv)
        | (refine Gen.same ?_; cbv)
      all_goals try (first | exact ⟨rfl, hc.1, hc.2, by decide, by decide⟩ | exact ⟨hlen, hc.1, hc.2, by decide, by decide⟩ | exact hlen | exact ⟨rfl, hc.1, hc.2⟩)
      all_goals (try simp only [Unit.unit, Int.ofNat_lt, Int.ofNat_le, BE.val, IE.val, NE.val, ltB_iff, ltB_no, leB_iff, leB_no, Int.toNat_natCast, Nat.zero_add, Nat.add_zero, Nat.mul_one, forced, beq_iff_eq, beq_eq_false_iff_ne, bne_iff_ne, bne_eq_false_iff_eq] at *)
      all_goals first | with_reducible rfl | rfl | omega | decide
    · cases hs
  · cases hs
end
section
theorem fn42 : FnOk Try.prog 42 Try.f42 (bodyOf Try.f42) := ⟨Try.func42, rfl, by rfl⟩
def s42 : Spec := hspec fun args H => match args, H with
  | [.a cs, .c (.i .i64 (.x c))], [] => match cxsOf cs with
    | some q => some (.t [vI ((grS (forced q) (c ()).toNat 3).1 : Nat), F (grS (forced q) (c ()).toNat 3).2], [], [fun _ => q.length = 16 ∧ 0 ≤ c () ∧ c () ≤ 3])
    | none => none
  | _, _ => none
def E42 : Env := fun g => envGetL [(94, ⟨true, s94, none⟩), (89, ⟨true, s89, none⟩)] g
theorem E42ok : EnvOk Try.prog E42 := envOk_cons ok94 (envOk_cons ok89 (envOk_nil _))
set_option maxRecDepth 100000 in
set_option maxHeartbeats 1000000 in
theorem ok42 : Ok Try.prog 42 (s42) := ok_of_wpaH (E := E42) mixed tts E42ok fn42 fun args H v H' o hs ho => by
  split at hs
  · rename_i cs c
    split at hs
    · rename_i q hq
      cases hs
      obtain ⟨hlen, hx0⟩ := ho.one
      obtain ⟨e, m, rfl, rfl⟩ := cx16 hq hlen
      clear hq hlen
      try simp only [Unit.unit] at hx0
      have hc : 0 ≤ c ⟨⟩ ∧ c ⟨⟩ ≤ 3 := by omega
      refine ⟨_, HLe.refl _, ?_⟩
      cbv
      repeat' first
        | (refine Br.mk (fun h => ?_) (fun h => ?_) <;> cbv)
        | (refine Ob.mk ?_ ?_; rotate_left; cbv)
        | (refine Lex.mk (by decide +kernel) ?_; cbv)
        | (refine Loop.mk 70 ?_; cbv)
        | (refine Gen.same ?_; cbv)
      all_goals try (first | exact ⟨rfl, hc.1, hc.2, by decide, by decide⟩ | exact ⟨hlen, hc.1, hc.2, by decide, by decide⟩ | exact hlen | exact ⟨rfl, hc.1, hc.2⟩)
      all_goals (try simp only [Unit.unit, Int.ofNat_lt, Int.ofNat_le, BE.val, IE.val, NE.val, ltB_iff, ltB_no, leB_iff, leB_no, Int.toNat_natCast, Nat.zero_add, Nat.add_zero, Nat.mul_one, forced, beq_iff_eq, beq_eq_false_iff_ne, bne_iff_ne, bne_eq_false_iff_eq] at *)
      all_goals first | with_reducible rfl | (simp_all [grS, forced]; done)
    · cases hs
  · cases hs
theorem fn54 : FnOk Try.prog 54 Try.f54 (bodyOf Try.f54) := ⟨Try.func54, rfl, by rfl⟩
def s54 : Spec := hspec fun args H => match args, H with
  | [.c (.p 0 (.l 0)), .c (.i .i64 (.x c))], [some ⟨false, 0, x⟩] => match x.toCx with
    | some l => some (.t [vI ((grS (l ()) (c ()).toNat 3).1 : Nat), F (grS (l ()) (c ()).toNat 3).2], [none], [fun _ => (l ()).length = 16 ∧ 0 ≤ c () ∧ c () ≤ 3])
    | none => none
  | _, _ => none
def E54 : Env := fun g => envGetL [(98, ⟨true, s98, none⟩), (48, ⟨true, s48, none⟩)] g
theorem E54ok : EnvOk Try.prog E54 := envOk_cons ok98 (envOk_cons ok48 (envOk_nil _))
set_option maxRecDepth 100000 in
set_option maxHeartbeats 1000000 in
theorem ok54 : Ok Try.prog 54 (s54) := ok_of_wpaH (E := E54) mixed tts E54ok fn54 fun args H v H' o hs ho => by
  split at hs
  · rename_i c x
    split at hs
    · rename_i l hl
      cases hs
      obtain ⟨hlen, hx0⟩ := ho.one
      try simp only [Unit.unit] at hlen hx0
      have hc : 0 ≤ c ⟨⟩ ∧ c ⟨⟩ ≤ 3 := by omega
      refine ⟨_, HLe.cons (BLe.cx hl) HLe.nil, ?_⟩
      cbv
      repeat' first
        | (refine Br.mk (fun h => ?_) (fun h => ?_) <;> cbv)
        | (refine Ob.mk ?_ ?_; rotate_left; cbv)
        | (refine Lex.mk (by decide +kernel) ?_; cbv)
        | (refine Loop.mk 70 ?_; cbv)
        | (refine Gen.same ?_; cbv)
      all_goals try (first | exact ⟨rfl, hc.1, hc.2, by decide, by decide⟩ | exact ⟨hlen, hc.1, hc.2, by decide, by decide⟩ | exact hlen | exact ⟨rfl, hc.1, hc.2⟩)
      all_goals (try simp only [Unit.unit, Int.ofNat_lt, Int.ofNat_le, BE.val, IE.val, NE.val, ltB_iff, ltB_no, leB_iff, leB_no, Int.toNat_natCast, Nat.zero_add, Nat.add_zero, Nat.mul_one, forced, beq_iff_eq, beq_eq_false_iff_ne, bne_iff_ne, bne_eq_false_iff_eq] at *)
      all_goals first | with_reducible rfl | (simp_all [grS]; done)
    · cases hs
  · cases hs
end
section
theorem fn92 : FnOk Try.prog 92 Try.f92 (bodyOf Try.f92) := ⟨Try.func92, rfl, by rfl⟩
def s92 : Spec := hspec fun args H => match args, H with
  | [.a cs], [] => match cxsOf cs with
    | some q => some (vB (okS (forced q)), [], [fun _ => q.length = 16])
    | none => none
  | _, _ => none
def E92 : Env := fun g => envGetL [(59, ⟨true, s59, none⟩)] g
theorem E92ok : EnvOk Try.prog E92 := envOk_cons ok59 (envOk_nil _)
set_option maxRecDepth 100000 in
set_option maxHeartbeats 4000000 in
theorem ok92 : Ok Try.prog 92 (s92) := ok_of_wpaH (E := E92) mixed tts E92ok fn92 fun args H v H' o hs ho => by
  split at hs
  · rename_i cs
    split at hs
    · rename_i q hq
      cases hs
      obtain hlen := ho.one
      obtain ⟨e, m, rfl, rfl⟩ := cx16 hq hlen
      clear hq hlen
      refine ⟨_, HLe.refl _, ?_⟩
      cbv
      repeat' first
        | (refine Br.mk (fun h => ?_) (fun h => ?_) <;> cbv)
        | (refine Ob.mk ?_ ?_; rotate_left; cbv)
        | (refine Lex.mk (by decide +kernel) ?_; cbv)
        | (refine Loop.mk 70 ?_; cbv)
        | (refine Gen.same ?_; cbv)
      all_goals (try simp only [Unit.unit, Int.ofNat_lt, Int.ofNat_le, BE.val, IE.val, NE.val, ltB_iff, ltB_no, leB_iff, leB_no, Int.toNat_natCast, Nat.zero_add, Nat.add_zero, Nat.mul_one, forced, beq_iff_eq, beq_eq_false_iff_ne, bne_iff_ne, bne_eq_false_iff_eq] at *)
      all_goals first | with_reducible rfl | (simp_all [okS, allI, forced]; done)
    · cases hs
  · cases hs
theorem fn58 : FnOk Try.prog 58 Try.f58 (bodyOf Try.f58) := ⟨Try.func58, rfl, by rfl⟩
def s58 : Spec := hspec fun args H => match args, H with
  | [.c (.p 0 (.l 0))], [some ⟨false, 0, x⟩] => match x.toCx with
    | some l => some (vB (okS (l ())), [none], [fun _ => (l ()).length = 16])
    | none => none
  | _, _ => none
def E58 : Env := fun g => envGetL [(62, ⟨true, s62, none⟩)] g
theorem E58ok : EnvOk Try.prog E58 := envOk_cons ok62 (envOk_nil _)
set_option maxRecDepth 100000 in
set_option maxHeartbeats 4000000 in
theorem ok58 : Ok Try.prog 58 (s58) := ok_of_wpaH (E := E58) mixed tts E58ok fn58 fun args H v H' o hs ho => by
  split at hs
  · rename_i x
    split at hs
    · rename_i l hl
      cases hs
      obtain hlen := ho.one
      try simp only [Unit.unit] at hlen 
      refine ⟨_, HLe.cons (BLe.cx hl) HLe.nil, ?_⟩
      cbv
      repeat' first
        | (refine Br.mk (fun h => ?_) (fun h => ?_) <;> cbv)
        | (refine Ob.mk ?_ ?_; rotate_left; cbv)
        | (refine Lex.mk (by decide +kernel) ?_; cbv)
        | (refine Loop.mk 70 ?_; cbv)
        | (refine Gen.same ?_; cbv)
      all_goals (try simp only [Unit.unit, Int.ofNat_lt, Int.ofNat_le, BE.val, IE.val, NE.val, ltB_iff, ltB_no, leB_iff, leB_no, Int.toNat_natCast, Nat.zero_add, Nat.add_zero, Nat.mul_one, forced, beq_iff_eq, beq_eq_false_iff_ne, bne_iff_ne, bne_eq_false_iff_eq] at *)
      all_goals first | with_reducible rfl | omega | (simp_all [okS, allI]; done)
    · cases hs
  · cases hs
end
section
theorem fn52 : FnOk Try.prog 52 Try.f52 (bodyOf Try.f52) := ⟨Try.func52, rfl, by rfl⟩
def s52 : Spec := hspec fun args H => match args, H with
  | [.c (.i .i64 (.x a)), .c (.i .i64 (.x lo)), .c (.i .i64 (.x hi))], [] => some (vB (inI (a ()) (lo ()) (hi ())), [], [])
  | _, _ => none
theorem ok52 : Ok Try.prog 52 (s52) := ok_of_wpaH (E := envGetL []) mixed tts (envOk_nil _) fn52 fun args H v H' o hs ho => by
  split at hs
  · rename_i a lo hi
    cases hs
    refine ⟨_, HLe.refl _, ?_⟩
    cbv
    repeat' first
      | (refine Br.mk (fun h => ?_) (fun h => ?_) <;> cbv)
      | (refine Ob.mk ?_ ?_; rotate_left; cbv)
      | (refine Lex.mk (by decide +kernel) ?_; cbv)
    all_goals (try simp only [Unit.unit, Int.ofNat_lt, Int.ofNat_le, BE.val, IE.val, NE.val, ltB_iff, ltB_no, leB_iff, leB_no, Int.toNat_natCast, Nat.zero_add, Nat.add_zero, Nat.mul_one, forced, beq_iff_eq, beq_eq_false_iff_ne, bne_iff_ne, bne_eq_false_iff_eq] at *)
    all_goals first | with_reducible rfl | (simp_all [inI, leB]; done) | (simp_all [inI, leB]; omega)
  · cases hs
theorem fn97 : FnOk Try.prog 97 Try.f97 (bodyOf Try.f97) := ⟨Try.func97, rfl, by rfl⟩
def s97 : Spec := hspec fun args H => match args, H with
  | [.c (.i .i64 (.x a))], [] => some (vB (inI (a ()) 0 3), [], [])
  | _, _ => none
def E97 : Env := fun g => envGetL [(52, ⟨true, s52, none⟩)] g
theorem E97ok : EnvOk Try.prog E97 := envOk_cons ok52 (envOk_nil _)
theorem ok97 : Ok Try.prog 97 (s97) := ok_of_wpaH (E := E97) mixed tts E97ok fn97 fun args H v H' o hs ho => by
  split at hs
  · rename_i a
    cases hs
    refine ⟨_, HLe.refl _, ?_⟩
    cbv
    repeat' first
      | (refine Br.mk (fun h => ?_) (fun h => ?_) <;> cbv)
      | (refine Ob.mk ?_ ?_; rotate_left; cbv)
      | (refine Lex.mk (by decide +kernel) ?_; cbv)
    all_goals (try simp only [Unit.unit, Int.ofNat_lt, Int.ofNat_le, BE.val, IE.val, NE.val, ltB_iff, ltB_no, leB_iff, leB_no, Int.toNat_natCast, Nat.zero_add, Nat.add_zero, Nat.mul_one, forced, beq_iff_eq, beq_eq_false_iff_ne, bne_iff_ne, bne_eq_false_iff_eq] at *)
    all_goals first | with_reducible rfl | rfl
  · cases hs
theorem fn51 : FnOk Try.prog 51 Try.f51 (bodyOf Try.f51) := ⟨Try.func51, rfl, by rfl⟩
def s51 : Spec := hspec fun args H => match args, H with
  | [.c (.f .f32 a)], [] => some (vB (isIn (a ()) 0 1166016512), [], [])
  | _, _ => none
theorem ok51 : Ok Try.prog 51 (s51) := ok_of_wpaH (E := envGetL []) mixed tts (envOk_nil _) fn51 fun args H v H' o hs ho => by
  split at hs
  · rename_i a
    cases hs
    refine ⟨_, HLe.refl _, ?_⟩
    cbv
    repeat' first
      | (refine Br.mk (fun h => ?_) (fun h => ?_) <;> cbv)
      | (refine Ob.mk ?_ ?_; rotate_left; cbv)
      | (refine Lex.mk (by decide +kernel) ?_; cbv)
    all_goals (try simp only [Unit.unit, Int.ofNat_lt, Int.ofNat_le, BE.val, IE.val, NE.val, ltB_iff, ltB_no, leB_iff, leB_no, Int.toNat_natCast, Nat.zero_add, Nat.add_zero, Nat.mul_one, forced, beq_iff_eq, beq_eq_false_iff_ne, bne_iff_ne, bne_eq_false_iff_eq] at *)
    all_goals first | with_reducible rfl | (simp_all [isIn]; done)
  · cases hs
theorem fn93 : FnOk Try.prog 93 Try.f93 (bodyOf Try.f93) := ⟨Try.func93, rfl, by rfl⟩
def s93 : Spec := hspec fun args H => match args, H with
  | [.c (.sl 0 (.x o) (.x n))], [some ⟨false, 0, x⟩] => match x.toIt .i64 with
    | some l => some (.c (.b (.l true)), [none], [fun _ => o () = 0 ∧ n () = 1 ∧ (l ()).length = 1 ∧ 0 ≤ (l ()).getD 0 0 ∧ (l ()).getD 0 0 ≤ 3])
    | none => none
  | _, _ => none
set_option maxRecDepth 100000 in
set_option maxHeartbeats 1000000 in
theorem ok93 : Ok Try.prog 93 (s93) := ok_of_wpaH (E := envGetL []) mixed tts (envOk_nil _) fn93 fun args H v H' o hs ho => by
  split at hs
  · rename_i o n x
    split at hs
    · rename_i l hl
      cases hs
      obtain ⟨ho, hn, hlen, h0, h3⟩ := ho.one
      try simp only [Unit.unit] at ho hn hlen h0 h3
      have t1 : ltB 0 (n ⟨⟩ : Int) = true := by rw [ltB_iff, hn]; decide
      have t2 : ltB 1 (n ⟨⟩ : Int) = false := by rw [ltB_no, hn]; decide
      have t3 : ltB ((l ⟨⟩).getD (o ⟨⟩ + 0) 0) 0 = false := by rw [ho, ltB_no]; exact Int.not_lt.2 h0
      have t4 : ltB 3 ((l ⟨⟩).getD (o ⟨⟩ + 0) 0) = false := by rw [ho, ltB_no]; exact Int.not_lt.2 h3
      have t5 : (0 : Int) ≤ 0 ∧ (0 : Int) < (n ⟨⟩ : Int) := by rw [hn]; decide
      have t6 : o ⟨⟩ + 0 < (l ⟨⟩).length := by rw [ho, hlen]; decide
      refine ⟨_, HLe.cons (BLe.it hl) HLe.nil, ?_⟩
      cbv
      refine Loop.mk 70 ?_
      cbv
      refine Gen.same ?_
      cbv
      refine Br.t t1 ?_
      cbv
      repeat' (refine Ob.mk ?_ ?_; (focus (first | exact t5 | exact t6)); cbv)
      refine Br.f t3 ?_
      cbv
      refine Br.f t4 ?_
      cbv
      refine Gen.same ?_
      cbv
      refine Br.f t2 ?_
      cbv
      repeat' (refine Ob.mk ?_ ?_; rotate_left; cbv)
      all_goals (try simp only [Unit.unit, Int.ofNat_lt, Int.ofNat_le, BE.val, IE.val, NE.val, ltB_iff, ltB_no, leB_iff, leB_no, Int.toNat_natCast, Nat.zero_add, Nat.add_zero, Nat.mul_one, forced, beq_iff_eq, beq_eq_false_iff_ne, bne_iff_ne, bne_eq_false_iff_eq] at *)
      all_goals first | with_reducible rfl | rfl
    · cases hs
  · cases hs
theorem fn40 : FnOk Try.prog 40 Try.f40 (bodyOf Try.f40) := ⟨Try.func40, rfl, by rfl⟩
def s40 : Spec := hspec fun args H => match args, H with
  | [.a cs, .c (.sl 0 (.x o) (.x n))], [some ⟨false, 0, x⟩] => match cxsOf cs, x.toIt .i64 with
    | some q, some l => some (vI (if okS (forced q) = true then 0 else 1), [none], [fun _ => q.length = 16, fun _ => o () = 0 ∧ n () = 1 ∧ (l ()).length = 1 ∧ 0 ≤ (l ()).getD 0 0 ∧ (l ()).getD 0 0 ≤ 3])
    | _, _ => none
  | _, _ => none
def E40 : Env := fun g => envGetL [(92, ⟨true, s92, none⟩), (93, ⟨true, s93, none⟩)] g
theorem E40ok : EnvOk Try.prog E40 := envOk_cons ok92 (envOk_cons ok93 (envOk_nil _))
set_option maxRecDepth 100000 in
set_option maxHeartbeats 1000000 in
theorem ok40 : Ok Try.prog 40 (s40) := ok_of_wpaH (E := E40) mixed tts E40ok fn40 fun args H v H' o hs ho => by
  split at hs
  · rename_i cs o n x
    split at hs
    · rename_i q l hq hl
      cases hs
      obtain ⟨hlen, hw⟩ := ho.two
      obtain ⟨e, m, rfl, rfl⟩ := cx16 hq hlen
      clear hq hlen
      refine ⟨_, HLe.cons (BLe.it hl) HLe.nil, ?_⟩
      cbv
      repeat' first
        | (refine Br.mk (fun h => ?_) (fun h => ?_) <;> cbv)
        | (refine Ob.mk ?_ ?_; rotate_left; cbv)
        | (refine Lex.mk (by decide +kernel) ?_; cbv)
      all_goals try (first | exact hw | exact rfl)
      all_goals (try simp only [Unit.unit, Int.ofNat_lt, Int.ofNat_le, BE.val, IE.val, NE.val, ltB_iff, ltB_no, leB_iff, leB_no, Int.toNat_natCast, Nat.zero_add, Nat.add_zero, Nat.mul_one, forced, beq_iff_eq, beq_eq_false_iff_ne, bne_iff_ne, bne_eq_false_iff_eq] at *)
      all_goals first | with_reducible rfl | (simp_all; done)
    · cases hs
  · cases hs
theorem fn53 : FnOk Try.prog 53 Try.f53 (bodyOf Try.f53) := ⟨Try.func53, rfl, by rfl⟩
def s53 : Spec := hspec fun args H => match args, H with
  | [.c (.p 0 (.l 0)), .c (.i .i64 (.x c)), .c (.b (.x fine))], [some ⟨false, 0, x⟩] => match x.toCx with
    | some l => some (vI (if okS (l ()) = true then if inI (c ()) 0 3 = true ∧ fine () = true then 0 else 2 else 1), [none], [fun _ => (l ()).length = 16])
    | none => none
  | _, _ => none
def E53 : Env := fun g => envGetL [(58, ⟨true, s58, none⟩), (97, ⟨true, s97, none⟩)] g
theorem E53ok : EnvOk Try.prog E53 := envOk_cons ok58 (envOk_cons ok97 (envOk_nil _))
set_option maxRecDepth 100000 in
set_option maxHeartbeats 1000000 in
theorem ok53 : Ok Try.prog 53 (s53) := ok_of_wpaH (E := E53) mixed tts E53ok fn53 fun args H v H' o hs ho => by
  split at hs
  · rename_i c fine x
    split at hs
    · rename_i l hl
      cases hs
      have hlen := ho.one
      refine ⟨_, HLe.cons (BLe.cx hl) HLe.nil, ?_⟩
      cbv
      repeat' first
        | (refine Br.mk (fun h => ?_) (fun h => ?_) <;> cbv)
        | (refine Ob.mk ?_ ?_; rotate_left; cbv)
        | (refine Lex.mk (by decide +kernel) ?_; cbv)
      all_goals try (first | exact hlen)
      all_goals (try simp only [Unit.unit, Int.ofNat_lt, Int.ofNat_le, BE.val, IE.val, NE.val, ltB_iff, ltB_no, leB_iff, leB_no, Int.toNat_natCast, Nat.zero_add, Nat.add_zero, Nat.mul_one, forced, beq_iff_eq, beq_eq_false_iff_ne, bne_iff_ne, bne_eq_false_iff_eq] at *)
      all_goals first | with_reducible rfl | (simp_all; done)
    · cases hs
  · cases hs
end
end Go.Proofs.Ytanndlifpojenaa.Sh
