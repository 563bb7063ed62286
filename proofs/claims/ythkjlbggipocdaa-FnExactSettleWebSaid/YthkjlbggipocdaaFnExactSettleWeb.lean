/- FnExactSettleWeb: for every input the law returns true, and the input reads as it did. No condition. -/
import Derived.Test.YthkjlbggipocdaaRows
import Derived.Test.YthkjlbggipocdaaVz
import Derived.Test.YthkjlbggipocdaaVp
set_option linter.unusedVariables false
set_option linter.unusedSimpArgs false
set_option linter.unusedSectionVars false
namespace Go.Proofs.Ythkjlbggipocdaa.Sh
open Go Go.Proofs
theorem fn22 : FnOk Try.prog 22 Try.f22 (bodyOf Try.f22) := ⟨Try.func22, rfl, by rfl⟩
def sLaw22 : Spec := hspec fun args H => match args, H with
  | [.a [.f .f32 _, .f .f32 _, .f .f32 _, .sl 0 (.x o) (.x n)], .c (.f .f32 _), .c (.f .f32 _), .c (.i .i64 (.x _))], [some ⟨false, 0, x⟩] => match x.toFl with
    | some l => some (.c (.b (.l true)), [none], [fun _ => o () = 0 ∧ (l ()).length = 3 * n () ∧ n () ≤ 9223372036854775807])
    | _ => none
  | [.a [.f .f32 _, .f .f32 _, .f .f32 _, .sn], .c (.f .f32 _), .c (.f .f32 _), .c (.i .i64 (.x _))], [] => some (.c (.b (.l true)), [], [])
  | _, _ => none
def E22 : Env := fun g => envGetL [(48, ⟨true, s48, none⟩), (50, ⟨true, s50, none⟩), (52, ⟨true, s52, none⟩), (61, ⟨false, s61, none⟩), (64, ⟨true, s64, none⟩), (44, ⟨true, sNo, some (s44T, s44F)⟩), (45, ⟨true, sNo, some (s45T, s45F)⟩)] g
theorem E22ok : EnvOk Try.prog E22 := envOk_cons ok48 (envOk_cons ok50 (envOk_cons ok52 (envOk_cons ok61 (envOk_cons ok64 (envOk_alt ok44T ok44F (envOk_alt ok45T ok45F (envOk_nil _)))))))
set_option maxRecDepth 100000 in
set_option maxHeartbeats 2000000 in
theorem ok22 : Ok Try.prog 22 (sLaw22) := ok_of_wpaH (E := E22) mixed tts E22ok fn22 fun args H v H' o hs ho => by
  split at hs
  · rename_i st sp fd o n p1 p2 p3 x
    split at hs
    · rename_i l hl
      cases hs
      obtain ⟨ho0, hlen, hbig⟩ := ho.one
      simp only [Unit.unit] at ho0 hlen hbig
      refine ⟨_, HLe.cons (BLe.fl hl) HLe.nil, ?_⟩
      cbv
      refine Ob.mk ⟨by decide, by decide, hbig⟩ ?_
      cbv
      refine Br.mk (fun hz => ?_) (fun hz => ?_)
      · cbv
        repeat' (refine Ob.mk ?_ ?_; rotate_left; cbv)
        all_goals (try simp only [Unit.unit, Int.ofNat_lt, Int.ofNat_le, BE.val, IE.val, NE.val, ltB_iff, ltB_no, leB_iff, leB_no, Int.toNat_natCast, Nat.zero_add, Nat.add_zero, Nat.mul_one, forced, beq_iff_eq, beq_eq_false_iff_ne, bne_iff_ne, bne_eq_false_iff_eq] at *)
        all_goals first | with_reducible rfl | trivial
      · have hn : n ⟨⟩ ≤ 1048576 := sz_ok (ltB_no.1 hz)
        have hw : o ⟨⟩ = 0 ∧ (l ⟨⟩).length = 3 * n ⟨⟩ ∧ n ⟨⟩ ≤ 1048576 := ⟨ho0, hlen, hn⟩
        clear hz
        cbv
        repeat' first
          | (refine alt_t (by assumption) ?_; cbv)
          | (refine alt_f (by assumption) ?_; cbv)
          | (refine alt_b (fun h => ?_) (fun h => ?_) <;> cbv)
          | (refine Br.mk (fun h => ?_) (fun h => ?_) <;> cbv)
          | (refine Ob.mk ?_ ?_; rotate_left; cbv)
          | (refine Lex.all ?_; cbv)
          | (refine Both.mk ?_ ?_ <;> cbv)
        all_goals (try simp only [Unit.unit, Int.ofNat_lt, Int.ofNat_le, BE.val, IE.val, NE.val, ltB_iff, ltB_no, leB_iff, leB_no, Int.toNat_natCast, Nat.zero_add, Nat.add_zero, Nat.mul_one, forced, beq_iff_eq, beq_eq_false_iff_ne, bne_iff_ne, bne_eq_false_iff_eq] at *)
        all_goals (try simp only [sameW_self, sameSps_self, sameF_refl, held_marks, beq_self_eq_true, bne_self_eq_false, Bool.and_self, Bool.not_true, Bool.not_false, Bool.true_and] at *)
        all_goals first | with_reducible rfl | exact hw | exact ⟨by trivial, hlen, hn⟩ | (refine ⟨by trivial, ?_, by omega⟩; first | exact hlen | exact marks_full hlen | exact rfl | exact marks_full rfl | exact (runW_len _ _ _ _ _ _ (by first | exact hlen | rfl) _) | exact marks_full (runW_len _ _ _ _ _ _ (by first | exact hlen | rfl) _)) | (simp_all; done) | grind
    · cases hs
  · rename_i st sp fd p1 p2 p3
    cases hs
    refine ⟨_, HLe.nil, ?_⟩
    cbv
    refine Ob.mk ⟨by decide, by decide⟩ ?_
    cbv
    refine Br.mk (fun hz => ?_) (fun hz => ?_)
    · exact absurd (ltB_iff.1 hz) (by decide)
    · clear hz
      cbv
      repeat' first
        | (refine alt_t (by assumption) ?_; cbv)
        | (refine alt_f (by assumption) ?_; cbv)
        | (refine alt_b (fun h => ?_) (fun h => ?_) <;> cbv)
        | (refine Br.mk (fun h => ?_) (fun h => ?_) <;> cbv)
        | (refine Ob.mk ?_ ?_; rotate_left; cbv)
        | (refine Lex.all ?_; cbv)
        | (refine Both.mk ?_ ?_ <;> cbv)
      all_goals (try simp only [Unit.unit, Int.ofNat_lt, Int.ofNat_le, BE.val, IE.val, NE.val, ltB_iff, ltB_no, leB_iff, leB_no, Int.toNat_natCast, Nat.zero_add, Nat.add_zero, Nat.mul_one, forced, beq_iff_eq, beq_eq_false_iff_ne, bne_iff_ne, bne_eq_false_iff_eq] at *)
      all_goals (try simp only [sameW_self, sameSps_self, sameF_refl, held_marks, beq_self_eq_true, bne_self_eq_false, Bool.and_self, Bool.not_true, Bool.not_false, Bool.true_and] at *)
      all_goals first | with_reducible rfl | exact ⟨rfl, rfl, by decide⟩ | (refine ⟨by trivial, ?_, by omega⟩; first | exact hlen | exact marks_full hlen | exact rfl | exact marks_full rfl | exact (runW_len _ _ _ _ _ _ (by first | exact hlen | rfl) _) | exact marks_full (runW_len _ _ _ _ _ _ (by first | exact hlen | rfl) _)) | (simp_all; done) | grind
  · cases hs
end Go.Proofs.Ythkjlbggipocdaa.Sh
namespace Go.Proofs.Ythkjlbggipocdaa
open Go Go.Proofs.Ythkjlbggipocdaa.Sh Go.ChangeShapes Go.WideShapes Go.RowKit
theorem own : ownKnob Try.prog.godebug = none := by kernel_rfl
theorem laid : laidOutB Try.prog = true := by kernel_rfl
theorem k2 : kindsOf Try.prog 2 = some (false, [.i .i64]) := by kernel_rfl
theorem k24 : kindsOf Try.prog 24 = some (false, [.f .f32]) := by kernel_rfl
@[irreducible] noncomputable def fs57 : Array Field := match Try.prog.underlying 57 with | some (.struct fs) => fs | _ => #[]
theorem u57 : Try.prog.underlying 57 = some (.struct fs57) := by kernel_rfl
theorem ct57 : Try.prog.cellTypes Try.prog.depth 57 = some [24, 24, 24, 55] := by kernel_rfl
theorem n57 : Try.prog.cellsOf 57 = 4 := by kernel_rfl
theorem k24c : kCell Try.prog 24 = some (.f .f32) := by kernel_rfl
theorem u55 : Try.prog.underlying 55 = some (.slice 130) := by kernel_rfl
theorem fb57 : (match fs57[3]? with | some f => Nat.beq f.type 55 && Nat.beq f.offset 3 | none => false) = true := by kernel_rfl
theorem c55 : Try.prog.cellsOf 55 = 1 := by kernel_rfl
theorem kT130 : kT Try.prog 3 130 = some [.f .f32, .f .f32, .f .f32] := by kernel_rfl
theorem c130 : Try.prog.cellsOf 130 = 3 := by kernel_rfl
theorem holds_two {p q : Unit → Prop} (h : p ()) (k : q ()) : holds [p, q] := fun r hr => by
  rcases List.mem_cons.1 hr with rfl | hr
  · exact h
  · rw [List.mem_singleton] at hr; subst hr; exact k
theorem ls22 : LawSpec Rows.fnExactSettleWebSpec Try.f22.params.size := by
  refine ⟨rfl, fun H ds h => ?_⟩
  rw [show Try.f22.params.size = 4 from rfl] at h
  match ds, h with
  | [_, _, _, _], _ => exact ⟨rfl, rfl, rfl⟩
set_option maxRecDepth 100000 in
theorem lift22 (os : Os) (started : os.Started) (H : Type) (enc : TypeId × Value → H) :
    ReturnsInHanded {} Try.checked os 22 .any (Rows.fnExactSettleWebSpec.pre6 enc Try.prog Try.f22 Rows.fnExactSettleWebRow.domain false) (Rows.fnExactSettleWebSpec.post enc Try.prog Try.f22 false true false false) := by
  refine law_lifted (C := Try.checked) own started (by kernel_rfl) fn22 ls22 (tb := 4) rfl (by kernel_rfl) (by kernel_rfl) laid ok22
    (ChangeSpec.witness6 (enc := enc) (C := Try.checked) false ⟨#[], #[.agg #[.float .f32 0, .float .f32 0, .float .f32 0, .slice none 0 0], .float .f32 0, .float .f32 0, .int .i64 0], []⟩ 8 (by kernel_rfl) (by kernel_rfl) (by kernel_rfl) (by kernel_rfl)) ?_
  intro W base args ds p hval hA
  have hl := (trodAll_len hA).2
  rw [show Try.f22.params.toList = [57, 24, 24, 2] from rfl] at hl hval hA
  match args, hl with
  | [v0, v1, v2, v3], _ =>
    obtain ⟨d0, p0, t0⟩ := trodAll_at hA 0 (t := 57) (v := v0) rfl rfl
    obtain ⟨a00, a01, a02, s0, rfl, hv0, e0, q0, r0⟩ := web_open (u := 24) (ts := 55) u57 ct57 n57 k24c u55 fb57 c55 (hval 0 57 v0 rfl rfl) t0
    obtain ⟨a1, rfl⟩ := okWide_kinds k24 (hval 1 24 v1 rfl rfl)
    obtain ⟨a2, rfl⟩ := okWide_kinds k24 (hval 2 24 v2 rfl rfl)
    obtain ⟨a3, rfl⟩ := okWide_kinds k2 (hval 3 2 v3 rfl rfl)
    rcases floats_open u55 kT130 (fun k hk => by simpa using hk) c130 hv0 r0 with rfl | ⟨loc0, L0, len0, hB0, hL0, hlen0, hs0⟩
    · exact ⟨[.a [.f .f32 fun _ => a00, .f .f32 fun _ => a01, .f .f32 fun _ => a02, .sn], .c (.f .f32 fun _ => a1), .c (.f .f32 fun _ => a2), .c (.i .i64 (.x fun _ => a3))], [], [], [], fun _ => ⟨0, 0, 0, 0⟩, rfl, fun q hq => by simp at hq, hrel_nil _ _ _, ⟨⟨_, rfl, ⟨_, rfl, .inl rfl⟩, ⟨_, rfl, .inl rfl⟩, ⟨_, rfl, .inl rfl⟩, rfl, trivial⟩, ⟨_, rfl, .inl rfl⟩, ⟨_, rfl, .inl rfl⟩, rfl, trivial⟩⟩
    · exact ⟨[.a [.f .f32 fun _ => a00, .f .f32 fun _ => a01, .f .f32 fun _ => a02, .sl 0 (.x fun _ => 0) (.x fun _ => len0)], .c (.f .f32 fun _ => a1), .c (.f .f32 fun _ => a2), .c (.i .i64 (.x fun _ => a3))], [some ⟨false, 0, .fl fun _ => L0⟩], _, _, fun _ => loc0, rfl,
        holds_mk ⟨rfl, by simp only [List.length_cons, List.length_nil] at hL0; show L0.length = 3 * len0; omega, hlen0⟩, hrel_ro1 hB0 rfl, ⟨⟨_, rfl, ⟨_, rfl, .inl rfl⟩, ⟨_, rfl, .inl rfl⟩, ⟨_, rfl, .inl rfl⟩, hs0 (fun _ => loc0) 1 0 (.x fun _ => len0) (by decide) rfl rfl, trivial⟩, ⟨_, rfl, .inl rfl⟩, ⟨_, rfl, .inl rfl⟩, rfl, trivial⟩⟩
theorem jf22 : joinedFacts Try.prog 22 Try.f22 Rows.fnExactSettleWebSpec Rows.fnExactSettleWebRow = true := by
  unfold joinedFacts
  exact andT (andT (andT (andT (andT (andT (andT (andT (andT (andT (andT (andT (andT (andT (andT (andT (andT (andT (andT (andT (andT (andT (andT (andT (andT (andT (andT (andT (andT (andT (andT (by kernel_rfl) (by kernel_rfl)) (by kernel_rfl)) (by kernel_rfl)) (by kernel_rfl)) (by kernel_rfl)) (by kernel_rfl)) (by kernel_rfl)) (by kernel_rfl)) (by kernel_rfl)) (by kernel_rfl)) (by kernel_rfl)) (by kernel_rfl)) (by kernel_rfl)) (by kernel_rfl)) (by kernel_rfl)) (by kernel_rfl)) (by kernel_rfl)) (by kernel_rfl)) (by kernel_rfl)) (by kernel_rfl)) (by kernel_rfl)) (by kernel_rfl)) (by kernel_rfl)) (by kernel_rfl)) ioE) (by rw [ioF]; kernel_rfl)) (by rw [ioM]; kernel_rfl)) (by kernel_rfl)) (by kernel_rfl)) (by kernel_rfl)) (by kernel_rfl)
theorem said22 : Rows.FnExactSettleWebSaid :=
  OpenClaim.holds_of_wide 22 Try.f22 rfl rfl rfl rfl rfl rfl rfl ⟨rfl, rfl, rfl, rfl, rfl⟩ rfl rfl rfl rfl rfl (by kernel_rfl) Try.func22 jf22
    (of_decide_eq_true (by kernel_rfl)) (by unfold Func.isWrapper; rw [if_neg (by decide +kernel)]; exact ⟨rfl, rfl⟩)
    (fun os started H enc _ => lift22 os started H enc)
end Go.Proofs.Ythkjlbggipocdaa
