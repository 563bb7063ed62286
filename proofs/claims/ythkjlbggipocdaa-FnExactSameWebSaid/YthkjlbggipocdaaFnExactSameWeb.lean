/- FnExactSameWeb: for every input the law returns true, and the input reads as it did. No condition. -/
import Derived.Test.YthkjlbggipocdaaRows
import Derived.Test.YthkjlbggipocdaaVz
import Derived.Test.YthkjlbggipocdaaVq
set_option linter.unusedVariables false
set_option linter.unusedSimpArgs false
set_option linter.unusedSectionVars false
namespace Go.Proofs.Ythkjlbggipocdaa.Sh
open Go Go.Proofs
theorem allI_ext {p q : Nat → Bool} : ∀ {n : Nat}, (∀ i, i < n → p i = q i) → allI p n = allI q n
  | 0, _ => rfl
  | n + 1, h => by simp only [allI, allI_ext (n := n) fun i hi => h i (by omega), h n (by omega)]
theorem getD_lt {l : List Nat} (h : ∀ x ∈ l, x < 4294967296) (i : Nat) : l.getD i 0 < 4294967296 := by
  rw [List.getD_eq_getElem?_getD]
  cases e : l[i]? with
  | none => decide
  | some x => exact h x (List.mem_of_getElem? e)
theorem webSame_eq {st sp fd n : Nat} {l : List Nat} {st' sp' fd' n' : Nat} {l' : List Nat} (h : st < 4294967296 ∧ sp < 4294967296 ∧ fd < 4294967296) (hl : ∀ x ∈ l, x < 4294967296) (h' : st' < 4294967296 ∧ sp' < 4294967296 ∧ fd' < 4294967296) (hl' : ∀ x ∈ l', x < 4294967296) :
    webSame eqS st sp fd n l st' sp' fd' n' l' = webSame eqW st sp fd n l st' sp' fd' n' l' := by
  unfold webSame
  rw [same_eq h.1 h'.1, same_eq h.2.1 h'.2.1, same_eq h.2.2 h'.2.2, allI_ext (q := spanSame eqW l l') fun i _ => ?_]
  unfold spanSame
  rw [same_eq (getD_lt hl _) (getD_lt hl' _), same_eq (getD_lt hl _) (getD_lt hl' _), same_eq (getD_lt hl _) (getD_lt hl' _)]
theorem sz_ok2 {k : Int} {n : Nat} (hk : k ≤ 1048576) (h : ¬ (if k - (n : Int) < 0 then (-1 : Int) else k - n) < 0) : n ≤ 1048576 := by
  split at h <;> omega
theorem sz_k {n : Nat} (h : n ≤ 1048576) : 0 ≤ (if (1048576 : Int) - (n : Int) < 0 then (-1 : Int) else 1048576 - (n : Int)) ∧ (if (1048576 : Int) - (n : Int) < 0 then (-1 : Int) else 1048576 - (n : Int)) ≤ 1048576 := by
  split <;> omega
theorem fn5 : FnOk Try.prog 5 Try.f5 (bodyOf Try.f5) := ⟨Try.func5, rfl, by rfl⟩
def sLaw5 : Spec := hspec fun args H => match args, H with
  | [.a [.f .f32 st, .f .f32 sp, .f .f32 fd, .sl 0 (.x o) (.x n)], .a [.f .f32 st', .f .f32 sp', .f .f32 fd', .sl 1 (.x o') (.x n')]], [some ⟨false, 0, x⟩, some ⟨false, 0, x'⟩] => match x.toFl, x'.toFl with
    | some l, some l' => some (.c (.b (.l true)), [none, none], [fun _ => (o () = 0 ∧ (l ()).length = 3 * n () ∧ n () ≤ 9223372036854775807) ∧ (st () < 4294967296 ∧ sp () < 4294967296 ∧ fd () < 4294967296) ∧ ∀ x ∈ l (), x < 4294967296, fun _ => (o' () = 0 ∧ (l' ()).length = 3 * n' () ∧ n' () ≤ 9223372036854775807) ∧ (st' () < 4294967296 ∧ sp' () < 4294967296 ∧ fd' () < 4294967296) ∧ ∀ x ∈ l' (), x < 4294967296])
    | _, _ => none
  | [.a [.f .f32 st, .f .f32 sp, .f .f32 fd, .sl 0 (.x o) (.x n)], .a [.f .f32 st', .f .f32 sp', .f .f32 fd', .sn]], [some ⟨false, 0, x⟩] => match x.toFl with
    | some l => some (.c (.b (.l true)), [none], [fun _ => (o () = 0 ∧ (l ()).length = 3 * n () ∧ n () ≤ 9223372036854775807) ∧ (st () < 4294967296 ∧ sp () < 4294967296 ∧ fd () < 4294967296) ∧ ∀ x ∈ l (), x < 4294967296, fun _ => st' () < 4294967296 ∧ sp' () < 4294967296 ∧ fd' () < 4294967296])
    | _ => none
  | [.a [.f .f32 st, .f .f32 sp, .f .f32 fd, .sn], .a [.f .f32 st', .f .f32 sp', .f .f32 fd', .sl 0 (.x o') (.x n')]], [some ⟨false, 0, x'⟩] => match x'.toFl with
    | some l' => some (.c (.b (.l true)), [none], [fun _ => st () < 4294967296 ∧ sp () < 4294967296 ∧ fd () < 4294967296, fun _ => (o' () = 0 ∧ (l' ()).length = 3 * n' () ∧ n' () ≤ 9223372036854775807) ∧ (st' () < 4294967296 ∧ sp' () < 4294967296 ∧ fd' () < 4294967296) ∧ ∀ x ∈ l' (), x < 4294967296])
    | _ => none
  | [.a [.f .f32 st, .f .f32 sp, .f .f32 fd, .sn], .a [.f .f32 st', .f .f32 sp', .f .f32 fd', .sn]], [] => some (.c (.b (.l true)), [], [fun _ => st () < 4294967296 ∧ sp () < 4294967296 ∧ fd () < 4294967296, fun _ => st' () < 4294967296 ∧ sp' () < 4294967296 ∧ fd' () < 4294967296])
  | _, _ => none
def E5 : Env := fun g => envGetL [(48, ⟨true, s48, none⟩), (50, ⟨true, s50, none⟩), (52, ⟨true, s52, none⟩), (36, ⟨true, s36, none⟩), (53, ⟨true, s53, none⟩)] g
theorem E5ok : EnvOk Try.prog E5 := envOk_cons ok48 (envOk_cons ok50 (envOk_cons ok52 (envOk_cons ok36 (envOk_cons ok53 (envOk_nil _)))))
set_option maxRecDepth 100000 in
set_option maxHeartbeats 1000000 in
theorem ok5 : Ok Try.prog 5 (sLaw5) := ok_of_wpaH (E := E5) mixed tts E5ok fn5 fun args H v H' o hs ho => by
  split at hs
  · rename_i st sp fd o n st' sp' fd' o' n' x x'
    split at hs
    · rename_i l l' hl hl'
      cases hs
      obtain ⟨ha, hb⟩ := ho.two
      simp only [Unit.unit] at ha hb
      obtain ⟨⟨ho0, hlen, hbig⟩, hwd, hlw⟩ := ha
      obtain ⟨⟨ho0', hlen', hbig'⟩, hwd', hlw'⟩ := hb
      have hweb := webSame_eq (n := n ⟨⟩) (n' := n' ⟨⟩) hwd (l := l ⟨⟩) hlw hwd' (l' := l' ⟨⟩) hlw'
      refine ⟨_, HLe.cons (BLe.fl hl) (HLe.cons (BLe.fl hl') HLe.nil), ?_⟩
      cbv
      refine Ob.mk ⟨by decide, by decide, hbig⟩ ?_
      cbv
      refine Br.mk (fun hz => ?_) (fun hz => ?_)
      · cbv
        repeat' (refine Ob.mk ?_ ?_; rotate_left; cbv)
        all_goals (try simp only [Unit.unit, Int.ofNat_lt, Int.ofNat_le, BE.val, IE.val, NE.val, ltB_iff, ltB_no, leB_iff, leB_no, Int.toNat_natCast, Nat.zero_add, Nat.add_zero, Nat.mul_one, forced, beq_iff_eq, beq_eq_false_iff_ne, bne_iff_ne, bne_eq_false_iff_eq] at *)
        all_goals first | with_reducible rfl | trivial
      have hn : n ⟨⟩ ≤ 1048576 := sz_ok (ltB_no.1 hz)
      clear hz
      have hk := sz_k hn
      cbv
      refine Ob.mk ⟨hk.1, Int.lt_of_le_of_lt hk.2 (by decide), hbig'⟩ ?_
      cbv
      refine Br.mk (fun hz => ?_) (fun hz => ?_)
      · cbv
        repeat' (refine Ob.mk ?_ ?_; rotate_left; cbv)
        all_goals (try simp only [Unit.unit, Int.ofNat_lt, Int.ofNat_le, BE.val, IE.val, NE.val, ltB_iff, ltB_no, leB_iff, leB_no, Int.toNat_natCast, Nat.zero_add, Nat.add_zero, Nat.mul_one, forced, beq_iff_eq, beq_eq_false_iff_ne, bne_iff_ne, bne_eq_false_iff_eq] at *)
        all_goals first | with_reducible rfl | trivial
      have hn' : n' ⟨⟩ ≤ 1048576 := sz_ok2 hk.2 (ltB_no.1 hz)
      clear hz
      have hw : o ⟨⟩ = 0 ∧ (l ⟨⟩).length = 3 * n ⟨⟩ ∧ n ⟨⟩ ≤ 1048576 := ⟨ho0, hlen, hn⟩
      have hw' : o' ⟨⟩ = 0 ∧ (l' ⟨⟩).length = 3 * n' ⟨⟩ ∧ n' ⟨⟩ ≤ 1048576 := ⟨ho0', hlen', hn'⟩
      cbv
      repeat' first
        | (refine alt_t (by assumption) ?_; cbv)
        | (refine alt_f (by assumption) ?_; cbv)
        | (refine alt_b (fun h => ?_) (fun h => ?_) <;> cbv)
        | (refine Br.mk (fun h => ?_) (fun h => ?_) <;> cbv)
        | (refine Ob.mk ?_ ?_; rotate_left; cbv)
        | (refine Lex.all ?_; cbv)
        | (refine Both.mk ?_ ?_ <;> cbv)
      all_goals (try simp only [Unit.unit, Int.ofNat_lt, Int.ofNat_le, BE.val, IE.val, NE.val, ltB_iff, ltB_no, leB_iff, leB_no, Int.toNat_natCast, Nat.zero_add, Nat.add_zero, Nat.mul_one, forced, beq_iff_eq, beq_eq_false_iff_ne, bne_iff_ne, bne_eq_false_iff_eq] at *)
      all_goals (try simp only [hweb, sameW_self, sameSps_self, sameF_refl, beq_self_eq_true, bne_self_eq_false, Bool.and_self, Bool.not_true, Bool.not_false, Bool.true_and] at *)
      all_goals first | with_reducible rfl | exact hw | exact ⟨rfl, hlen, hn⟩ | exact hw' | exact ⟨rfl, hlen', hn'⟩ | exact ⟨rfl, rfl, Nat.zero_le _⟩ | (simp_all; done) | grind
    · cases hs
  · rename_i st sp fd o n st' sp' fd' x
    split at hs
    · rename_i l hl
      cases hs
      obtain ⟨ha, hb⟩ := ho.two
      simp only [Unit.unit] at ha hb
      obtain ⟨⟨ho0, hlen, hbig⟩, hwd, hlw⟩ := ha
      have hwd' := hb
      have hweb := webSame_eq (n := n ⟨⟩) (n' := 0) hwd (l := l ⟨⟩) hlw hwd' (l' := []) (fun x hx => by cases hx)
      refine ⟨_, HLe.cons (BLe.fl hl) (HLe.nil), ?_⟩
      cbv
      refine Ob.mk ⟨by decide, by decide, hbig⟩ ?_
      cbv
      refine Br.mk (fun hz => ?_) (fun hz => ?_)
      · cbv
        repeat' (refine Ob.mk ?_ ?_; rotate_left; cbv)
        all_goals (try simp only [Unit.unit, Int.ofNat_lt, Int.ofNat_le, BE.val, IE.val, NE.val, ltB_iff, ltB_no, leB_iff, leB_no, Int.toNat_natCast, Nat.zero_add, Nat.add_zero, Nat.mul_one, forced, beq_iff_eq, beq_eq_false_iff_ne, bne_iff_ne, bne_eq_false_iff_eq] at *)
        all_goals first | with_reducible rfl | trivial
      have hn : n ⟨⟩ ≤ 1048576 := sz_ok (ltB_no.1 hz)
      clear hz
      have hk := sz_k hn
      cbv
      refine Ob.mk ⟨hk.1, Int.lt_of_le_of_lt hk.2 (by decide)⟩ ?_
      cbv
      refine Br.mk (fun hz => ?_) (fun hz => ?_)
      · exact absurd (ltB_iff.1 hz) (Int.not_lt.2 hk.1)
      clear hz
      have hw : o ⟨⟩ = 0 ∧ (l ⟨⟩).length = 3 * n ⟨⟩ ∧ n ⟨⟩ ≤ 1048576 := ⟨ho0, hlen, hn⟩
      cbv
      repeat' first
        | (refine alt_t (by assumption) ?_; cbv)
        | (refine alt_f (by assumption) ?_; cbv)
        | (refine alt_b (fun h => ?_) (fun h => ?_) <;> cbv)
        | (refine Br.mk (fun h => ?_) (fun h => ?_) <;> cbv)
        | (refine Ob.mk ?_ ?_; rotate_left; cbv)
        | (refine Lex.all ?_; cbv)
        | (refine Both.mk ?_ ?_ <;> cbv)
      all_goals (try simp only [Unit.unit, Int.ofNat_lt, Int.ofNat_le, BE.val, IE.val, NE.val, ltB_iff, ltB_no, leB_iff, leB_no, Int.toNat_natCast, Nat.zero_add, Nat.add_zero, Nat.mul_one, forced, beq_iff_eq, beq_eq_false_iff_ne, bne_iff_ne, bne_eq_false_iff_eq] at *)
      all_goals (try simp only [hweb, sameW_self, sameSps_self, sameF_refl, beq_self_eq_true, bne_self_eq_false, Bool.and_self, Bool.not_true, Bool.not_false, Bool.true_and] at *)
      all_goals first | with_reducible rfl | exact hw | exact ⟨rfl, hlen, hn⟩ | exact ⟨rfl, rfl, Nat.zero_le _⟩ | (simp_all; done) | grind
    · cases hs
  · rename_i st sp fd st' sp' fd' o' n' x'
    split at hs
    · rename_i l' hl'
      cases hs
      obtain ⟨ha, hb⟩ := ho.two
      simp only [Unit.unit] at ha hb
      have hwd := ha
      obtain ⟨⟨ho0', hlen', hbig'⟩, hwd', hlw'⟩ := hb
      have hweb := webSame_eq (n := 0) (n' := n' ⟨⟩) hwd (l := []) (fun x hx => by cases hx) hwd' (l' := l' ⟨⟩) hlw'
      refine ⟨_, HLe.cons (BLe.fl hl') HLe.nil, ?_⟩
      cbv
      refine Ob.mk ⟨by decide, by decide⟩ ?_
      cbv
      refine Br.mk (fun hz => ?_) (fun hz => ?_)
      · exact absurd (ltB_iff.1 hz) (by decide)
      clear hz
      cbv
      refine Ob.mk ⟨by decide, by decide, hbig'⟩ ?_
      cbv
      refine Br.mk (fun hz => ?_) (fun hz => ?_)
      · cbv
        repeat' (refine Ob.mk ?_ ?_; rotate_left; cbv)
        all_goals (try simp only [Unit.unit, Int.ofNat_lt, Int.ofNat_le, BE.val, IE.val, NE.val, ltB_iff, ltB_no, leB_iff, leB_no, Int.toNat_natCast, Nat.zero_add, Nat.add_zero, Nat.mul_one, forced, beq_iff_eq, beq_eq_false_iff_ne, bne_iff_ne, bne_eq_false_iff_eq] at *)
        all_goals first | with_reducible rfl | trivial
      have hn' : n' ⟨⟩ ≤ 1048576 := sz_ok2 (Int.le_refl _) (ltB_no.1 hz)
      clear hz
      have hw' : o' ⟨⟩ = 0 ∧ (l' ⟨⟩).length = 3 * n' ⟨⟩ ∧ n' ⟨⟩ ≤ 1048576 := ⟨ho0', hlen', hn'⟩
      cbv
      repeat' first
        | (refine alt_t (by assumption) ?_; cbv)
        | (refine alt_f (by assumption) ?_; cbv)
        | (refine alt_b (fun h => ?_) (fun h => ?_) <;> cbv)
        | (refine Br.mk (fun h => ?_) (fun h => ?_) <;> cbv)
        | (refine Ob.mk ?_ ?_; rotate_left; cbv)
        | (refine Lex.all ?_; cbv)
        | (refine Both.mk ?_ ?_ <;> cbv)
      all_goals (try simp only [Unit.unit, Int.ofNat_lt, Int.ofNat_le, BE.val, IE.val, NE.val, ltB_iff, ltB_no, leB_iff, leB_no, Int.toNat_natCast, Nat.zero_add, Nat.add_zero, Nat.mul_one, forced, beq_iff_eq, beq_eq_false_iff_ne, bne_iff_ne, bne_eq_false_iff_eq] at *)
      all_goals (try simp only [hweb, sameW_self, sameSps_self, sameF_refl, beq_self_eq_true, bne_self_eq_false, Bool.and_self, Bool.not_true, Bool.not_false, Bool.true_and] at *)
      all_goals first | with_reducible rfl | exact hw' | exact ⟨rfl, hlen', hn'⟩ | exact ⟨rfl, rfl, Nat.zero_le _⟩ | (simp_all; done) | grind
    · cases hs
  · rename_i st sp fd st' sp' fd'
    cases hs
    obtain ⟨ha, hb⟩ := ho.two
    simp only [Unit.unit] at ha hb
    have hwd := ha
    have hwd' := hb
    have hweb := webSame_eq (n := 0) (n' := 0) hwd (l := []) (fun x hx => by cases hx) hwd' (l' := []) (fun x hx => by cases hx)
    refine ⟨_, HLe.nil, ?_⟩
    cbv
    refine Ob.mk ⟨by decide, by decide⟩ ?_
    cbv
    refine Br.mk (fun hz => ?_) (fun hz => ?_)
    · exact absurd (ltB_iff.1 hz) (by decide)
    clear hz
    cbv
    refine Ob.mk ⟨by decide, by decide⟩ ?_
    cbv
    refine Br.mk (fun hz => ?_) (fun hz => ?_)
    · exact absurd (ltB_iff.1 hz) (by decide)
    clear hz
    cbv
    repeat' first
      | (refine alt_t (by assumption) ?_; cbv)
      | (refine alt_f (by assumption) ?_; cbv)
      | (refine alt_b (fun h => ?_) (fun h => ?_) <;> cbv)
      | (refine Br.mk (fun h => ?_) (fun h => ?_) <;> cbv)
      | (refine Ob.mk ?_ ?_; rotate_left; cbv)
      | (refine Lex.all ?_; cbv)
      | (refine Both.mk ?_ ?_ <;> cbv)
    all_goals (try simp only [Unit.unit, Int.ofNat_lt, Int.ofNat_le, BE.val, IE.val, NE.val, ltB_iff, ltB_no, leB_iff, leB_no, Int.toNat_natCast, Nat.zero_add, Nat.add_zero, Nat.mul_one, forced, beq_iff_eq, beq_eq_false_iff_ne, bne_iff_ne, bne_eq_false_iff_eq] at *)
    all_goals (try simp only [hweb, sameW_self, sameSps_self, sameF_refl, beq_self_eq_true, bne_self_eq_false, Bool.and_self, Bool.not_true, Bool.not_false, Bool.true_and] at *)
    all_goals first | with_reducible rfl | exact ⟨rfl, rfl, Nat.zero_le _⟩ | (simp_all; done) | grind
  · cases hs
end Go.Proofs.Ythkjlbggipocdaa.Sh
namespace Go.Proofs.Ythkjlbggipocdaa
open Go Go.Proofs.Ythkjlbggipocdaa.Sh Go.ChangeShapes Go.WideShapes Go.RowKit
theorem own : ownKnob Try.prog.godebug = none := by kernel_rfl
theorem laid : laidOutB Try.prog = true := by kernel_rfl
@[irreducible] noncomputable def fs57 : Array Field := match Try.prog.underlying 57 with | some (.struct fs) => fs | _ => #[]
theorem u57 : Try.prog.underlying 57 = some (.struct fs57) := by kernel_rfl
theorem ct57 : Try.prog.cellTypes Try.prog.depth 57 = some [24, 24, 24, 55] := by kernel_rfl
theorem n57 : Try.prog.cellsOf 57 = 4 := by kernel_rfl
theorem k24c : kCell Try.prog 24 = some (.f .f32) := by kernel_rfl
theorem u55 : Try.prog.underlying 55 = some (.slice 130) := by kernel_rfl
theorem fb57 : (match fs57[3]? with | some f => Nat.beq f.type 55 && Nat.beq f.offset 3 | none => false) = true := by kernel_rfl
theorem c55 : Try.prog.cellsOf 55 = 1 := by kernel_rfl
theorem kT130 : kT Try.prog 3 130 = some [.f .f32, .f .f32, .f .f32] := by kernel_rfl
theorem c130 : Try.prog.cellsOf 130 = 3 := by kernel_rfl
theorem holds_two {p q : Unit → Prop} (h : p ()) (k : q ()) : holds [p, q] := fun r hr => by
  rcases List.mem_cons.1 hr with rfl | hr
  · exact h
  · rw [List.mem_singleton] at hr; subst hr; exact k
theorem ls5 : LawSpec Rows.fnExactSameWebSpec Try.f5.params.size := by
  refine ⟨rfl, fun H ds h => ?_⟩
  rw [show Try.f5.params.size = 2 from rfl] at h
  match ds, h with
  | [_, _], _ => exact ⟨rfl, rfl, rfl⟩
set_option maxRecDepth 100000 in
theorem lift5 (os : Os) (started : os.Started) (H : Type) (enc : TypeId × Value → H) :
    ReturnsInHanded {} Try.checked os 5 .any (Rows.fnExactSameWebSpec.pre6 enc Try.prog Try.f5 Rows.fnExactSameWebRow.domain false) (Rows.fnExactSameWebSpec.post enc Try.prog Try.f5 false true false false) := by
  refine law_lifted (C := Try.checked) own started (by kernel_rfl) fn5 ls5 (tb := 4) rfl (by kernel_rfl) (by kernel_rfl) laid ok5
    (ChangeSpec.witness6 (enc := enc) (C := Try.checked) false ⟨#[], #[.agg #[.float .f32 0, .float .f32 0, .float .f32 0, .slice none 0 0], .agg #[.float .f32 0, .float .f32 0, .float .f32 0, .slice none 0 0]], []⟩ 8 (by kernel_rfl) (by kernel_rfl) (by kernel_rfl) (by kernel_rfl)) ?_
  intro W base args ds p hval hA
  have hl := (trodAll_len hA).2
  rw [show Try.f5.params.toList = [57, 57] from rfl] at hl hval hA
  match args, hl with
  | [v0, v1], _ =>
    obtain ⟨d0, p0, t0⟩ := trodAll_at hA 0 (t := 57) (v := v0) rfl rfl
    obtain ⟨a00, a01, a02, s0, rfl, b00, b01, b02, hv0, e0, q0, r0⟩ := web_openB (u := 24) (ts := 55) u57 ct57 n57 k24c u55 fb57 c55 (hval 0 57 v0 rfl rfl) t0
    obtain ⟨d1, p1, t1⟩ := trodAll_at hA 1 (t := 57) (v := v1) rfl rfl
    obtain ⟨a10, a11, a12, s1, rfl, b10, b11, b12, hv1, e1, q1, r1⟩ := web_openB (u := 24) (ts := 55) u57 ct57 n57 k24c u55 fb57 c55 (hval 1 57 v1 rfl rfl) t1
    rcases floats_openB u55 kT130 (fun k hk => by simpa using hk) c130 hv0 r0 with rfl | ⟨loc0, L0, len0, hB0, hL0, hlen0, hw0, hs0⟩
    · rcases floats_openB u55 kT130 (fun k hk => by simpa using hk) c130 hv1 r1 with rfl | ⟨loc1, L1, len1, hB1, hL1, hlen1, hw1, hs1⟩
      · exact ⟨[.a [.f .f32 fun _ => a00, .f .f32 fun _ => a01, .f .f32 fun _ => a02, .sn], .a [.f .f32 fun _ => a10, .f .f32 fun _ => a11, .f .f32 fun _ => a12, .sn]], [], _, _, fun _ => ⟨0, 0, 0, 0⟩, rfl,
          holds_two ⟨b00, b01, b02⟩ ⟨b10, b11, b12⟩, hrel_nil _ _ _, ⟨⟨_, rfl, ⟨_, rfl, .inl rfl⟩, ⟨_, rfl, .inl rfl⟩, ⟨_, rfl, .inl rfl⟩, rfl, trivial⟩, ⟨_, rfl, ⟨_, rfl, .inl rfl⟩, ⟨_, rfl, .inl rfl⟩, ⟨_, rfl, .inl rfl⟩, rfl, trivial⟩, trivial⟩⟩
      · exact ⟨[.a [.f .f32 fun _ => a00, .f .f32 fun _ => a01, .f .f32 fun _ => a02, .sn], .a [.f .f32 fun _ => a10, .f .f32 fun _ => a11, .f .f32 fun _ => a12, .sl 0 (.x fun _ => 0) (.x fun _ => len1)]], [some ⟨false, 0, .fl fun _ => L1⟩], _, _, fun _ => loc1, rfl,
          holds_two ⟨b00, b01, b02⟩ ⟨⟨rfl, by simp only [List.length_cons, List.length_nil] at hL1; show L1.length = 3 * len1; omega, hlen1⟩, ⟨b10, b11, b12⟩, hw1⟩, hrel_ro1 hB1 rfl, ⟨⟨_, rfl, ⟨_, rfl, .inl rfl⟩, ⟨_, rfl, .inl rfl⟩, ⟨_, rfl, .inl rfl⟩, rfl, trivial⟩, ⟨_, rfl, ⟨_, rfl, .inl rfl⟩, ⟨_, rfl, .inl rfl⟩, ⟨_, rfl, .inl rfl⟩, hs1 (fun _ => loc1) 1 0 (.x fun _ => len1) (by decide) rfl rfl, trivial⟩, trivial⟩⟩
    · rcases floats_openB u55 kT130 (fun k hk => by simpa using hk) c130 hv1 r1 with rfl | ⟨loc1, L1, len1, hB1, hL1, hlen1, hw1, hs1⟩
      · exact ⟨[.a [.f .f32 fun _ => a00, .f .f32 fun _ => a01, .f .f32 fun _ => a02, .sl 0 (.x fun _ => 0) (.x fun _ => len0)], .a [.f .f32 fun _ => a10, .f .f32 fun _ => a11, .f .f32 fun _ => a12, .sn]], [some ⟨false, 0, .fl fun _ => L0⟩], _, _, fun _ => loc0, rfl,
          holds_two ⟨⟨rfl, by simp only [List.length_cons, List.length_nil] at hL0; show L0.length = 3 * len0; omega, hlen0⟩, ⟨b00, b01, b02⟩, hw0⟩ ⟨b10, b11, b12⟩, hrel_ro1 hB0 rfl, ⟨⟨_, rfl, ⟨_, rfl, .inl rfl⟩, ⟨_, rfl, .inl rfl⟩, ⟨_, rfl, .inl rfl⟩, hs0 (fun _ => loc0) 1 0 (.x fun _ => len0) (by decide) rfl rfl, trivial⟩, ⟨_, rfl, ⟨_, rfl, .inl rfl⟩, ⟨_, rfl, .inl rfl⟩, ⟨_, rfl, .inl rfl⟩, rfl, trivial⟩, trivial⟩⟩
      · exact ⟨[.a [.f .f32 fun _ => a00, .f .f32 fun _ => a01, .f .f32 fun _ => a02, .sl 0 (.x fun _ => 0) (.x fun _ => len0)], .a [.f .f32 fun _ => a10, .f .f32 fun _ => a11, .f .f32 fun _ => a12, .sl 1 (.x fun _ => 0) (.x fun _ => len1)]], [some ⟨false, 0, .fl fun _ => L0⟩, some ⟨false, 0, .fl fun _ => L1⟩], _, _, (fun i => match i with | 0 => loc0 | _ => loc1), rfl,
          holds_two ⟨⟨rfl, by simp only [List.length_cons, List.length_nil] at hL0; show L0.length = 3 * len0; omega, hlen0⟩, ⟨b00, b01, b02⟩, hw0⟩ ⟨⟨rfl, by simp only [List.length_cons, List.length_nil] at hL1; show L1.length = 3 * len1; omega, hlen1⟩, ⟨b10, b11, b12⟩, hw1⟩, hrel_ro2 hB0 hB1 rfl rfl, ⟨⟨_, rfl, ⟨_, rfl, .inl rfl⟩, ⟨_, rfl, .inl rfl⟩, ⟨_, rfl, .inl rfl⟩, hs0 ((fun i => match i with | 0 => loc0 | _ => loc1)) 2 0 (.x fun _ => len0) (by decide) rfl rfl, trivial⟩, ⟨_, rfl, ⟨_, rfl, .inl rfl⟩, ⟨_, rfl, .inl rfl⟩, ⟨_, rfl, .inl rfl⟩, hs1 ((fun i => match i with | 0 => loc0 | _ => loc1)) 2 1 (.x fun _ => len1) (by decide) rfl rfl, trivial⟩, trivial⟩⟩
theorem jf5 : joinedFacts Try.prog 5 Try.f5 Rows.fnExactSameWebSpec Rows.fnExactSameWebRow = true := by
  unfold joinedFacts
  exact andT (andT (andT (andT (andT (andT (andT (andT (andT (andT (andT (andT (andT (andT (andT (andT (andT (andT (andT (andT (andT (andT (andT (andT (andT (andT (andT (andT (andT (andT (andT (by kernel_rfl) (by kernel_rfl)) (by kernel_rfl)) (by kernel_rfl)) (by kernel_rfl)) (by kernel_rfl)) (by kernel_rfl)) (by kernel_rfl)) (by kernel_rfl)) (by kernel_rfl)) (by kernel_rfl)) (by kernel_rfl)) (by kernel_rfl)) (by kernel_rfl)) (by kernel_rfl)) (by kernel_rfl)) (by kernel_rfl)) (by kernel_rfl)) (by kernel_rfl)) (by kernel_rfl)) (by kernel_rfl)) (by kernel_rfl)) (by kernel_rfl)) (by kernel_rfl)) (by kernel_rfl)) ioE) (by rw [ioF]; kernel_rfl)) (by rw [ioM]; kernel_rfl)) (by kernel_rfl)) (by kernel_rfl)) (by kernel_rfl)) (by kernel_rfl)
theorem said5 : Rows.FnExactSameWebSaid :=
  OpenClaim.holds_of_wide 5 Try.f5 rfl rfl rfl rfl rfl rfl rfl ⟨rfl, rfl, rfl, rfl, rfl⟩ rfl rfl rfl rfl rfl (by kernel_rfl) Try.func5 jf5
    (of_decide_eq_true (by kernel_rfl)) (by unfold Func.isWrapper; rw [if_neg (by decide +kernel)]; exact ⟨rfl, rfl⟩)
    (fun os started H enc _ => lift5 os started H enc)
end Go.Proofs.Ythkjlbggipocdaa
