/- What the corrections and the steps of this seat compute, each shown once. No condition. -/
import Derived.Test.YtanndlifpojenaaVd
set_option linter.unusedVariables false
set_option linter.unusedSimpArgs false
set_option linter.unusedSectionVars false
namespace Go.Proofs.Ytanndlifpojenaa.Sh
open Go Go.Proofs
section
def qIn (N : Int) (q : Int × Int) : Prop := 0 ≤ q.1 ∧ q.1 ≤ N
theorem qIn_pk {N : Int} {L : List Int} {k : Int} {q : Int × Int} (h : qIn N q) : qIn (N + 2) (pkQ L k q) := by
  have := pkQ_bd (L := L) (k := k) (q := q)
  unfold qIn at *
  omega
theorem qIn_le {N M : Int} {q : Int × Int} (h : qIn N q) (hM : N ≤ M) : qIn M q := ⟨h.1, Int.le_trans h.2 hM⟩
def dmX (L : List Int) (q : Int × Int) : Nat := fop .quo .f32 (floatOfInt .f32 (IntKind.wrap .i64 (pkV L 801 q - 400))) 1098907648
def dmM (L : List Int) (q : Int × Int) : M := (dmX L q, dmX L (pkQ L 801 q))
def dmQ (L : List Int) (q : Int × Int) : Int × Int := pkQ L 801 (pkQ L 801 q)
theorem dmQ_in {N : Int} {L : List Int} {q : Int × Int} (h : qIn N q) : qIn (N + 4) (dmQ L q) := qIn_le (qIn_pk (qIn_pk h)) (by omega)
theorem fn35 : FnOk Try.prog 35 Try.f35 (bodyOf Try.f35) := ⟨Try.func35, rfl, by rfl⟩
def s35 : Spec := hspec fun args H => match args, H with
  | [.c (.p 0 (.l 0))], [some ⟨true, 0, .lit [.sl 1 (.x o) (.x n), .i .i64 (.x a), .i .u64 (.x s)]⟩, some ⟨false, 0, .it .u8 L⟩] => some (Zm (dmM (L ()) (a (), s ())), [some ⟨true, 0, .lit [.sl 1 (.x o) (.x n), .i .i64 (.x fun _ => (dmQ (L ()) (a (), s ())).1), .i .u64 (.x fun _ => (dmQ (L ()) (a (), s ())).2)]⟩, some ⟨false, 0, .it .u8 L⟩], [fun _ => 0 ≤ a () ∧ a () ≤ 100000, fun _ => o () = 0 ∧ (L ()).length = n () ∧ n () ≤ 4096 ∧ bytesOk (L ()), fun _ => a () ≤ 40000])
  | [.c (.p 0 (.l 0))], [some ⟨true, 0, .lit [.sn, .i .i64 (.x a), .i .u64 (.x s)]⟩] => some (Zm (dmM [] (a (), s ())), [some ⟨true, 0, .lit [.sn, .i .i64 (.x fun _ => (dmQ [] (a (), s ())).1), .i .u64 (.x fun _ => (dmQ [] (a (), s ())).2)]⟩], [fun _ => 0 ≤ a () ∧ a () ≤ 100000, fun _ => a () ≤ 40000])
  | _, _ => none
def E35 : Env := fun g => envGetL [(37, ⟨false, s37, none⟩), (38, ⟨true, s38, none⟩)] g
theorem E35ok : EnvOk Try.prog E35 := envOk_cons ok37 (envOk_cons ok38 (envOk_nil _))
set_option maxRecDepth 100000 in
set_option maxHeartbeats 1000000 in
theorem ok35 : Ok Try.prog 35 (s35) := ok_of_wpaH (E := E35) mixed tts E35ok fn35 fun args H v H' o hs ho => by
  split at hs
  · rename_i o n a s L
    cases hs
    obtain ⟨⟨ha0, ha1⟩, ⟨ho0, hlen, hbig, hby⟩, hx0⟩ := ho.three
    try simp only [Unit.unit] at ha0 ha1 ho0 hlen hbig hx0
    refine ⟨_, HLe.refl _, ?_⟩
    cbv
    have hq0 : qIn 40000 (a ⟨⟩, s ⟨⟩) := ⟨ha0, hx0⟩
    have hq1 : qIn 40002 (pkQ (L ⟨⟩) 801 (a ⟨⟩, s ⟨⟩)) := qIn_pk hq0
    repeat' (refine Ob.mk ?_ ?_; rotate_left; cbv)
    all_goals try (first | exact ⟨hq0.1, Int.le_trans hq0.2 (by decide)⟩ | exact Int.le_trans hq0.2 (by decide) | exact ⟨hq1.1, Int.le_trans hq1.2 (by decide)⟩ | exact Int.le_trans hq1.2 (by decide) | exact ⟨ho0, hlen, hbig, hby⟩ | exact ⟨by trivial, hlen, hbig, hby⟩)
    all_goals (try simp only [Unit.unit, Int.ofNat_lt, Int.ofNat_le, BE.val, IE.val, NE.val, ltB_iff, ltB_no, leB_iff, leB_no, Int.toNat_natCast, Nat.zero_add, Nat.add_zero, Nat.mul_one, forced, beq_iff_eq, beq_eq_false_iff_ne, bne_iff_ne, bne_eq_false_iff_eq] at *)
    all_goals first | with_reducible rfl | rfl
  · rename_i a s
    cases hs
    obtain ⟨⟨ha0, ha1⟩, hx0⟩ := ho.two
    have hby := bytes_nil
    try simp only [Unit.unit] at ha0 ha1 hx0
    refine ⟨_, HLe.refl _, ?_⟩
    cbv
    have hq0 : qIn 40000 (a ⟨⟩, s ⟨⟩) := ⟨ha0, hx0⟩
    have hq1 : qIn 40002 (pkQ [] 801 (a ⟨⟩, s ⟨⟩)) := qIn_pk hq0
    repeat' (refine Ob.mk ?_ ?_; rotate_left; cbv)
    all_goals try (first | exact ⟨hq0.1, Int.le_trans hq0.2 (by decide)⟩ | exact Int.le_trans hq0.2 (by decide) | exact ⟨hq1.1, Int.le_trans hq1.2 (by decide)⟩ | exact Int.le_trans hq1.2 (by decide))
    all_goals (try simp only [Unit.unit, Int.ofNat_lt, Int.ofNat_le, BE.val, IE.val, NE.val, ltB_iff, ltB_no, leB_iff, leB_no, Int.toNat_natCast, Nat.zero_add, Nat.add_zero, Nat.mul_one, forced, beq_iff_eq, beq_eq_false_iff_ne, bne_iff_ne, bne_eq_false_iff_eq] at *)
    all_goals first | with_reducible rfl | rfl
  · cases hs
theorem fn6 : FnOk Try.prog 6 Try.f6 (bodyOf Try.f6) := ⟨Try.func6, rfl, by rfl⟩
def s6 : Spec := hspec fun args H => match args, H with
  | [.c (.sl 0 (.x o) (.x n))], [some ⟨false, 0, .it .u8 L⟩] => some (Zm (dmM (L ()) (0, 0)), [none], [fun _ => o () = 0 ∧ (L ()).length = n () ∧ n () ≤ 4096 ∧ bytesOk (L ())])
  | [.c .sn], [] => some (Zm (dmM [] (0, 0)), [], [])
  | _, _ => none
def E6 : Env := fun g => envGetL [(36, ⟨false, s36, none⟩), (35, ⟨false, s35, none⟩)] g
theorem E6ok : EnvOk Try.prog E6 := envOk_cons ok36 (envOk_cons ok35 (envOk_nil _))
theorem ok6 : Ok Try.prog 6 (s6) := ok_of_wpaH (E := E6) mixed tts E6ok fn6 fun args H v H' o hs ho => by
  split at hs
  · rename_i o n L
    cases hs
    have hcb := ho.one
    refine ⟨_, HLe.refl _, ?_⟩
    cbv
    repeat' first
      | (refine Br.mk (fun h => ?_) (fun h => ?_) <;> cbv)
      | (refine Ob.mk ?_ ?_; rotate_left; cbv)
      | (refine Lex.mk (by decide +kernel) ?_; cbv)
    all_goals (try simp only [Unit.unit, Int.ofNat_lt, Int.ofNat_le, BE.val, IE.val, NE.val, ltB_iff, ltB_no, leB_iff, leB_no, Int.toNat_natCast, Nat.zero_add, Nat.add_zero, Nat.mul_one, forced, beq_iff_eq, beq_eq_false_iff_ne, bne_iff_ne, bne_eq_false_iff_eq] at *)
    all_goals first | with_reducible rfl | exact hcb | exact ⟨by decide, by decide⟩ | decide | rfl
  · cases hs
    refine ⟨_, HLe.refl _, ?_⟩
    cbv
    repeat' first
      | (refine Br.mk (fun h => ?_) (fun h => ?_) <;> cbv)
      | (refine Ob.mk ?_ ?_; rotate_left; cbv)
      | (refine Lex.mk (by decide +kernel) ?_; cbv)
    all_goals (try simp only [Unit.unit, Int.ofNat_lt, Int.ofNat_le, BE.val, IE.val, NE.val, ltB_iff, ltB_no, leB_iff, leB_no, Int.toNat_natCast, Nat.zero_add, Nat.add_zero, Nat.mul_one, forced, beq_iff_eq, beq_eq_false_iff_ne, bne_iff_ne, bne_eq_false_iff_eq] at *)
    all_goals first | with_reducible rfl | exact hcb | exact ⟨by decide, by decide⟩ | decide | rfl
  · cases hs
end
section
theorem fn8 : FnOk Try.prog 8 Try.f8 (bodyOf Try.f8) := ⟨Try.func8, rfl, by rfl⟩
def s8 : Spec := hspec fun args H => match args, H with
  | [.c (.z .f32 b1 b2), .c (.i .i64 (.x c))], [] => some (.a [.z .f32 (fun _ => ((movedS (c ()).toNat (b1 (), b2 ())).getD 0 (0, 0)).1) (fun _ => ((movedS (c ()).toNat (b1 (), b2 ())).getD 0 (0, 0)).2), .z .f32 (fun _ => ((movedS (c ()).toNat (b1 (), b2 ())).getD 1 (0, 0)).1) (fun _ => ((movedS (c ()).toNat (b1 (), b2 ())).getD 1 (0, 0)).2), .z .f32 (fun _ => ((movedS (c ()).toNat (b1 (), b2 ())).getD 2 (0, 0)).1) (fun _ => ((movedS (c ()).toNat (b1 (), b2 ())).getD 2 (0, 0)).2), .z .f32 (fun _ => ((movedS (c ()).toNat (b1 (), b2 ())).getD 3 (0, 0)).1) (fun _ => ((movedS (c ()).toNat (b1 (), b2 ())).getD 3 (0, 0)).2), .z .f32 (fun _ => ((movedS (c ()).toNat (b1 (), b2 ())).getD 4 (0, 0)).1) (fun _ => ((movedS (c ()).toNat (b1 (), b2 ())).getD 4 (0, 0)).2), .z .f32 (fun _ => ((movedS (c ()).toNat (b1 (), b2 ())).getD 5 (0, 0)).1) (fun _ => ((movedS (c ()).toNat (b1 (), b2 ())).getD 5 (0, 0)).2), .z .f32 (fun _ => ((movedS (c ()).toNat (b1 (), b2 ())).getD 6 (0, 0)).1) (fun _ => ((movedS (c ()).toNat (b1 (), b2 ())).getD 6 (0, 0)).2), .z .f32 (fun _ => ((movedS (c ()).toNat (b1 (), b2 ())).getD 7 (0, 0)).1) (fun _ => ((movedS (c ()).toNat (b1 (), b2 ())).getD 7 (0, 0)).2), .z .f32 (fun _ => ((movedS (c ()).toNat (b1 (), b2 ())).getD 8 (0, 0)).1) (fun _ => ((movedS (c ()).toNat (b1 (), b2 ())).getD 8 (0, 0)).2), .z .f32 (fun _ => ((movedS (c ()).toNat (b1 (), b2 ())).getD 9 (0, 0)).1) (fun _ => ((movedS (c ()).toNat (b1 (), b2 ())).getD 9 (0, 0)).2), .z .f32 (fun _ => ((movedS (c ()).toNat (b1 (), b2 ())).getD 10 (0, 0)).1) (fun _ => ((movedS (c ()).toNat (b1 (), b2 ())).getD 10 (0, 0)).2), .z .f32 (fun _ => ((movedS (c ()).toNat (b1 (), b2 ())).getD 11 (0, 0)).1) (fun _ => ((movedS (c ()).toNat (b1 (), b2 ())).getD 11 (0, 0)).2), .z .f32 (fun _ => ((movedS (c ()).toNat (b1 (), b2 ())).getD 12 (0, 0)).1) (fun _ => ((movedS (c ()).toNat (b1 (), b2 ())).getD 12 (0, 0)).2), .z .f32 (fun _ => ((movedS (c ()).toNat (b1 (), b2 ())).getD 13 (0, 0)).1) (fun _ => ((movedS (c ()).toNat (b1 (), b2 ())).getD 13 (0, 0)).2), .z .f32 (fun _ => ((movedS (c ()).toNat (b1 (), b2 ())).getD 14 (0, 0)).1) (fun _ => ((movedS (c ()).toNat (b1 (), b2 ())).getD 14 (0, 0)).2), .z .f32 (fun _ => ((movedS (c ()).toNat (b1 (), b2 ())).getD 15 (0, 0)).1) (fun _ => ((movedS (c ()).toNat (b1 (), b2 ())).getD 15 (0, 0)).2)], [], [fun _ => 0 ≤ c () ∧ c () ≤ 3])
  | _, _ => none
def E8 : Env := fun g => envGetL [(38, ⟨true, s38, none⟩), (39, ⟨true, s39, none⟩)] g
theorem E8ok : EnvOk Try.prog E8 := envOk_cons ok38 (envOk_cons ok39 (envOk_nil _))
set_option maxRecDepth 100000 in
set_option maxHeartbeats 2000000 in
theorem ok8 : Ok Try.prog 8 (s8) := ok_of_wpaH (E := E8) mixed tts E8ok fn8 fun args H v H' o hs ho => by
  split at hs
  · rename_i b1 b2 c
    cases hs
    have hc := ho.one
    refine ⟨_, HLe.refl _, ?_⟩
    cbv
    repeat' first
      | (refine Ob.mk ?_ ?_; (focus (first | exact rfl | exact ⟨rfl, hc⟩)); cbv)
      | (refine Loop.mk 70 ?_; cbv)
      | (refine Gen.same ?_; cbv)
  · cases hs
end
section
theorem e103a : Extern.findNext Try.f103 = none := by rfl
theorem e103b : Extern.find Try.f103 = some Extern.MathFloatBits.float32bits := by rfl
theorem ext103 (b : Nat) (w : World) : (callFunc 103 #[.float .f32 b]).run Try.prog w = .ok (.value (.int .u32 b)) w := by
  rw [run_callFunc_extern Try.func103 (by rfl) (by rfl) e103a e103b]; rfl
def s103 : Spec := fun args H => match args with
  | [.c (.f .f32 e)] => some (.c (.i .u32 (.x fun _ => (e () : Int))), H, [fun _ => isNan (e ()) = false])
  | _ => none
theorem ok103 : Ok Try.prog 103 s103 := by
  intro args H v H' o hs ho μ W w vs hW hH hr
  unfold s103 at hs
  split at hs
  · rename_i e
    cases hs
    match vs, hr with
    | [x], hr =>
      obtain ⟨⟨b, rfl, hb⟩, _⟩ := hr
      refine .inr ⟨_, _, ext103 b w, μ, agree.refl _ _, Nat.le_refl _, hH, ?_, Fr.refl _ _⟩
      have hn := ho.one
      rw [isNan_eq] at hn
      rcases hb with rfl | ⟨h1, h2⟩
      · rfl
      · have h2 : (Ieee.single.read (e ())).isNaN = true := h2
        rw [h2] at hn; cases hn
  · cases hs
theorem eqW_num {a b : Nat} (ha : isNan a = false) (hb : isNan b = false) : eqW a b = ((a : Int) == (b : Int)) := by
  unfold eqW
  rw [ha, hb]
  by_cases e : a = b
  · subst e; simp
  · have e' : ¬ ((a : Int) = (b : Int)) := by omega
    simp [e, e']
theorem eqW_nan {a b : Nat} (h : isNan a = true ∨ isNan b = true) : eqW a b = (isNan a && isNan b) := by
  unfold eqW
  rw [if_pos (by simpa using h)]
theorem fn90 : FnOk Try.prog 90 Try.f90 (bodyOf Try.f90) := ⟨Try.func90, rfl, by rfl⟩
def s90 : Spec := hspec fun args H => match args, H with
  | [.c (.f .f32 a), .c (.f .f32 b)], [] => some (vB (eqW (a ()) (b ())), [], [])
  | _, _ => none
def E90 : Env := fun g => envGetL [(103, ⟨true, s103, none⟩)] g
theorem E90ok : EnvOk Try.prog E90 := envOk_cons ok103 (envOk_nil _)
theorem ok90 : Ok Try.prog 90 (s90) := ok_of_wpaH (E := E90) mixed tts E90ok fn90 fun args H v H' o hs ho => by
  split at hs
  · rename_i a b
    cases hs
    refine ⟨_, HLe.nil, ?_⟩
    cbv
    by_cases ha : isNan (a ⟨⟩) = true
    · have hr := eqW_nan (b := b ⟨⟩) (.inl ha)
      have ha' : fcmp .neq .f32 (a ⟨⟩) (a ⟨⟩) = true := ha
      by_cases hb : isNan (b ⟨⟩) = true
      · have hb' : fcmp .neq .f32 (b ⟨⟩) (b ⟨⟩) = true := hb
        rw [ha, hb] at hr
        repeat' first
          | (refine alt_t (by assumption) ?_; cbv)
          | (refine alt_f (by assumption) ?_; cbv)
          | (refine alt_b (fun h => ?_) (fun h => ?_) <;> cbv)
          | (refine Br.mk (fun h => ?_) (fun h => ?_) <;> cbv)
          | (refine Ob.mk ?_ ?_; rotate_left; cbv)
          | (refine Lex.mk (by kernel_rfl) ?_; cbv)
        all_goals (try simp only [Unit.unit, Int.ofNat_lt, Int.ofNat_le, BE.val, IE.val, NE.val, ltB_iff, ltB_no, leB_iff, leB_no, Int.toNat_natCast, Nat.zero_add, Nat.add_zero, Nat.mul_one, forced, beq_iff_eq, beq_eq_false_iff_ne, bne_iff_ne, bne_eq_false_iff_eq] at *)
        all_goals first | with_reducible rfl | exact nan_up ha | exact nan_up hb | exact ha | exact hb | (simp_all [isNan, cvU]; done) | (simp_all [isNan]; done) | grind [isNan]
      · have hb := Bool.eq_false_iff.2 hb
        have hb' : fcmp .neq .f32 (b ⟨⟩) (b ⟨⟩) = false := hb
        rw [ha, hb] at hr
        repeat' first
          | (refine alt_t (by assumption) ?_; cbv)
          | (refine alt_f (by assumption) ?_; cbv)
          | (refine alt_b (fun h => ?_) (fun h => ?_) <;> cbv)
          | (refine Br.mk (fun h => ?_) (fun h => ?_) <;> cbv)
          | (refine Ob.mk ?_ ?_; rotate_left; cbv)
          | (refine Lex.mk (by kernel_rfl) ?_; cbv)
        all_goals (try simp only [Unit.unit, Int.ofNat_lt, Int.ofNat_le, BE.val, IE.val, NE.val, ltB_iff, ltB_no, leB_iff, leB_no, Int.toNat_natCast, Nat.zero_add, Nat.add_zero, Nat.mul_one, forced, beq_iff_eq, beq_eq_false_iff_ne, bne_iff_ne, bne_eq_false_iff_eq] at *)
        all_goals first | with_reducible rfl | exact nan_up ha | exact nan_up hb | exact ha | exact hb | (simp_all [isNan, cvU]; done) | (simp_all [isNan]; done) | grind [isNan]
    · have ha := Bool.eq_false_iff.2 ha
      have ha' : fcmp .neq .f32 (a ⟨⟩) (a ⟨⟩) = false := ha
      by_cases hb : isNan (b ⟨⟩) = true
      · have hr := eqW_nan (a := a ⟨⟩) (.inr hb)
        have hb' : fcmp .neq .f32 (b ⟨⟩) (b ⟨⟩) = true := hb
        rw [ha, hb] at hr
        repeat' first
          | (refine alt_t (by assumption) ?_; cbv)
          | (refine alt_f (by assumption) ?_; cbv)
          | (refine alt_b (fun h => ?_) (fun h => ?_) <;> cbv)
          | (refine Br.mk (fun h => ?_) (fun h => ?_) <;> cbv)
          | (refine Ob.mk ?_ ?_; rotate_left; cbv)
          | (refine Lex.mk (by kernel_rfl) ?_; cbv)
        all_goals (try simp only [Unit.unit, Int.ofNat_lt, Int.ofNat_le, BE.val, IE.val, NE.val, ltB_iff, ltB_no, leB_iff, leB_no, Int.toNat_natCast, Nat.zero_add, Nat.add_zero, Nat.mul_one, forced, beq_iff_eq, beq_eq_false_iff_ne, bne_iff_ne, bne_eq_false_iff_eq] at *)
        all_goals first | with_reducible rfl | exact nan_up ha | exact nan_up hb | exact ha | exact hb | (simp_all [isNan, cvU]; done) | (simp_all [isNan]; done) | grind [isNan]
      · have hb := Bool.eq_false_iff.2 hb
        have hb' : fcmp .neq .f32 (b ⟨⟩) (b ⟨⟩) = false := hb
        have hr := eqW_num ha hb
        repeat' first
          | (refine alt_t (by assumption) ?_; cbv)
          | (refine alt_f (by assumption) ?_; cbv)
          | (refine alt_b (fun h => ?_) (fun h => ?_) <;> cbv)
          | (refine Br.mk (fun h => ?_) (fun h => ?_) <;> cbv)
          | (refine Ob.mk ?_ ?_; rotate_left; cbv)
          | (refine Lex.mk (by kernel_rfl) ?_; cbv)
        all_goals (try simp only [Unit.unit, Int.ofNat_lt, Int.ofNat_le, BE.val, IE.val, NE.val, ltB_iff, ltB_no, leB_iff, leB_no, Int.toNat_natCast, Nat.zero_add, Nat.add_zero, Nat.mul_one, forced, beq_iff_eq, beq_eq_false_iff_ne, bne_iff_ne, bne_eq_false_iff_eq] at *)
        all_goals first | with_reducible rfl | exact nan_up ha | exact nan_up hb | exact ha | exact hb | (simp_all [isNan, cvU]; done) | (simp_all [isNan]; done) | grind [isNan]
  · cases hs
def sameM (a b : M) : Bool := eqW a.1 b.1 && eqW a.2 b.2
def sameSh (p q : List M) : Bool := allI (fun i => sameM (at2 p i) (at2 q i)) 16
theorem fn49 : FnOk Try.prog 49 Try.f49 (bodyOf Try.f49) := ⟨Try.func49, rfl, by rfl⟩
def s49 : Spec := hspec fun args H => match args, H with
  | [.c (.z .f32 a1 a2), .c (.z .f32 b1 b2)], [] => some (vB (sameM (a1 (), a2 ()) (b1 (), b2 ())), [], [])
  | _, _ => none
def E49 : Env := fun g => envGetL [(56, ⟨true, s56, none⟩), (57, ⟨true, s57, none⟩), (90, ⟨true, s90, none⟩)] g
theorem E49ok : EnvOk Try.prog E49 := envOk_cons ok56 (envOk_cons ok57 (envOk_cons ok90 (envOk_nil _)))
theorem ok49 : Ok Try.prog 49 (s49) := ok_of_wpaH (E := E49) mixed tts E49ok fn49 fun args H v H' o hs ho => by
  split at hs
  · rename_i a1 a2 b1 b2
    cases hs
    refine ⟨_, HLe.refl _, ?_⟩
    cbv
    repeat' first
      | (refine Br.mk (fun h => ?_) (fun h => ?_) <;> cbv)
      | (refine Ob.mk ?_ ?_; rotate_left; cbv)
      | (refine Lex.mk (by decide +kernel) ?_; cbv)
    all_goals (try simp only [Unit.unit, Int.ofNat_lt, Int.ofNat_le, BE.val, IE.val, NE.val, ltB_iff, ltB_no, leB_iff, leB_no, Int.toNat_natCast, Nat.zero_add, Nat.add_zero, Nat.mul_one, forced, beq_iff_eq, beq_eq_false_iff_ne, bne_iff_ne, bne_eq_false_iff_eq] at *)
    all_goals first | with_reducible rfl | (simp_all [sameM]; done)
  · cases hs
theorem fn17 : FnOk Try.prog 17 Try.f17 (bodyOf Try.f17) := ⟨Try.func17, rfl, by rfl⟩
def s17 : Spec := hspec fun args H => match args, H with
  | [.c (.z .f32 a1 a2), .c (.z .f32 b1 b2)], [] => some (vB (sameM (a1 (), a2 ()) (b1 (), b2 ())), [], [])
  | _, _ => none
def E17 : Env := fun g => envGetL [(49, ⟨true, s49, none⟩)] g
theorem E17ok : EnvOk Try.prog E17 := envOk_cons ok49 (envOk_nil _)
theorem ok17 : Ok Try.prog 17 (s17) := ok_of_wpaH (E := E17) mixed tts E17ok fn17 fun args H v H' o hs ho => by
  split at hs
  · rename_i a1 a2 b1 b2
    cases hs
    refine ⟨_, HLe.refl _, ?_⟩
    cbv
    repeat' first
      | (refine Br.mk (fun h => ?_) (fun h => ?_) <;> cbv)
      | (refine Ob.mk ?_ ?_; rotate_left; cbv)
      | (refine Lex.mk (by decide +kernel) ?_; cbv)
    all_goals (try simp only [Unit.unit, Int.ofNat_lt, Int.ofNat_le, BE.val, IE.val, NE.val, ltB_iff, ltB_no, leB_iff, leB_no, Int.toNat_natCast, Nat.zero_add, Nat.add_zero, Nat.mul_one, forced, beq_iff_eq, beq_eq_false_iff_ne, bne_iff_ne, bne_eq_false_iff_eq] at *)
    all_goals first | with_reducible rfl | (simp_all [sameM]; done)
  · cases hs
end
section
theorem fn11 : FnOk Try.prog 11 Try.f11 (bodyOf Try.f11) := ⟨Try.func11, rfl, by rfl⟩
def s11 : Spec := hspec fun args H => match args, H with
  | [.a cs, .a ds], [] => match cxsOf cs, cxsOf ds with
    | some p, some q => some (vB (sameSh (forced p) (forced q)), [], [fun _ => p.length = 16, fun _ => q.length = 16])
    | _, _ => none
  | _, _ => none
def E11 : Env := fun g => envGetL [(49, ⟨true, s49, none⟩)] g
theorem E11ok : EnvOk Try.prog E11 := envOk_cons ok49 (envOk_nil _)
set_option maxRecDepth 100000 in
set_option maxHeartbeats 8000000 in
theorem ok11 : Ok Try.prog 11 (s11) := ok_of_wpaH (E := E11) mixed tts E11ok fn11 fun args H v H' o hs ho => by
  split at hs
  · rename_i cs ds
    split at hs
    · rename_i p q hp hq
      cases hs
      obtain ⟨hl1, hl2⟩ := ho.two
      obtain ⟨e, m, rfl, rfl⟩ := cx16 hp hl1
      obtain ⟨e', m', rfl, rfl⟩ := cx16 hq hl2
      clear hp hq hl1 hl2 ho
      refine ⟨_, HLe.refl _, ?_⟩
      cbv
      repeat' first
        | (refine Br.mk (fun h => ?_) (fun h => ?_) <;> cbv)
        | (refine Ob.mk ?_ ?_; rotate_left; cbv)
        | (refine Lex.mk (by decide +kernel) ?_; cbv)
        | (refine Loop.mk 70 ?_; cbv)
        | (refine Gen.same ?_; cbv)
      all_goals (try simp only [Unit.unit, Int.ofNat_lt, Int.ofNat_le, BE.val, IE.val, NE.val, ltB_iff, ltB_no, leB_iff, leB_no, Int.toNat_natCast, Nat.zero_add, Nat.add_zero, Nat.mul_one, forced, beq_iff_eq, beq_eq_false_iff_ne, bne_iff_ne, bne_eq_false_iff_eq] at *)
      all_goals first | with_reducible rfl | (simp_all [sameSh, allI, forced]; done)
    · cases hs
  · cases hs
end
section
theorem e105a : Extern.findNext Try.f105 = none := by rfl
theorem e105b : Extern.find Try.f105 = some (Extern.MathFloor.toIntegral "math.archFloor" .down) := by rfl
theorem int105 (b : Nat) (h : (FloatKind.f64.decode b).isNaN = false) : Extern.MathFloor.toIntegral "math.archFloor" .down #[.float .f64 b] = pure (.float .f64 (floorB b)) := by
  unfold floorB
  have e : Extern.MathFloor.toIntegral "math.archFloor" .down #[.float .f64 b] = (match FloatKind.f64.decode b with
    | .nan s t =>
      if FloatKind.f64.format.quiet t = t then pure (.float .f64 b) else do
      let kept ← choose (.extern "math.Floor,Ceil,Trunc,RoundToEven.signallingNaN kept" 2)
      pure (.float .f64 (if kept == 1 then b else FloatKind.f64.encode (.nan s (FloatKind.f64.format.quiet t))))
    | d => pure (.float .f64 (FloatKind.f64.encode (d.integral .down)))) := rfl
  rw [e]
  cases hd : FloatKind.f64.decode b with
  | nan s t => rw [hd] at h; cases h
  | infinity s => rfl
  | number s m i => rfl
def s105 : Spec := fun args H => match args with
  | [.c (.f .f64 e)] => some (.c (.f .f64 fun _ => floorB (e ())), H, [fun _ => (FloatKind.f64.decode (e ())).isNaN = false])
  | _ => none
theorem ok105 : Ok Try.prog 105 s105 := by
  intro args H v H' o hs ho μ W w vs hW hH hr
  unfold s105 at hs
  split at hs
  · rename_i e
    cases hs
    match vs, hr with
    | [x], hr =>
      obtain ⟨⟨b, rfl, hb⟩, _⟩ := hr
      have hn := ho.one
      have he : b = e () := by
        rcases hb with h | ⟨h1, h2⟩
        · exact h
        · have h2 : (FloatKind.f64.decode (e ())).isNaN = true := h2
          rw [h2] at hn; cases hn
      have hrun := run_callFunc_extern (P := Try.prog) (f := 105) Try.func105 (by rfl) (by rfl) e105a e105b #[.float .f64 b] w
      refine .inr ⟨.float .f64 (floorB b), w, ?_, μ, agree.refl _ _, Nat.le_refl _, hH, ⟨_, rfl, .inl (by rw [he])⟩, Fr.refl _ _⟩
      rw [hrun, int105 b (by rw [he]; exact hn)]
      simp
  · cases hs
theorem e107a : Extern.findNext Try.f107 = none := by rfl
theorem e107b : Extern.find Try.f107 = some (Extern.MathFloor.toIntegral "math.archCeil" .up) := by rfl
theorem int107 (b : Nat) (h : (FloatKind.f64.decode b).isNaN = false) : Extern.MathFloor.toIntegral "math.archCeil" .up #[.float .f64 b] = pure (.float .f64 (ceilB b)) := by
  unfold ceilB
  have e : Extern.MathFloor.toIntegral "math.archCeil" .up #[.float .f64 b] = (match FloatKind.f64.decode b with
    | .nan s t =>
      if FloatKind.f64.format.quiet t = t then pure (.float .f64 b) else do
      let kept ← choose (.extern "math.Floor,Ceil,Trunc,RoundToEven.signallingNaN kept" 2)
      pure (.float .f64 (if kept == 1 then b else FloatKind.f64.encode (.nan s (FloatKind.f64.format.quiet t))))
    | d => pure (.float .f64 (FloatKind.f64.encode (d.integral .up)))) := rfl
  rw [e]
  cases hd : FloatKind.f64.decode b with
  | nan s t => rw [hd] at h; cases h
  | infinity s => rfl
  | number s m i => rfl
def s107 : Spec := fun args H => match args with
  | [.c (.f .f64 e)] => some (.c (.f .f64 fun _ => ceilB (e ())), H, [fun _ => (FloatKind.f64.decode (e ())).isNaN = false])
  | _ => none
theorem ok107 : Ok Try.prog 107 s107 := by
  intro args H v H' o hs ho μ W w vs hW hH hr
  unfold s107 at hs
  split at hs
  · rename_i e
    cases hs
    match vs, hr with
    | [x], hr =>
      obtain ⟨⟨b, rfl, hb⟩, _⟩ := hr
      have hn := ho.one
      have he : b = e () := by
        rcases hb with h | ⟨h1, h2⟩
        · exact h
        · have h2 : (FloatKind.f64.decode (e ())).isNaN = true := h2
          rw [h2] at hn; cases hn
      have hrun := run_callFunc_extern (P := Try.prog) (f := 107) Try.func107 (by rfl) (by rfl) e107a e107b #[.float .f64 b] w
      refine .inr ⟨.float .f64 (ceilB b), w, ?_, μ, agree.refl _ _, Nat.le_refl _, hH, ⟨_, rfl, .inl (by rw [he])⟩, Fr.refl _ _⟩
      rw [hrun, int107 b (by rw [he]; exact hn)]
      simp
  · cases hs
theorem fn99 : FnOk Try.prog 99 Try.f99 (bodyOf Try.f99) := ⟨Try.func99, rfl, by rfl⟩
def s99 : Spec := hspec fun args H => match args, H with
  | [.c (.f .f64 a)], [] => some (.c (.f .f64 fun _ => floorB (a ())), [], [fun _ => (FloatKind.f64.decode (a ())).isNaN = false])
  | _, _ => none
def E99 : Env := fun g => envGetL [(105, ⟨true, s105, none⟩)] g
theorem E99ok : EnvOk Try.prog E99 := envOk_cons ok105 (envOk_nil _)
theorem ok99 : Ok Try.prog 99 (s99) := ok_of_wpaH (E := E99) mixed tts E99ok fn99 fun args H v H' o hs ho => by
  split at hs
  · rename_i a
    cases hs
    obtain hx0 := ho.one
    refine ⟨_, HLe.refl _, ?_⟩
    cbv
    repeat' first
      | (refine Br.mk (fun h => ?_) (fun h => ?_) <;> cbv)
      | (refine Ob.mk ?_ ?_; rotate_left; cbv)
      | (refine Lex.mk (by decide +kernel) ?_; cbv)
    all_goals try (first | exact hx0)
    all_goals (try simp only [Unit.unit, Int.ofNat_lt, Int.ofNat_le, BE.val, IE.val, NE.val, ltB_iff, ltB_no, leB_iff, leB_no, Int.toNat_natCast, Nat.zero_add, Nat.add_zero, Nat.mul_one, forced, beq_iff_eq, beq_eq_false_iff_ne, bne_iff_ne, bne_eq_false_iff_eq] at *)
    all_goals first | with_reducible rfl | exact hx0
  · cases hs
theorem fn100 : FnOk Try.prog 100 Try.f100 (bodyOf Try.f100) := ⟨Try.func100, rfl, by rfl⟩
def s100 : Spec := hspec fun args H => match args, H with
  | [.c (.f .f64 a)], [] => some (.c (.f .f64 fun _ => ceilB (a ())), [], [fun _ => (FloatKind.f64.decode (a ())).isNaN = false])
  | _, _ => none
def E100 : Env := fun g => envGetL [(107, ⟨true, s107, none⟩)] g
theorem E100ok : EnvOk Try.prog E100 := envOk_cons ok107 (envOk_nil _)
theorem ok100 : Ok Try.prog 100 (s100) := ok_of_wpaH (E := E100) mixed tts E100ok fn100 fun args H v H' o hs ho => by
  split at hs
  · rename_i a
    cases hs
    obtain hx0 := ho.one
    refine ⟨_, HLe.refl _, ?_⟩
    cbv
    repeat' first
      | (refine Br.mk (fun h => ?_) (fun h => ?_) <;> cbv)
      | (refine Ob.mk ?_ ?_; rotate_left; cbv)
      | (refine Lex.mk (by decide +kernel) ?_; cbv)
    all_goals try (first | exact hx0)
    all_goals (try simp only [Unit.unit, Int.ofNat_lt, Int.ofNat_le, BE.val, IE.val, NE.val, ltB_iff, ltB_no, leB_iff, leB_no, Int.toNat_natCast, Nat.zero_add, Nat.add_zero, Nat.mul_one, forced, beq_iff_eq, beq_eq_false_iff_ne, bne_iff_ne, bne_eq_false_iff_eq] at *)
    all_goals first | with_reducible rfl | exact hx0
  · cases hs
def stFine (a s : Nat) : Bool := if fcmp .geq .f32 (fop .quo .f32 a s) 0 = true then
    !(FloatKind.f64.decode (cv (fop .add .f32 (fop .quo .f32 a s) 1056964608))).isNaN && (floatToFloatBits .f64 (floorB (cv (fop .add .f32 (fop .quo .f32 a s) 1056964608))) .f32).isSome
  else !(FloatKind.f64.decode (cv (fop .sub .f32 (fop .quo .f32 a s) 1056964608))).isNaN && (floatToFloatBits .f64 (ceilB (cv (fop .sub .f32 (fop .quo .f32 a s) 1056964608))) .f32).isSome
theorem nbf' {b : Bool} (h : (!b) = true) : b = false := by cases b <;> simp_all
theorem fn61 : FnOk Try.prog 61 Try.f61 (bodyOf Try.f61) := ⟨Try.func61, rfl, by rfl⟩
def s61 : Spec := hspec fun args H => match args, H with
  | [.c (.f .f32 a), .c (.f .f32 s)], [] => some (F (stepX (a ()) (s ())), [], [fun _ => stFine (a ()) (s ()) = true])
  | _, _ => none
def E61 : Env := fun g => envGetL [(45, ⟨true, s45, none⟩), (99, ⟨true, s99, none⟩), (100, ⟨true, s100, none⟩)] g
theorem E61ok : EnvOk Try.prog E61 := envOk_cons ok45 (envOk_cons ok99 (envOk_cons ok100 (envOk_nil _)))
set_option maxRecDepth 100000 in
set_option maxHeartbeats 1000000 in
theorem ok61 : Ok Try.prog 61 (s61) := ok_of_wpaH (E := E61) mixed tts E61ok fn61 fun args H v H' o hs ho => by
  split at hs
  · rename_i a s
    cases hs
    have hf : stFine (a ⟨⟩) (s ⟨⟩) = true := ho.one
    unfold stFine at hf
    refine ⟨_, HLe.refl _, ?_⟩
    cbv
    refine Br.mk (fun h => ?_) (fun h => ?_)
    · have h : fcmp .geq .f32 (fop .quo .f32 (a ⟨⟩) (s ⟨⟩)) 0 = true := h
      have e1 : stepX (a ⟨⟩) (s ⟨⟩) = fop .mul .f32 (s ⟨⟩) (dn (floorB (cv (fop .add .f32 (fop .quo .f32 (a ⟨⟩) (s ⟨⟩)) 1056964608)))) := if_pos h
      have e2 : (!(FloatKind.f64.decode (cv (fop .add .f32 (fop .quo .f32 (a ⟨⟩) (s ⟨⟩)) 1056964608))).isNaN && (floatToFloatBits .f64 (floorB (cv (fop .add .f32 (fop .quo .f32 (a ⟨⟩) (s ⟨⟩)) 1056964608))) .f32).isSome) = true := by rw [← hf]; exact (if_pos h).symm
      obtain ⟨h1, h2⟩ := Bool.and_eq_true_iff.1 e2
      have h1 := nbf' h1
      cbv
      repeat' (refine Ob.mk ?_ ?_; (focus (first | exact h1 | exact fun _ => h2 | exact e1.symm)); cbv)
    · have h : fcmp .geq .f32 (fop .quo .f32 (a ⟨⟩) (s ⟨⟩)) 0 = false := h
      have e1 : stepX (a ⟨⟩) (s ⟨⟩) = fop .mul .f32 (s ⟨⟩) (dn (ceilB (cv (fop .sub .f32 (fop .quo .f32 (a ⟨⟩) (s ⟨⟩)) 1056964608)))) := if_neg (by rw [h]; decide)
      have e2 : (!(FloatKind.f64.decode (cv (fop .sub .f32 (fop .quo .f32 (a ⟨⟩) (s ⟨⟩)) 1056964608))).isNaN && (floatToFloatBits .f64 (ceilB (cv (fop .sub .f32 (fop .quo .f32 (a ⟨⟩) (s ⟨⟩)) 1056964608))) .f32).isSome) = true := by rw [← hf]; exact (if_neg (by rw [h]; decide)).symm
      obtain ⟨h1, h2⟩ := Bool.and_eq_true_iff.1 e2
      have h1 := nbf' h1
      cbv
      repeat' (refine Ob.mk ?_ ?_; (focus (first | exact h1 | exact fun _ => h2 | exact e1.symm)); cbv)
  · cases hs
theorem fn63 : FnOk Try.prog 63 Try.f63 (bodyOf Try.f63) := ⟨Try.func63, rfl, by rfl⟩
def s63 : Spec := hspec fun args H => match args, H with
  | [.c (.f .f32 a), .c (.f .f32 s)], [] => some (F (stepX (a ()) (s ())), [], [fun _ => stFine (a ()) (s ()) = true])
  | _, _ => none
def E63 : Env := fun g => envGetL [(99, ⟨true, s99, none⟩), (100, ⟨true, s100, none⟩)] g
theorem E63ok : EnvOk Try.prog E63 := envOk_cons ok99 (envOk_cons ok100 (envOk_nil _))
set_option maxRecDepth 100000 in
set_option maxHeartbeats 1000000 in
theorem ok63 : Ok Try.prog 63 (s63) := ok_of_wpaH (E := E63) mixed tts E63ok fn63 fun args H v H' o hs ho => by
  split at hs
  · rename_i a s
    cases hs
    have hf : stFine (a ⟨⟩) (s ⟨⟩) = true := ho.one
    unfold stFine at hf
    refine ⟨_, HLe.refl _, ?_⟩
    cbv
    refine Br.mk (fun h => ?_) (fun h => ?_)
    · have h : fcmp .geq .f32 (fop .quo .f32 (a ⟨⟩) (s ⟨⟩)) 0 = true := h
      have e1 : stepX (a ⟨⟩) (s ⟨⟩) = fop .mul .f32 (s ⟨⟩) (dn (floorB (cv (fop .add .f32 (fop .quo .f32 (a ⟨⟩) (s ⟨⟩)) 1056964608)))) := if_pos h
      have e2 : (!(FloatKind.f64.decode (cv (fop .add .f32 (fop .quo .f32 (a ⟨⟩) (s ⟨⟩)) 1056964608))).isNaN && (floatToFloatBits .f64 (floorB (cv (fop .add .f32 (fop .quo .f32 (a ⟨⟩) (s ⟨⟩)) 1056964608))) .f32).isSome) = true := by rw [← hf]; exact (if_pos h).symm
      obtain ⟨h1, h2⟩ := Bool.and_eq_true_iff.1 e2
      have h1 := nbf' h1
      cbv
      repeat' (refine Ob.mk ?_ ?_; (focus (first | exact h1 | exact fun _ => h2 | exact e1.symm)); cbv)
    · have h : fcmp .geq .f32 (fop .quo .f32 (a ⟨⟩) (s ⟨⟩)) 0 = false := h
      have e1 : stepX (a ⟨⟩) (s ⟨⟩) = fop .mul .f32 (s ⟨⟩) (dn (ceilB (cv (fop .sub .f32 (fop .quo .f32 (a ⟨⟩) (s ⟨⟩)) 1056964608)))) := if_neg (by rw [h]; decide)
      have e2 : (!(FloatKind.f64.decode (cv (fop .sub .f32 (fop .quo .f32 (a ⟨⟩) (s ⟨⟩)) 1056964608))).isNaN && (floatToFloatBits .f64 (ceilB (cv (fop .sub .f32 (fop .quo .f32 (a ⟨⟩) (s ⟨⟩)) 1056964608))) .f32).isSome) = true := by rw [← hf]; exact (if_neg (by rw [h]; decide)).symm
      obtain ⟨h1, h2⟩ := Bool.and_eq_true_iff.1 e2
      have h1 := nbf' h1
      cbv
      repeat' (refine Ob.mk ?_ ?_; (focus (first | exact h1 | exact fun _ => h2 | exact e1.symm)); cbv)
  · cases hs
theorem fn15 : FnOk Try.prog 15 Try.f15 (bodyOf Try.f15) := ⟨Try.func15, rfl, by rfl⟩
def s15 : Spec := hspec fun args H => match args, H with
  | [.c (.z .f32 a1 a2), .c (.f .f32 s)], [] => some (.t [Zm (stepX (a1 ()) (s ()), stepX (a2 ()) (s ())), vI 0], [], [fun _ => okM (a1 (), a2 ()) = true ∧ isIn (s ()) 981467136 1166016512 = true ∧ stFine (a1 ()) (s ()) = true ∧ stFine (a2 ()) (s ()) = true])
  | _, _ => none
def E15 : Env := fun g => envGetL [(59, ⟨true, s59, none⟩), (60, ⟨true, s60, none⟩), (46, ⟨true, s46, none⟩), (47, ⟨true, s47, none⟩), (61, ⟨true, s61, none⟩), (44, ⟨true, s44, none⟩)] g
theorem E15ok : EnvOk Try.prog E15 := envOk_cons ok59 (envOk_cons ok60 (envOk_cons ok46 (envOk_cons ok47 (envOk_cons ok61 (envOk_cons ok44 (envOk_nil _))))))
set_option maxRecDepth 100000 in
set_option maxHeartbeats 1000000 in
theorem ok15 : Ok Try.prog 15 (s15) := ok_of_wpaH (E := E15) mixed tts E15ok fn15 fun args H v H' o hs ho => by
  split at hs
  · rename_i a1 a2 s
    cases hs
    obtain ⟨h1, h2, h3, h4⟩ := ho.one
    have h21 : fcmp .geq .f32 (s ⟨⟩) 981467136 = true := (Bool.and_eq_true_iff.1 h2).1
    have h22 : fcmp .leq .f32 (s ⟨⟩) 1166016512 = true := (Bool.and_eq_true_iff.1 h2).2
    refine ⟨_, HLe.refl _, ?_⟩
    cbv
    refine Br.f (ntf h1) ?_
    cbv
    refine Br.f (ntf h2) ?_
    cbv
    repeat' (refine Ob.mk ?_ ?_; (focus (first | exact h3 | exact h4 | exact rfl)); cbv)
  · cases hs
theorem fn16 : FnOk Try.prog 16 Try.f16 (bodyOf Try.f16) := ⟨Try.func16, rfl, by rfl⟩
def s16 : Spec := hspec fun args H => match args, H with
  | [.c (.z .f32 a1 a2), .c (.f .f32 s)], [] => some (.t [Zm (stepX (a1 ()) (s ()), stepX (a2 ()) (s ())), vI 0], [], [fun _ => okM (a1 (), a2 ()) = true ∧ isIn (s ()) 981467136 1166016512 = true ∧ stFine (a1 ()) (s ()) = true ∧ stFine (a2 ()) (s ()) = true])
  | _, _ => none
def E16 : Env := fun g => envGetL [(62, ⟨true, s62, none⟩), (56, ⟨true, s56, none⟩), (57, ⟨true, s57, none⟩), (63, ⟨true, s63, none⟩), (38, ⟨true, s38, none⟩)] g
theorem E16ok : EnvOk Try.prog E16 := envOk_cons ok62 (envOk_cons ok56 (envOk_cons ok57 (envOk_cons ok63 (envOk_cons ok38 (envOk_nil _)))))
set_option maxRecDepth 100000 in
set_option maxHeartbeats 1000000 in
theorem ok16 : Ok Try.prog 16 (s16) := ok_of_wpaH (E := E16) mixed tts E16ok fn16 fun args H v H' o hs ho => by
  split at hs
  · rename_i a1 a2 s
    cases hs
    obtain ⟨h1, h2, h3, h4⟩ := ho.one
    have h21 : fcmp .geq .f32 (s ⟨⟩) 981467136 = true := (Bool.and_eq_true_iff.1 h2).1
    have h22 : fcmp .leq .f32 (s ⟨⟩) 1166016512 = true := (Bool.and_eq_true_iff.1 h2).2
    refine ⟨_, HLe.refl _, ?_⟩
    cbv
    refine Br.f (ntf h1) ?_
    cbv
    refine Br.t h21 ?_
    cbv
    refine Br.f (ntf h22) ?_
    cbv
    repeat' (refine Ob.mk ?_ ?_; (focus (first | exact h3 | exact h4 | exact rfl)); cbv)
  · cases hs
end
end Go.Proofs.Ytanndlifpojenaa.Sh
