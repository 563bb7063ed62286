/- Products of marks; drawn marks; offsets that are asked for. No condition. -/
import Derived.Test.YteifneielgnniaaGreatDoorMe
set_option linter.unusedVariables false
set_option linter.unusedSimpArgs false
set_option linter.unusedSectionVars false
section
namespace Go.Proofs.YteifneielgnniaaGreatDoor.Sh
namespace Rg
open Go Go.Proofs
theorem fn34 : FnOk Tryz.prog 34 Tryz.f34 (bodyOf Tryz.f34) := ⟨Tryz.func34, rfl, by rfl⟩
def s34 : Spec := hspec fun args H => match args, H with
  | [.c (.z .f32 a1 a2), .c (.z .f32 b1 b2)], [] => some (Zm (timesM (a1 (), a2 ()) (b1 (), b2 ())), [], [])
  | _, _ => none
def E34 : Env := fun g => envGetL [(82, ⟨true, s82, none⟩), (92, ⟨true, s92, none⟩), (83, ⟨true, s83, none⟩), (84, ⟨true, s84, none⟩)] g
theorem E34ok : EnvOk Tryz.prog E34 := envOk_cons ok82 (envOk_cons ok92 (envOk_cons ok83 (envOk_cons ok84 (envOk_nil _))))
theorem ok34 : Ok Tryz.prog 34 (s34) := ok_of_wpaH (E := E34) mixed tts E34ok fn34 fun args H v H' o hs ho => by
  split at hs
  · rename_i a1 a2 b1 b2
    cases hs
    refine ⟨_, HLe.refl _, ?_⟩
    cbv
    repeat' first
      | (refine Br.mk (fun h => ?_) (fun h => ?_) <;> cbv)
      | (refine Ob.mk ?_ ?_; rotate_left; cbv)
      | (refine Lex.mk (by decide +kernel) ?_; cbv)
    all_goals (try simp only [Unit.unit, Int.ofNat_lt, Int.ofNat_le, BE.val, IE.val, NE.val, ltB_iff, ltB_no, leB_iff, leB_no, Int.toNat_natCast, Nat.zero_add, Nat.add_zero, Nat.mul_one, forced, beq_iff_eq, beq_eq_false_iff_ne, bne_iff_ne, bne_eq_false_iff_eq] at *)
    all_goals first | with_reducible rfl | rfl
  · cases hs
theorem fn93 : FnOk Tryz.prog 93 Tryz.f93 (bodyOf Tryz.f93) := ⟨Tryz.func93, rfl, by rfl⟩
def s93 : Spec := hspec fun args H => match args, H with
  | [.c (.z .f32 a1 a2), .c (.z .f32 b1 b2)], [] => some (Zm (timesM (a1 (), a2 ()) (b1 (), b2 ())), [], [])
  | _, _ => none
def E93 : Env := fun g => envGetL [(87, ⟨true, s87, none⟩), (126, ⟨true, s126, none⟩), (127, ⟨true, s127, none⟩)] g
theorem E93ok : EnvOk Tryz.prog E93 := envOk_cons ok87 (envOk_cons ok126 (envOk_cons ok127 (envOk_nil _)))
theorem ok93 : Ok Tryz.prog 93 (s93) := ok_of_wpaH (E := E93) mixed tts E93ok fn93 fun args H v H' o hs ho => by
  split at hs
  · rename_i a1 a2 b1 b2
    cases hs
    refine ⟨_, HLe.refl _, ?_⟩
    cbv
    repeat' first
      | (refine Br.mk (fun h => ?_) (fun h => ?_) <;> cbv)
      | (refine Ob.mk ?_ ?_; rotate_left; cbv)
      | (refine Lex.mk (by decide +kernel) ?_; cbv)
    all_goals (try simp only [Unit.unit, Int.ofNat_lt, Int.ofNat_le, BE.val, IE.val, NE.val, ltB_iff, ltB_no, leB_iff, leB_no, Int.toNat_natCast, Nat.zero_add, Nat.add_zero, Nat.mul_one, forced, beq_iff_eq, beq_eq_false_iff_ne, bne_iff_ne, bne_eq_false_iff_eq] at *)
    all_goals first | with_reducible rfl | rfl
  · cases hs
theorem fn33 : FnOk Tryz.prog 33 Tryz.f33 (bodyOf Tryz.f33) := ⟨Tryz.func33, rfl, by rfl⟩
def s33 : Spec := hspec fun args H => match args, H with
  | [.c (.z .f32 a1 a2), .c (.z .f32 b1 b2)], [] => some (Zm (minusM (a1 (), a2 ()) (b1 (), b2 ())), [], [])
  | _, _ => none
def E33 : Env := fun g => envGetL [(91, ⟨true, s91, none⟩)] g
theorem E33ok : EnvOk Tryz.prog E33 := envOk_cons ok91 (envOk_nil _)
theorem ok33 : Ok Tryz.prog 33 (s33) := ok_of_wpaH (E := E33) mixed tts E33ok fn33 fun args H v H' o hs ho => by
  split at hs
  · rename_i a1 a2 b1 b2
    cases hs
    refine ⟨_, HLe.refl _, ?_⟩
    cbv
    repeat' first
      | (refine Br.mk (fun h => ?_) (fun h => ?_) <;> cbv)
      | (refine Ob.mk ?_ ?_; rotate_left; cbv)
      | (refine Lex.mk (by decide +kernel) ?_; cbv)
    all_goals (try simp only [Unit.unit, Int.ofNat_lt, Int.ofNat_le, BE.val, IE.val, NE.val, ltB_iff, ltB_no, leB_iff, leB_no, Int.toNat_natCast, Nat.zero_add, Nat.add_zero, Nat.mul_one, forced, beq_iff_eq, beq_eq_false_iff_ne, bne_iff_ne, bne_eq_false_iff_eq] at *)
    all_goals first | with_reducible rfl | rfl
  · cases hs
end Rg
end Go.Proofs.YteifneielgnniaaGreatDoor.Sh
end
section
namespace Go.Proofs.YteifneielgnniaaGreatDoor.Sh
namespace Rg
open Go Go.Proofs
theorem fn111 : FnOk Tryz.prog 111 Tryz.f111 (bodyOf Tryz.f111) := ⟨Tryz.func111, rfl, by rfl⟩
def s111 : Spec := hspec fun args H => match args, H with
  | [.c (.p 0 (.l 0)), .c (.sl 1 (.x o') (.x m))], [some ⟨true, 0, .lit [.sl 2 (.x o) (.x n), .i .i64 (.x a), .i .u64 (.x s)]⟩, some ⟨true, 1, x⟩, some ⟨false, 0, .it .u8 L⟩] => match x.toIt .i64 with
    | some l => some (vI ((l ()).getD (pkV (L ()) (m () : Int) (a (), s ())).toNat 0), [some ⟨true, 0, .lit [.sl 2 (.x o) (.x n), .i .i64 (.x fun _ => (pkQ (L ()) (m () : Int) (a (), s ())).1), .i .u64 (.x fun _ => (pkQ (L ()) (m () : Int) (a (), s ())).2)]⟩, some ⟨true, 1, .it .i64 l⟩, some ⟨false, 0, .it .u8 L⟩], [fun _ => 0 ≤ a () ∧ a () ≤ 50000, fun _ => o () = 0 ∧ (L ()).length = n () ∧ n () ≤ 4096 ∧ bytesOk (L ()), fun _ => o' () = 0 ∧ (l ()).length = m () ∧ 1 ≤ m () ∧ m () ≤ 200])
    | none => none
  | [.c (.p 0 (.l 0)), .c (.sl 1 (.x o') (.x m))], [some ⟨true, 0, .lit [.sn, .i .i64 (.x a), .i .u64 (.x s)]⟩, some ⟨true, 1, x⟩] => match x.toIt .i64 with
    | some l => some (vI ((l ()).getD (pkV [] (m () : Int) (a (), s ())).toNat 0), [some ⟨true, 0, .lit [.sn, .i .i64 (.x fun _ => (pkQ [] (m () : Int) (a (), s ())).1), .i .u64 (.x fun _ => (pkQ [] (m () : Int) (a (), s ())).2)]⟩, some ⟨true, 1, .it .i64 l⟩], [fun _ => 0 ≤ a () ∧ a () ≤ 50000, fun _ => o' () = 0 ∧ (l ()).length = m () ∧ 1 ≤ m () ∧ m () ≤ 200])
    | none => none
  | _, _ => none
def E111 : Env := fun g => envGetL [(55, ⟨false, s55, none⟩)] g
theorem E111ok : EnvOk Tryz.prog E111 := envOk_cons ok55 (envOk_nil _)
set_option maxRecDepth 100000 in
set_option maxHeartbeats 1000000 in
theorem ok111 : Ok Tryz.prog 111 (s111) := ok_of_wpaH (E := E111) mixed tts E111ok fn111 fun args H v H' o hs ho => by
  split at hs
  · rename_i o' m o n a s x L
    split at hs
    · rename_i l hl
      cases hs
      obtain ⟨⟨ha0, ha1⟩, ⟨ho0, hlen, hbig, hby⟩, ⟨ho1, hlen1, hm1, hm2⟩⟩ := ho.three
      try simp only [Unit.unit] at *
      have hb := pkV_bd hby (k := (m ⟨⟩ : Int)) (by omega) (a ⟨⟩, s ⟨⟩)
      refine ⟨_, HLe.cons (BLe.refl _) (HLe.cons (BLe.it hl) (HLe.cons (BLe.refl _) HLe.nil)), ?_⟩
      cbv
      repeat' first
        | (refine Br.mk (fun h => ?_) (fun h => ?_) <;> cbv)
        | (refine Ob.mk ?_ ?_; rotate_left; cbv)
        | (refine Lex.mk (by decide +kernel) ?_; cbv)
      all_goals try (first | exact ⟨ha0, Int.le_trans ha1 (by decide)⟩ | exact ha1 | exact ⟨ho0, hlen, hbig, hby⟩ | exact ⟨by trivial, hlen, hbig, hby⟩ | exact hb | exact natlt hb.1 hb.2)
      all_goals (try simp only [Unit.unit, Int.ofNat_lt, Int.ofNat_le, BE.val, IE.val, NE.val, ltB_iff, ltB_no, leB_iff, leB_no, Int.toNat_natCast, Nat.zero_add, Nat.add_zero, Nat.mul_one, forced, beq_iff_eq, beq_eq_false_iff_ne, bne_iff_ne, bne_eq_false_iff_eq] at *)
      all_goals (try simp only [ho1, Nat.zero_add, Nat.mul_one] at *)
      all_goals first | with_reducible rfl | exact hb | exact natlt hb.1 hb.2 | (rw [hlen1]; exact natlt hb.1 hb.2) | rfl
    · cases hs
  · rename_i o' m a s x
    split at hs
    · rename_i l hl
      cases hs
      obtain ⟨⟨ha0, ha1⟩, ⟨ho1, hlen1, hm1, hm2⟩⟩ := ho.two
      have hby := bytes_nil
      try simp only [Unit.unit] at *
      have hb := pkV_bd hby (k := (m ⟨⟩ : Int)) (by omega) (a ⟨⟩, s ⟨⟩)
      refine ⟨_, HLe.cons (BLe.refl _) (HLe.cons (BLe.it hl) HLe.nil), ?_⟩
      cbv
      repeat' first
        | (refine Br.mk (fun h => ?_) (fun h => ?_) <;> cbv)
        | (refine Ob.mk ?_ ?_; rotate_left; cbv)
        | (refine Lex.mk (by decide +kernel) ?_; cbv)
      all_goals try (first | exact ⟨ha0, Int.le_trans ha1 (by decide)⟩ | exact ha1 | exact hb | exact natlt hb.1 hb.2)
      all_goals (try simp only [Unit.unit, Int.ofNat_lt, Int.ofNat_le, BE.val, IE.val, NE.val, ltB_iff, ltB_no, leB_iff, leB_no, Int.toNat_natCast, Nat.zero_add, Nat.add_zero, Nat.mul_one, forced, beq_iff_eq, beq_eq_false_iff_ne, bne_iff_ne, bne_eq_false_iff_eq] at *)
      all_goals (try simp only [ho1, Nat.zero_add, Nat.mul_one] at *)
      all_goals first | with_reducible rfl | exact hb | exact natlt hb.1 hb.2 | (rw [hlen1]; exact natlt hb.1 hb.2) | rfl
    · cases hs
  · cases hs
theorem e117a : Extern.findNext Tryz.f166 = none := by rfl
theorem e117b : Extern.find Tryz.f166 = some Extern.MathFloatBits.float64frombits := by rfl
def s166 : Spec := fun args H => match args with
  | [.c (.i .u64 e)] => some (.c (.f .f64 fun _ => e.val.toNat), H, [])
  | _ => none
theorem ok166 : Ok Tryz.prog 166 s166 := by
  intro args H v H' o hs ho μ W w vs hW hH hr
  unfold s166 at hs
  split at hs
  · rename_i e
    cases hs
    match vs, hr with
    | [x], hr =>
      obtain ⟨rfl, _⟩ := hr
      refine .inr ⟨.float .f64 e.val.toNat, w, ?_, μ, agree.refl _ _, Nat.le_refl _, hH, ⟨_, rfl, .inl rfl⟩, Fr.refl _ _⟩
      rw [run_callFunc_extern (P := Tryz.prog) (f := 166) Tryz.func166 (by rfl) (by rfl) e117a e117b #[.int .u64 e.val] w]
      rfl
  · cases hs
theorem e111a : Extern.findNext Tryz.f149 = none := by rfl
theorem e111b : Extern.find Tryz.f149 = some Extern.MathFloatBits.float32frombits := by rfl
def s149 : Spec := fun args H => match args with
  | [.c (.i .u32 e)] => some (.c (.f .f32 fun _ => e.val.toNat), H, [])
  | _ => none
theorem ok149 : Ok Tryz.prog 149 s149 := by
  intro args H v H' o hs ho μ W w vs hW hH hr
  unfold s149 at hs
  split at hs
  · rename_i e
    cases hs
    match vs, hr with
    | [x], hr =>
      obtain ⟨rfl, _⟩ := hr
      refine .inr ⟨.float .f32 e.val.toNat, w, ?_, μ, agree.refl _ _, Nat.le_refl _, hH, ⟨_, rfl, .inl rfl⟩, Fr.refl _ _⟩
      rw [run_callFunc_extern (P := Tryz.prog) (f := 149) Tryz.func149 (by rfl) (by rfl) e111a e111b #[.int .u32 e.val] w]
      rfl
  · cases hs
theorem fn147 : FnOk Tryz.prog 147 Tryz.f147 (bodyOf Tryz.f147) := ⟨Tryz.func147, rfl, by rfl⟩
def s147 : Spec := hspec fun args H => match args, H with
  | [], [] => some (.c (.f .f64 fun _ => 9221120237041090561), [], [])
  | _, _ => none
def E147 : Env := fun g => envGetL [(166, ⟨true, s166, none⟩)] g
theorem E147ok : EnvOk Tryz.prog E147 := envOk_cons ok166 (envOk_nil _)
theorem ok147 : Ok Tryz.prog 147 (s147) := ok_of_wpaH (E := E147) mixed tts E147ok fn147 fun args H v H' o hs ho => by
  split at hs
  · cases hs
    refine ⟨_, HLe.refl _, ?_⟩
    cbv
    repeat' first
      | (refine Br.mk (fun h => ?_) (fun h => ?_) <;> cbv)
      | (refine Ob.mk ?_ ?_; rotate_left; cbv)
      | (refine Lex.mk (by decide +kernel) ?_; cbv)
    all_goals (try simp only [Unit.unit, Int.ofNat_lt, Int.ofNat_le, BE.val, IE.val, NE.val, ltB_iff, ltB_no, leB_iff, leB_no, Int.toNat_natCast, Nat.zero_add, Nat.add_zero, Nat.mul_one, forced, beq_iff_eq, beq_eq_false_iff_ne, bne_iff_ne, bne_eq_false_iff_eq] at *)
    all_goals first | with_reducible rfl | rfl
  · cases hs
theorem fn148 : FnOk Tryz.prog 148 Tryz.f148 (bodyOf Tryz.f148) := ⟨Tryz.func148, rfl, by rfl⟩
def s148 : Spec := hspec fun args H => match args, H with
  | [.c (.i .i64 (.x s))], [] => some (.c (.f .f64 fun _ => if 0 ≤ s () then 9218868437227405312 else 18442240474082181120), [], [])
  | _, _ => none
def E148 : Env := fun g => envGetL [(166, ⟨true, s166, none⟩)] g
theorem E148ok : EnvOk Tryz.prog E148 := envOk_cons ok166 (envOk_nil _)
theorem ok148 : Ok Tryz.prog 148 (s148) := ok_of_wpaH (E := E148) mixed tts E148ok fn148 fun args H v H' o hs ho => by
  split at hs
  · rename_i s
    cases hs
    refine ⟨_, HLe.refl _, ?_⟩
    cbv
    repeat' first
      | (refine Br.mk (fun h => ?_) (fun h => ?_) <;> cbv)
      | (refine Ob.mk ?_ ?_; rotate_left; cbv)
      | (refine Lex.mk (by decide +kernel) ?_; cbv)
    all_goals (try simp only [Unit.unit, Int.ofNat_lt, Int.ofNat_le, BE.val, IE.val, NE.val, ltB_iff, ltB_no, leB_iff, leB_no, Int.toNat_natCast, Nat.zero_add, Nat.add_zero, Nat.mul_one, forced, beq_iff_eq, beq_eq_false_iff_ne, bne_iff_ne, bne_eq_false_iff_eq] at *)
    all_goals first | with_reducible rfl | (simp_all; done)
  · cases hs
theorem fn150 : FnOk Tryz.prog 150 Tryz.f150 (bodyOf Tryz.f150) := ⟨Tryz.func150, rfl, by rfl⟩
def s150 : Spec := hspec fun args H => match args, H with
  | [.c (.p 0 (.l 0))], [some ⟨true, 0, .lit [.sl 1 (.x o) (.x n), .i .i64 (.x a), .i .u64 (.x s)]⟩, some ⟨false, 0, .it .u8 L⟩] => some (F (fop .quo .f32 (floatOfInt .f32 (IntKind.wrap .i64 (pkV (L ()) 65 (a (), s ()) - 32))) 1082130432), [some ⟨true, 0, .lit [.sl 1 (.x o) (.x n), .i .i64 (.x fun _ => (pkQ (L ()) 65 (a (), s ())).1), .i .u64 (.x fun _ => (pkQ (L ()) 65 (a (), s ())).2)]⟩, some ⟨false, 0, .it .u8 L⟩], [fun _ => 0 ≤ a () ∧ a () ≤ 100000, fun _ => o () = 0 ∧ (L ()).length = n () ∧ n () ≤ 4096 ∧ bytesOk (L ()), fun _ => a () ≤ 40000])
  | [.c (.p 0 (.l 0))], [some ⟨true, 0, .lit [.sn, .i .i64 (.x a), .i .u64 (.x s)]⟩] => some (F (fop .quo .f32 (floatOfInt .f32 (IntKind.wrap .i64 (pkV [] 65 (a (), s ()) - 32))) 1082130432), [some ⟨true, 0, .lit [.sn, .i .i64 (.x fun _ => (pkQ [] 65 (a (), s ())).1), .i .u64 (.x fun _ => (pkQ [] 65 (a (), s ())).2)]⟩], [fun _ => 0 ≤ a () ∧ a () ≤ 100000, fun _ => a () ≤ 40000])
  | _, _ => none
def E150 : Env := fun g => envGetL [(55, ⟨false, s55, none⟩)] g
theorem E150ok : EnvOk Tryz.prog E150 := envOk_cons ok55 (envOk_nil _)
set_option maxRecDepth 100000 in
set_option maxHeartbeats 1000000 in
theorem ok150 : Ok Tryz.prog 150 (s150) := ok_of_wpaH (E := E150) mixed tts E150ok fn150 fun args H v H' o hs ho => by
  split at hs
  · rename_i o n a s L
    cases hs
    obtain ⟨⟨ha0, ha1⟩, ⟨ho0, hlen, hbig, hby⟩, hx0⟩ := ho.three
    try simp only [Unit.unit] at ha0 ha1 ho0 hlen hbig hx0
    refine ⟨_, HLe.refl _, ?_⟩
    cbv
    repeat' first
      | (refine Br.mk (fun h => ?_) (fun h => ?_) <;> cbv)
      | (refine Ob.mk ?_ ?_; rotate_left; cbv)
      | (refine Lex.mk (by decide +kernel) ?_; cbv)
    all_goals try (first | exact ⟨ha0, ha1⟩ | exact ⟨ho0, hlen, hbig, hby⟩ | exact ⟨by trivial, hlen, hbig, hby⟩)
    all_goals (try simp only [Unit.unit, Int.ofNat_lt, Int.ofNat_le, BE.val, IE.val, NE.val, ltB_iff, ltB_no, leB_iff, leB_no, Int.toNat_natCast, Nat.zero_add, Nat.add_zero, Nat.mul_one, forced, beq_iff_eq, beq_eq_false_iff_ne, bne_iff_ne, bne_eq_false_iff_eq] at *)
    all_goals first | with_reducible rfl | omega | exact Int.le_trans ha1 (by decide) | rfl
  · rename_i a s
    cases hs
    obtain ⟨⟨ha0, ha1⟩, hx0⟩ := ho.two
    have hby := bytes_nil
    try simp only [Unit.unit] at ha0 ha1 hx0
    refine ⟨_, HLe.refl _, ?_⟩
    cbv
    repeat' first
      | (refine Br.mk (fun h => ?_) (fun h => ?_) <;> cbv)
      | (refine Ob.mk ?_ ?_; rotate_left; cbv)
      | (refine Lex.mk (by decide +kernel) ?_; cbv)
    all_goals try (first | exact ⟨ha0, ha1⟩)
    all_goals (try simp only [Unit.unit, Int.ofNat_lt, Int.ofNat_le, BE.val, IE.val, NE.val, ltB_iff, ltB_no, leB_iff, leB_no, Int.toNat_natCast, Nat.zero_add, Nat.add_zero, Nat.mul_one, forced, beq_iff_eq, beq_eq_false_iff_ne, bne_iff_ne, bne_eq_false_iff_eq] at *)
    all_goals first | with_reducible rfl | omega | exact Int.le_trans ha1 (by decide) | rfl
  · cases hs
end Rg
end Go.Proofs.YteifneielgnniaaGreatDoor.Sh
end
section
namespace Go.Proofs.YteifneielgnniaaGreatDoor.Sh
namespace Rg
open Go Go.Proofs
theorem eqz_t {a b : Int} (h : a = b) : (a == b) = true := by subst h; simp
theorem eqz_f {a b : Int} (h : a ≠ b) : (a == b) = false := by simp [h]
def fewX (L : List Int) (q : Int × Int) : Nat := fop .quo .f32 (floatOfInt .f32 (IntKind.wrap .i64 (pkV L 65 q - 32))) 1082130432
def anX (L : List Int) (q r : Int × Int) : Nat :=
  if pkV L 14 q = 0 then dn 9221120237041090561 else if pkV L 14 q = 1 then dn 9218868437227405312 else if pkV L 14 q = 2 then dn 18442240474082181120 else if pkV L 14 q = 3 then 2147483648
  else if pkV L 14 q = 4 then (IntKind.wrap .u32 (pkV L 16777220 r)).toNat
  else if pkV L 14 q = 5 then (IntKind.wrap .u32 (IntKind.wrap .u32 (IntKind.wrap .u32 (pkV L 1073741824 r) * 4) + IntKind.wrap .u32 (pkV L 4 (pkQ L 1073741824 r)))).toNat
  else if pkV L 14 q = 6 then fop .quo .f32 (floatOfInt .f32 (IntKind.wrap .i64 (pkV L 2000000 r - 1000000))) 1148846080
  else if pkV L 14 q = 7 then floatOfInt .f32 (([1048576, 1048577, -1048576] : List Int).getD (pkV L 3 r).toNat 0)
  else fewX L r
def anQ (L : List Int) (q r : Int × Int) : Int × Int :=
  if pkV L 14 q = 0 then r else if pkV L 14 q = 1 then r else if pkV L 14 q = 2 then r else if pkV L 14 q = 3 then r
  else if pkV L 14 q = 4 then pkQ L 16777220 r
  else if pkV L 14 q = 5 then pkQ L 4 (pkQ L 1073741824 r)
  else if pkV L 14 q = 6 then pkQ L 2000000 r
  else if pkV L 14 q = 7 then pkQ L 3 r
  else pkQ L 65 r
theorem anQ_in {N : Int} {L : List Int} {q r : Int × Int} (h : qIn N r) : qIn (N + 4) (anQ L q r) := by
  unfold anQ
  repeat' split
  all_goals first | exact qIn_le h (by omega) | exact qIn_le (qIn_pk h) (by omega) | exact qIn_le (qIn_pk (qIn_pk h)) (by omega)
theorem fn121 : FnOk Tryz.prog 121 Tryz.f121 (bodyOf Tryz.f121) := ⟨Tryz.func121, rfl, by rfl⟩
def s121 : Spec := hspec fun args H => match args, H with
  | [.c (.p 0 (.l 0))], [some ⟨true, 0, .lit [.sl 1 (.x o) (.x n), .i .i64 (.x a), .i .u64 (.x s)]⟩, some ⟨false, 0, .it .u8 L⟩] => some (F (anX (L ()) (a (), s ()) (pkQ (L ()) 14 (a (), s ()))), [some ⟨true, 0, .lit [.sl 1 (.x o) (.x n), .i .i64 (.x fun _ => (anQ (L ()) (a (), s ()) (pkQ (L ()) 14 (a (), s ()))).1), .i .u64 (.x fun _ => (anQ (L ()) (a (), s ()) (pkQ (L ()) 14 (a (), s ()))).2)]⟩, some ⟨false, 0, .it .u8 L⟩], [fun _ => 0 ≤ a () ∧ a () ≤ 100000, fun _ => o () = 0 ∧ (L ()).length = n () ∧ n () ≤ 4096 ∧ bytesOk (L ()), fun _ => a () ≤ 30000])
  | [.c (.p 0 (.l 0))], [some ⟨true, 0, .lit [.sn, .i .i64 (.x a), .i .u64 (.x s)]⟩] => some (F (anX [] (a (), s ()) (pkQ [] 14 (a (), s ()))), [some ⟨true, 0, .lit [.sn, .i .i64 (.x fun _ => (anQ [] (a (), s ()) (pkQ [] 14 (a (), s ()))).1), .i .u64 (.x fun _ => (anQ [] (a (), s ()) (pkQ [] 14 (a (), s ()))).2)]⟩], [fun _ => 0 ≤ a () ∧ a () ≤ 100000, fun _ => a () ≤ 30000])
  | _, _ => none
def E121 : Env := fun g => envGetL [(55, ⟨false, s55, none⟩), (147, ⟨true, s147, none⟩), (148, ⟨true, s148, none⟩), (149, ⟨true, s149, none⟩), (111, ⟨false, s111, none⟩), (150, ⟨false, s150, none⟩)] g
theorem E121ok : EnvOk Tryz.prog E121 := envOk_cons ok55 (envOk_cons ok147 (envOk_cons ok148 (envOk_cons ok149 (envOk_cons ok111 (envOk_cons ok150 (envOk_nil _))))))
set_option maxRecDepth 100000 in
set_option maxHeartbeats 4000000 in
theorem ok121 : Ok Tryz.prog 121 (s121) := ok_of_wpaH (E := E121) mixed tts E121ok fn121 fun args H v H' o hs ho => by
  split at hs
  · rename_i o n a s L
    cases hs
    obtain ⟨⟨ha0, ha1⟩, ⟨ho0, hlen, hbig, hby⟩, hx0⟩ := ho.three
    try simp only [Unit.unit] at ha0 ha1 ho0 hlen hbig hx0
    refine ⟨_, HLe.refl _, ?_⟩
    cbv
    have hq0 : qIn 30000 (a ⟨⟩, s ⟨⟩) := ⟨ha0, hx0⟩
    have hq1 : qIn 30002 (pkQ (L ⟨⟩) 14 (a ⟨⟩, s ⟨⟩)) := qIn_pk hq0
    have hq2 : qIn 30004 (pkQ (L ⟨⟩) 1073741824 (pkQ (L ⟨⟩) 14 (a ⟨⟩, s ⟨⟩))) := qIn_pk hq1
    repeat' (refine Ob.mk ?_ ?_; (focus (first | exact ⟨hq0.1, Int.le_trans hq0.2 (by decide)⟩ | exact Int.le_trans hq0.2 (by decide) | exact ⟨hq1.1, Int.le_trans hq1.2 (by decide)⟩ | exact Int.le_trans hq1.2 (by decide) | exact ⟨hq2.1, Int.le_trans hq2.2 (by decide)⟩ | exact Int.le_trans hq2.2 (by decide) | exact ⟨ho0, hlen, hbig, hby⟩ | exact ⟨by trivial, hlen, hbig, hby⟩ | exact rfl)); cbv)
    by_cases h0 : pkV (L ⟨⟩) 14 (a ⟨⟩, s ⟨⟩) = 0
    · skip
      have hA : anX (L ⟨⟩) (a ⟨⟩, s ⟨⟩) (pkQ (L ⟨⟩) 14 (a ⟨⟩, s ⟨⟩)) = dn 9221120237041090561 := by unfold anX; rw [if_pos h0]
      have hB : anQ (L ⟨⟩) (a ⟨⟩, s ⟨⟩) (pkQ (L ⟨⟩) 14 (a ⟨⟩, s ⟨⟩)) = (pkQ (L ⟨⟩) 14 (a ⟨⟩, s ⟨⟩)) := by unfold anQ; rw [if_pos h0]
      have hB1 : ((pkQ (L ⟨⟩) 14 (a ⟨⟩, s ⟨⟩))).1 = (anQ (L ⟨⟩) (a ⟨⟩, s ⟨⟩) (pkQ (L ⟨⟩) 14 (a ⟨⟩, s ⟨⟩))).1 := by rw [hB]
      have hB2 : ((pkQ (L ⟨⟩) 14 (a ⟨⟩, s ⟨⟩))).2 = (anQ (L ⟨⟩) (a ⟨⟩, s ⟨⟩) (pkQ (L ⟨⟩) 14 (a ⟨⟩, s ⟨⟩))).2 := by rw [hB]
      refine Br.t (eqz_t h0) ?_
      cbv
      repeat' first
        | (refine Ob.mk ?_ ?_; (focus (first | exact rfl | exact hA.symm | exact hB1 | exact hB2 | exact ⟨hq0.1, Int.le_trans hq0.2 (by decide)⟩ | exact Int.le_trans hq0.2 (by decide) | exact ⟨hq1.1, Int.le_trans hq1.2 (by decide)⟩ | exact Int.le_trans hq1.2 (by decide) | exact ⟨hq2.1, Int.le_trans hq2.2 (by decide)⟩ | exact Int.le_trans hq2.2 (by decide) | exact ⟨ho0, hlen, hbig, hby⟩ | exact ⟨by trivial, hlen, hbig, hby⟩ | exact ⟨rfl, rfl, by decide, by decide⟩ | decide +kernel)); cbv)
        | (refine Lex.mk (by decide +kernel) ?_; cbv)
    · skip
      refine Br.f (eqz_f h0) ?_
      cbv
      by_cases h1 : pkV (L ⟨⟩) 14 (a ⟨⟩, s ⟨⟩) = 1
      · skip
        have hA : anX (L ⟨⟩) (a ⟨⟩, s ⟨⟩) (pkQ (L ⟨⟩) 14 (a ⟨⟩, s ⟨⟩)) = dn 9218868437227405312 := by unfold anX; rw [if_neg h0, if_pos h1]
        have hB : anQ (L ⟨⟩) (a ⟨⟩, s ⟨⟩) (pkQ (L ⟨⟩) 14 (a ⟨⟩, s ⟨⟩)) = (pkQ (L ⟨⟩) 14 (a ⟨⟩, s ⟨⟩)) := by unfold anQ; rw [if_neg h0, if_pos h1]
        have hB1 : ((pkQ (L ⟨⟩) 14 (a ⟨⟩, s ⟨⟩))).1 = (anQ (L ⟨⟩) (a ⟨⟩, s ⟨⟩) (pkQ (L ⟨⟩) 14 (a ⟨⟩, s ⟨⟩))).1 := by rw [hB]
        have hB2 : ((pkQ (L ⟨⟩) 14 (a ⟨⟩, s ⟨⟩))).2 = (anQ (L ⟨⟩) (a ⟨⟩, s ⟨⟩) (pkQ (L ⟨⟩) 14 (a ⟨⟩, s ⟨⟩))).2 := by rw [hB]
        refine Br.t (eqz_t h1) ?_
        cbv
        repeat' first
          | (refine Ob.mk ?_ ?_; (focus (first | exact rfl | exact hA.symm | exact hB1 | exact hB2 | exact ⟨hq0.1, Int.le_trans hq0.2 (by decide)⟩ | exact Int.le_trans hq0.2 (by decide) | exact ⟨hq1.1, Int.le_trans hq1.2 (by decide)⟩ | exact Int.le_trans hq1.2 (by decide) | exact ⟨hq2.1, Int.le_trans hq2.2 (by decide)⟩ | exact Int.le_trans hq2.2 (by decide) | exact ⟨ho0, hlen, hbig, hby⟩ | exact ⟨by trivial, hlen, hbig, hby⟩ | exact ⟨rfl, rfl, by decide, by decide⟩ | decide +kernel)); cbv)
          | (refine Lex.mk (by decide +kernel) ?_; cbv)
      · skip
        refine Br.f (eqz_f h1) ?_
        cbv
        by_cases h2 : pkV (L ⟨⟩) 14 (a ⟨⟩, s ⟨⟩) = 2
        · skip
          have hA : anX (L ⟨⟩) (a ⟨⟩, s ⟨⟩) (pkQ (L ⟨⟩) 14 (a ⟨⟩, s ⟨⟩)) = dn 18442240474082181120 := by unfold anX; rw [if_neg h0, if_neg h1, if_pos h2]
          have hB : anQ (L ⟨⟩) (a ⟨⟩, s ⟨⟩) (pkQ (L ⟨⟩) 14 (a ⟨⟩, s ⟨⟩)) = (pkQ (L ⟨⟩) 14 (a ⟨⟩, s ⟨⟩)) := by unfold anQ; rw [if_neg h0, if_neg h1, if_pos h2]
          have hB1 : ((pkQ (L ⟨⟩) 14 (a ⟨⟩, s ⟨⟩))).1 = (anQ (L ⟨⟩) (a ⟨⟩, s ⟨⟩) (pkQ (L ⟨⟩) 14 (a ⟨⟩, s ⟨⟩))).1 := by rw [hB]
          have hB2 : ((pkQ (L ⟨⟩) 14 (a ⟨⟩, s ⟨⟩))).2 = (anQ (L ⟨⟩) (a ⟨⟩, s ⟨⟩) (pkQ (L ⟨⟩) 14 (a ⟨⟩, s ⟨⟩))).2 := by rw [hB]
          refine Br.t (eqz_t h2) ?_
          cbv
          repeat' first
            | (refine Ob.mk ?_ ?_; (focus (first | exact rfl | exact hA.symm | exact hB1 | exact hB2 | exact ⟨hq0.1, Int.le_trans hq0.2 (by decide)⟩ | exact Int.le_trans hq0.2 (by decide) | exact ⟨hq1.1, Int.le_trans hq1.2 (by decide)⟩ | exact Int.le_trans hq1.2 (by decide) | exact ⟨hq2.1, Int.le_trans hq2.2 (by decide)⟩ | exact Int.le_trans hq2.2 (by decide) | exact ⟨ho0, hlen, hbig, hby⟩ | exact ⟨by trivial, hlen, hbig, hby⟩ | exact ⟨rfl, rfl, by decide, by decide⟩ | decide +kernel)); cbv)
            | (refine Lex.mk (by decide +kernel) ?_; cbv)
        · skip
          refine Br.f (eqz_f h2) ?_
          cbv
          by_cases h3 : pkV (L ⟨⟩) 14 (a ⟨⟩, s ⟨⟩) = 3
          · skip
            have hA : anX (L ⟨⟩) (a ⟨⟩, s ⟨⟩) (pkQ (L ⟨⟩) 14 (a ⟨⟩, s ⟨⟩)) = 2147483648 := by unfold anX; rw [if_neg h0, if_neg h1, if_neg h2, if_pos h3]
            have hB : anQ (L ⟨⟩) (a ⟨⟩, s ⟨⟩) (pkQ (L ⟨⟩) 14 (a ⟨⟩, s ⟨⟩)) = (pkQ (L ⟨⟩) 14 (a ⟨⟩, s ⟨⟩)) := by unfold anQ; rw [if_neg h0, if_neg h1, if_neg h2, if_pos h3]
            have hB1 : ((pkQ (L ⟨⟩) 14 (a ⟨⟩, s ⟨⟩))).1 = (anQ (L ⟨⟩) (a ⟨⟩, s ⟨⟩) (pkQ (L ⟨⟩) 14 (a ⟨⟩, s ⟨⟩))).1 := by rw [hB]
            have hB2 : ((pkQ (L ⟨⟩) 14 (a ⟨⟩, s ⟨⟩))).2 = (anQ (L ⟨⟩) (a ⟨⟩, s ⟨⟩) (pkQ (L ⟨⟩) 14 (a ⟨⟩, s ⟨⟩))).2 := by rw [hB]
            refine Br.t (eqz_t h3) ?_
            cbv
            repeat' first
              | (refine Ob.mk ?_ ?_; (focus (first | exact rfl | exact hA.symm | exact hB1 | exact hB2 | exact ⟨hq0.1, Int.le_trans hq0.2 (by decide)⟩ | exact Int.le_trans hq0.2 (by decide) | exact ⟨hq1.1, Int.le_trans hq1.2 (by decide)⟩ | exact Int.le_trans hq1.2 (by decide) | exact ⟨hq2.1, Int.le_trans hq2.2 (by decide)⟩ | exact Int.le_trans hq2.2 (by decide) | exact ⟨ho0, hlen, hbig, hby⟩ | exact ⟨by trivial, hlen, hbig, hby⟩ | exact ⟨rfl, rfl, by decide, by decide⟩ | decide +kernel)); cbv)
              | (refine Lex.mk (by decide +kernel) ?_; cbv)
          · skip
            refine Br.f (eqz_f h3) ?_
            cbv
            by_cases h4 : pkV (L ⟨⟩) 14 (a ⟨⟩, s ⟨⟩) = 4
            · skip
              have hA : anX (L ⟨⟩) (a ⟨⟩, s ⟨⟩) (pkQ (L ⟨⟩) 14 (a ⟨⟩, s ⟨⟩)) = (IntKind.wrap .u32 (pkV (L ⟨⟩) 16777220 (pkQ (L ⟨⟩) 14 (a ⟨⟩, s ⟨⟩)))).toNat := by unfold anX; rw [if_neg h0, if_neg h1, if_neg h2, if_neg h3, if_pos h4]
              have hB : anQ (L ⟨⟩) (a ⟨⟩, s ⟨⟩) (pkQ (L ⟨⟩) 14 (a ⟨⟩, s ⟨⟩)) = pkQ (L ⟨⟩) 16777220 (pkQ (L ⟨⟩) 14 (a ⟨⟩, s ⟨⟩)) := by unfold anQ; rw [if_neg h0, if_neg h1, if_neg h2, if_neg h3, if_pos h4]
              have hB1 : (pkQ (L ⟨⟩) 16777220 (pkQ (L ⟨⟩) 14 (a ⟨⟩, s ⟨⟩))).1 = (anQ (L ⟨⟩) (a ⟨⟩, s ⟨⟩) (pkQ (L ⟨⟩) 14 (a ⟨⟩, s ⟨⟩))).1 := by rw [hB]
              have hB2 : (pkQ (L ⟨⟩) 16777220 (pkQ (L ⟨⟩) 14 (a ⟨⟩, s ⟨⟩))).2 = (anQ (L ⟨⟩) (a ⟨⟩, s ⟨⟩) (pkQ (L ⟨⟩) 14 (a ⟨⟩, s ⟨⟩))).2 := by rw [hB]
              refine Br.t (eqz_t h4) ?_
              cbv
              repeat' first
                | (refine Ob.mk ?_ ?_; (focus (first | exact rfl | exact hA.symm | exact hB1 | exact hB2 | exact ⟨hq0.1, Int.le_trans hq0.2 (by decide)⟩ | exact Int.le_trans hq0.2 (by decide) | exact ⟨hq1.1, Int.le_trans hq1.2 (by decide)⟩ | exact Int.le_trans hq1.2 (by decide) | exact ⟨hq2.1, Int.le_trans hq2.2 (by decide)⟩ | exact Int.le_trans hq2.2 (by decide) | exact ⟨ho0, hlen, hbig, hby⟩ | exact ⟨by trivial, hlen, hbig, hby⟩ | exact ⟨rfl, rfl, by decide, by decide⟩ | decide +kernel)); cbv)
                | (refine Lex.mk (by decide +kernel) ?_; cbv)
            · skip
              refine Br.f (eqz_f h4) ?_
              cbv
              by_cases h5 : pkV (L ⟨⟩) 14 (a ⟨⟩, s ⟨⟩) = 5
              · skip
                have hA : anX (L ⟨⟩) (a ⟨⟩, s ⟨⟩) (pkQ (L ⟨⟩) 14 (a ⟨⟩, s ⟨⟩)) = (IntKind.wrap .u32 (IntKind.wrap .u32 (IntKind.wrap .u32 (pkV (L ⟨⟩) 1073741824 (pkQ (L ⟨⟩) 14 (a ⟨⟩, s ⟨⟩))) * 4) + IntKind.wrap .u32 (pkV (L ⟨⟩) 4 (pkQ (L ⟨⟩) 1073741824 (pkQ (L ⟨⟩) 14 (a ⟨⟩, s ⟨⟩)))))).toNat := by unfold anX; rw [if_neg h0, if_neg h1, if_neg h2, if_neg h3, if_neg h4, if_pos h5]
                have hB : anQ (L ⟨⟩) (a ⟨⟩, s ⟨⟩) (pkQ (L ⟨⟩) 14 (a ⟨⟩, s ⟨⟩)) = pkQ (L ⟨⟩) 4 (pkQ (L ⟨⟩) 1073741824 (pkQ (L ⟨⟩) 14 (a ⟨⟩, s ⟨⟩))) := by unfold anQ; rw [if_neg h0, if_neg h1, if_neg h2, if_neg h3, if_neg h4, if_pos h5]
                have hB1 : (pkQ (L ⟨⟩) 4 (pkQ (L ⟨⟩) 1073741824 (pkQ (L ⟨⟩) 14 (a ⟨⟩, s ⟨⟩)))).1 = (anQ (L ⟨⟩) (a ⟨⟩, s ⟨⟩) (pkQ (L ⟨⟩) 14 (a ⟨⟩, s ⟨⟩))).1 := by rw [hB]
                have hB2 : (pkQ (L ⟨⟩) 4 (pkQ (L ⟨⟩) 1073741824 (pkQ (L ⟨⟩) 14 (a ⟨⟩, s ⟨⟩)))).2 = (anQ (L ⟨⟩) (a ⟨⟩, s ⟨⟩) (pkQ (L ⟨⟩) 14 (a ⟨⟩, s ⟨⟩))).2 := by rw [hB]
                refine Br.t (eqz_t h5) ?_
                cbv
                repeat' first
                  | (refine Ob.mk ?_ ?_; (focus (first | exact rfl | exact hA.symm | exact hB1 | exact hB2 | exact ⟨hq0.1, Int.le_trans hq0.2 (by decide)⟩ | exact Int.le_trans hq0.2 (by decide) | exact ⟨hq1.1, Int.le_trans hq1.2 (by decide)⟩ | exact Int.le_trans hq1.2 (by decide) | exact ⟨hq2.1, Int.le_trans hq2.2 (by decide)⟩ | exact Int.le_trans hq2.2 (by decide) | exact ⟨ho0, hlen, hbig, hby⟩ | exact ⟨by trivial, hlen, hbig, hby⟩ | exact ⟨rfl, rfl, by decide, by decide⟩ | decide +kernel)); cbv)
                  | (refine Lex.mk (by decide +kernel) ?_; cbv)
              · skip
                refine Br.f (eqz_f h5) ?_
                cbv
                by_cases h6 : pkV (L ⟨⟩) 14 (a ⟨⟩, s ⟨⟩) = 6
                · skip
                  have hA : anX (L ⟨⟩) (a ⟨⟩, s ⟨⟩) (pkQ (L ⟨⟩) 14 (a ⟨⟩, s ⟨⟩)) = fop .quo .f32 (floatOfInt .f32 (IntKind.wrap .i64 (pkV (L ⟨⟩) 2000000 (pkQ (L ⟨⟩) 14 (a ⟨⟩, s ⟨⟩)) - 1000000))) 1148846080 := by unfold anX; rw [if_neg h0, if_neg h1, if_neg h2, if_neg h3, if_neg h4, if_neg h5, if_pos h6]
                  have hB : anQ (L ⟨⟩) (a ⟨⟩, s ⟨⟩) (pkQ (L ⟨⟩) 14 (a ⟨⟩, s ⟨⟩)) = pkQ (L ⟨⟩) 2000000 (pkQ (L ⟨⟩) 14 (a ⟨⟩, s ⟨⟩)) := by unfold anQ; rw [if_neg h0, if_neg h1, if_neg h2, if_neg h3, if_neg h4, if_neg h5, if_pos h6]
                  have hB1 : (pkQ (L ⟨⟩) 2000000 (pkQ (L ⟨⟩) 14 (a ⟨⟩, s ⟨⟩))).1 = (anQ (L ⟨⟩) (a ⟨⟩, s ⟨⟩) (pkQ (L ⟨⟩) 14 (a ⟨⟩, s ⟨⟩))).1 := by rw [hB]
                  have hB2 : (pkQ (L ⟨⟩) 2000000 (pkQ (L ⟨⟩) 14 (a ⟨⟩, s ⟨⟩))).2 = (anQ (L ⟨⟩) (a ⟨⟩, s ⟨⟩) (pkQ (L ⟨⟩) 14 (a ⟨⟩, s ⟨⟩))).2 := by rw [hB]
                  refine Br.t (eqz_t h6) ?_
                  cbv
                  repeat' first
                    | (refine Ob.mk ?_ ?_; (focus (first | exact rfl | exact hA.symm | exact hB1 | exact hB2 | exact ⟨hq0.1, Int.le_trans hq0.2 (by decide)⟩ | exact Int.le_trans hq0.2 (by decide) | exact ⟨hq1.1, Int.le_trans hq1.2 (by decide)⟩ | exact Int.le_trans hq1.2 (by decide) | exact ⟨hq2.1, Int.le_trans hq2.2 (by decide)⟩ | exact Int.le_trans hq2.2 (by decide) | exact ⟨ho0, hlen, hbig, hby⟩ | exact ⟨by trivial, hlen, hbig, hby⟩ | exact ⟨rfl, rfl, by decide, by decide⟩ | decide +kernel)); cbv)
                    | (refine Lex.mk (by decide +kernel) ?_; cbv)
                · skip
                  refine Br.f (eqz_f h6) ?_
                  cbv
                  by_cases h7 : pkV (L ⟨⟩) 14 (a ⟨⟩, s ⟨⟩) = 7
                  · skip
                    have hA : anX (L ⟨⟩) (a ⟨⟩, s ⟨⟩) (pkQ (L ⟨⟩) 14 (a ⟨⟩, s ⟨⟩)) = floatOfInt .f32 (([1048576, 1048577, -1048576] : List Int).getD (pkV (L ⟨⟩) 3 (pkQ (L ⟨⟩) 14 (a ⟨⟩, s ⟨⟩))).toNat 0) := by unfold anX; rw [if_neg h0, if_neg h1, if_neg h2, if_neg h3, if_neg h4, if_neg h5, if_neg h6, if_pos h7]
                    have hB : anQ (L ⟨⟩) (a ⟨⟩, s ⟨⟩) (pkQ (L ⟨⟩) 14 (a ⟨⟩, s ⟨⟩)) = pkQ (L ⟨⟩) 3 (pkQ (L ⟨⟩) 14 (a ⟨⟩, s ⟨⟩)) := by unfold anQ; rw [if_neg h0, if_neg h1, if_neg h2, if_neg h3, if_neg h4, if_neg h5, if_neg h6, if_pos h7]
                    have hB1 : (pkQ (L ⟨⟩) 3 (pkQ (L ⟨⟩) 14 (a ⟨⟩, s ⟨⟩))).1 = (anQ (L ⟨⟩) (a ⟨⟩, s ⟨⟩) (pkQ (L ⟨⟩) 14 (a ⟨⟩, s ⟨⟩))).1 := by rw [hB]
                    have hB2 : (pkQ (L ⟨⟩) 3 (pkQ (L ⟨⟩) 14 (a ⟨⟩, s ⟨⟩))).2 = (anQ (L ⟨⟩) (a ⟨⟩, s ⟨⟩) (pkQ (L ⟨⟩) 14 (a ⟨⟩, s ⟨⟩))).2 := by rw [hB]
                    refine Br.t (eqz_t h7) ?_
                    cbv
                    repeat' first
                      | (refine Ob.mk ?_ ?_; (focus (first | exact rfl | exact hA.symm | exact hB1 | exact hB2 | exact ⟨hq0.1, Int.le_trans hq0.2 (by decide)⟩ | exact Int.le_trans hq0.2 (by decide) | exact ⟨hq1.1, Int.le_trans hq1.2 (by decide)⟩ | exact Int.le_trans hq1.2 (by decide) | exact ⟨hq2.1, Int.le_trans hq2.2 (by decide)⟩ | exact Int.le_trans hq2.2 (by decide) | exact ⟨ho0, hlen, hbig, hby⟩ | exact ⟨by trivial, hlen, hbig, hby⟩ | exact ⟨rfl, rfl, by decide, by decide⟩ | decide +kernel)); cbv)
                      | (refine Lex.mk (by decide +kernel) ?_; cbv)
                  · skip
                    have hA : anX (L ⟨⟩) (a ⟨⟩, s ⟨⟩) (pkQ (L ⟨⟩) 14 (a ⟨⟩, s ⟨⟩)) = fewX (L ⟨⟩) (pkQ (L ⟨⟩) 14 (a ⟨⟩, s ⟨⟩)) := by unfold anX; rw [if_neg h0, if_neg h1, if_neg h2, if_neg h3, if_neg h4, if_neg h5, if_neg h6, if_neg h7]
                    have hB : anQ (L ⟨⟩) (a ⟨⟩, s ⟨⟩) (pkQ (L ⟨⟩) 14 (a ⟨⟩, s ⟨⟩)) = pkQ (L ⟨⟩) 65 (pkQ (L ⟨⟩) 14 (a ⟨⟩, s ⟨⟩)) := by unfold anQ; rw [if_neg h0, if_neg h1, if_neg h2, if_neg h3, if_neg h4, if_neg h5, if_neg h6, if_neg h7]
                    have hB1 : (pkQ (L ⟨⟩) 65 (pkQ (L ⟨⟩) 14 (a ⟨⟩, s ⟨⟩))).1 = (anQ (L ⟨⟩) (a ⟨⟩, s ⟨⟩) (pkQ (L ⟨⟩) 14 (a ⟨⟩, s ⟨⟩))).1 := by rw [hB]
                    have hB2 : (pkQ (L ⟨⟩) 65 (pkQ (L ⟨⟩) 14 (a ⟨⟩, s ⟨⟩))).2 = (anQ (L ⟨⟩) (a ⟨⟩, s ⟨⟩) (pkQ (L ⟨⟩) 14 (a ⟨⟩, s ⟨⟩))).2 := by rw [hB]
                    refine Br.f (eqz_f h7) ?_
                    cbv
                    repeat' first
                      | (refine Ob.mk ?_ ?_; (focus (first | exact rfl | exact hA.symm | exact hB1 | exact hB2 | exact ⟨hq0.1, Int.le_trans hq0.2 (by decide)⟩ | exact Int.le_trans hq0.2 (by decide) | exact ⟨hq1.1, Int.le_trans hq1.2 (by decide)⟩ | exact Int.le_trans hq1.2 (by decide) | exact ⟨hq2.1, Int.le_trans hq2.2 (by decide)⟩ | exact Int.le_trans hq2.2 (by decide) | exact ⟨ho0, hlen, hbig, hby⟩ | exact ⟨by trivial, hlen, hbig, hby⟩ | exact ⟨rfl, rfl, by decide, by decide⟩ | decide +kernel)); cbv)
                      | (refine Lex.mk (by decide +kernel) ?_; cbv)
  · rename_i a s
    cases hs
    obtain ⟨⟨ha0, ha1⟩, hx0⟩ := ho.two
    have hby := bytes_nil
    try simp only [Unit.unit] at ha0 ha1 hx0
    refine ⟨_, HLe.refl _, ?_⟩
    cbv
    have hq0 : qIn 30000 (a ⟨⟩, s ⟨⟩) := ⟨ha0, hx0⟩
    have hq1 : qIn 30002 (pkQ [] 14 (a ⟨⟩, s ⟨⟩)) := qIn_pk hq0
    have hq2 : qIn 30004 (pkQ [] 1073741824 (pkQ [] 14 (a ⟨⟩, s ⟨⟩))) := qIn_pk hq1
    repeat' (refine Ob.mk ?_ ?_; (focus (first | exact ⟨hq0.1, Int.le_trans hq0.2 (by decide)⟩ | exact Int.le_trans hq0.2 (by decide) | exact ⟨hq1.1, Int.le_trans hq1.2 (by decide)⟩ | exact Int.le_trans hq1.2 (by decide) | exact ⟨hq2.1, Int.le_trans hq2.2 (by decide)⟩ | exact Int.le_trans hq2.2 (by decide) | exact rfl)); cbv)
    by_cases h0 : pkV [] 14 (a ⟨⟩, s ⟨⟩) = 0
    · skip
      have hA : anX [] (a ⟨⟩, s ⟨⟩) (pkQ [] 14 (a ⟨⟩, s ⟨⟩)) = dn 9221120237041090561 := by unfold anX; rw [if_pos h0]
      have hB : anQ [] (a ⟨⟩, s ⟨⟩) (pkQ [] 14 (a ⟨⟩, s ⟨⟩)) = (pkQ [] 14 (a ⟨⟩, s ⟨⟩)) := by unfold anQ; rw [if_pos h0]
      have hB1 : ((pkQ [] 14 (a ⟨⟩, s ⟨⟩))).1 = (anQ [] (a ⟨⟩, s ⟨⟩) (pkQ [] 14 (a ⟨⟩, s ⟨⟩))).1 := by rw [hB]
      have hB2 : ((pkQ [] 14 (a ⟨⟩, s ⟨⟩))).2 = (anQ [] (a ⟨⟩, s ⟨⟩) (pkQ [] 14 (a ⟨⟩, s ⟨⟩))).2 := by rw [hB]
      refine Br.t (eqz_t h0) ?_
      cbv
      repeat' first
        | (refine Ob.mk ?_ ?_; (focus (first | exact rfl | exact hA.symm | exact hB1 | exact hB2 | exact ⟨hq0.1, Int.le_trans hq0.2 (by decide)⟩ | exact Int.le_trans hq0.2 (by decide) | exact ⟨hq1.1, Int.le_trans hq1.2 (by decide)⟩ | exact Int.le_trans hq1.2 (by decide) | exact ⟨hq2.1, Int.le_trans hq2.2 (by decide)⟩ | exact Int.le_trans hq2.2 (by decide) | exact ⟨rfl, rfl, by decide, by decide⟩ | decide +kernel)); cbv)
        | (refine Lex.mk (by decide +kernel) ?_; cbv)
    · skip
      refine Br.f (eqz_f h0) ?_
      cbv
      by_cases h1 : pkV [] 14 (a ⟨⟩, s ⟨⟩) = 1
      · skip
        have hA : anX [] (a ⟨⟩, s ⟨⟩) (pkQ [] 14 (a ⟨⟩, s ⟨⟩)) = dn 9218868437227405312 := by unfold anX; rw [if_neg h0, if_pos h1]
        have hB : anQ [] (a ⟨⟩, s ⟨⟩) (pkQ [] 14 (a ⟨⟩, s ⟨⟩)) = (pkQ [] 14 (a ⟨⟩, s ⟨⟩)) := by unfold anQ; rw [if_neg h0, if_pos h1]
        have hB1 : ((pkQ [] 14 (a ⟨⟩, s ⟨⟩))).1 = (anQ [] (a ⟨⟩, s ⟨⟩) (pkQ [] 14 (a ⟨⟩, s ⟨⟩))).1 := by rw [hB]
        have hB2 : ((pkQ [] 14 (a ⟨⟩, s ⟨⟩))).2 = (anQ [] (a ⟨⟩, s ⟨⟩) (pkQ [] 14 (a ⟨⟩, s ⟨⟩))).2 := by rw [hB]
        refine Br.t (eqz_t h1) ?_
        cbv
        repeat' first
          | (refine Ob.mk ?_ ?_; (focus (first | exact rfl | exact hA.symm | exact hB1 | exact hB2 | exact ⟨hq0.1, Int.le_trans hq0.2 (by decide)⟩ | exact Int.le_trans hq0.2 (by decide) | exact ⟨hq1.1, Int.le_trans hq1.2 (by decide)⟩ | exact Int.le_trans hq1.2 (by decide) | exact ⟨hq2.1, Int.le_trans hq2.2 (by decide)⟩ | exact Int.le_trans hq2.2 (by decide) | exact ⟨rfl, rfl, by decide, by decide⟩ | decide +kernel)); cbv)
          | (refine Lex.mk (by decide +kernel) ?_; cbv)
      · skip
        refine Br.f (eqz_f h1) ?_
        cbv
        by_cases h2 : pkV [] 14 (a ⟨⟩, s ⟨⟩) = 2
        · skip
          have hA : anX [] (a ⟨⟩, s ⟨⟩) (pkQ [] 14 (a ⟨⟩, s ⟨⟩)) = dn 18442240474082181120 := by unfold anX; rw [if_neg h0, if_neg h1, if_pos h2]
          have hB : anQ [] (a ⟨⟩, s ⟨⟩) (pkQ [] 14 (a ⟨⟩, s ⟨⟩)) = (pkQ [] 14 (a ⟨⟩, s ⟨⟩)) := by unfold anQ; rw [if_neg h0, if_neg h1, if_pos h2]
          have hB1 : ((pkQ [] 14 (a ⟨⟩, s ⟨⟩))).1 = (anQ [] (a ⟨⟩, s ⟨⟩) (pkQ [] 14 (a ⟨⟩, s ⟨⟩))).1 := by rw [hB]
          have hB2 : ((pkQ [] 14 (a ⟨⟩, s ⟨⟩))).2 = (anQ [] (a ⟨⟩, s ⟨⟩) (pkQ [] 14 (a ⟨⟩, s ⟨⟩))).2 := by rw [hB]
          refine Br.t (eqz_t h2) ?_
          cbv
          repeat' first
            | (refine Ob.mk ?_ ?_; (focus (first | exact rfl | exact hA.symm | exact hB1 | exact hB2 | exact ⟨hq0.1, Int.le_trans hq0.2 (by decide)⟩ | exact Int.le_trans hq0.2 (by decide) | exact ⟨hq1.1, Int.le_trans hq1.2 (by decide)⟩ | exact Int.le_trans hq1.2 (by decide) | exact ⟨hq2.1, Int.le_trans hq2.2 (by decide)⟩ | exact Int.le_trans hq2.2 (by decide) | exact ⟨rfl, rfl, by decide, by decide⟩ | decide +kernel)); cbv)
            | (refine Lex.mk (by decide +kernel) ?_; cbv)
        · skip
          refine Br.f (eqz_f h2) ?_
          cbv
          by_cases h3 : pkV [] 14 (a ⟨⟩, s ⟨⟩) = 3
          · skip
            have hA : anX [] (a ⟨⟩, s ⟨⟩) (pkQ [] 14 (a ⟨⟩, s ⟨⟩)) = 2147483648 := by unfold anX; rw [if_neg h0, if_neg h1, if_neg h2, if_pos h3]
            have hB : anQ [] (a ⟨⟩, s ⟨⟩) (pkQ [] 14 (a ⟨⟩, s ⟨⟩)) = (pkQ [] 14 (a ⟨⟩, s ⟨⟩)) := by unfold anQ; rw [if_neg h0, if_neg h1, if_neg h2, if_pos h3]
            have hB1 : ((pkQ [] 14 (a ⟨⟩, s ⟨⟩))).1 = (anQ [] (a ⟨⟩, s ⟨⟩) (pkQ [] 14 (a ⟨⟩, s ⟨⟩))).1 := by rw [hB]
            have hB2 : ((pkQ [] 14 (a ⟨⟩, s ⟨⟩))).2 = (anQ [] (a ⟨⟩, s ⟨⟩) (pkQ [] 14 (a ⟨⟩, s ⟨⟩))).2 := by rw [hB]
            refine Br.t (eqz_t h3) ?_
            cbv
            repeat' first
              | (refine Ob.mk ?_ ?_; (focus (first | exact rfl | exact hA.symm | exact hB1 | exact hB2 | exact ⟨hq0.1, Int.le_trans hq0.2 (by decide)⟩ | exact Int.le_trans hq0.2 (by decide) | exact ⟨hq1.1, Int.le_trans hq1.2 (by decide)⟩ | exact Int.le_trans hq1.2 (by decide) | exact ⟨hq2.1, Int.le_trans hq2.2 (by decide)⟩ | exact Int.le_trans hq2.2 (by decide) | exact ⟨rfl, rfl, by decide, by decide⟩ | decide +kernel)); cbv)
              | (refine Lex.mk (by decide +kernel) ?_; cbv)
          · skip
            refine Br.f (eqz_f h3) ?_
            cbv
            by_cases h4 : pkV [] 14 (a ⟨⟩, s ⟨⟩) = 4
            · skip
              have hA : anX [] (a ⟨⟩, s ⟨⟩) (pkQ [] 14 (a ⟨⟩, s ⟨⟩)) = (IntKind.wrap .u32 (pkV [] 16777220 (pkQ [] 14 (a ⟨⟩, s ⟨⟩)))).toNat := by unfold anX; rw [if_neg h0, if_neg h1, if_neg h2, if_neg h3, if_pos h4]
              have hB : anQ [] (a ⟨⟩, s ⟨⟩) (pkQ [] 14 (a ⟨⟩, s ⟨⟩)) = pkQ [] 16777220 (pkQ [] 14 (a ⟨⟩, s ⟨⟩)) := by unfold anQ; rw [if_neg h0, if_neg h1, if_neg h2, if_neg h3, if_pos h4]
              have hB1 : (pkQ [] 16777220 (pkQ [] 14 (a ⟨⟩, s ⟨⟩))).1 = (anQ [] (a ⟨⟩, s ⟨⟩) (pkQ [] 14 (a ⟨⟩, s ⟨⟩))).1 := by rw [hB]
              have hB2 : (pkQ [] 16777220 (pkQ [] 14 (a ⟨⟩, s ⟨⟩))).2 = (anQ [] (a ⟨⟩, s ⟨⟩) (pkQ [] 14 (a ⟨⟩, s ⟨⟩))).2 := by rw [hB]
              refine Br.t (eqz_t h4) ?_
              cbv
              repeat' first
                | (refine Ob.mk ?_ ?_; (focus (first | exact rfl | exact hA.symm | exact hB1 | exact hB2 | exact ⟨hq0.1, Int.le_trans hq0.2 (by decide)⟩ | exact Int.le_trans hq0.2 (by decide) | exact ⟨hq1.1, Int.le_trans hq1.2 (by decide)⟩ | exact Int.le_trans hq1.2 (by decide) | exact ⟨hq2.1, Int.le_trans hq2.2 (by decide)⟩ | exact Int.le_trans hq2.2 (by decide) | exact ⟨rfl, rfl, by decide, by decide⟩ | decide +kernel)); cbv)
                | (refine Lex.mk (by decide +kernel) ?_; cbv)
            · skip
              refine Br.f (eqz_f h4) ?_
              cbv
              by_cases h5 : pkV [] 14 (a ⟨⟩, s ⟨⟩) = 5
              · skip
                have hA : anX [] (a ⟨⟩, s ⟨⟩) (pkQ [] 14 (a ⟨⟩, s ⟨⟩)) = (IntKind.wrap .u32 (IntKind.wrap .u32 (IntKind.wrap .u32 (pkV [] 1073741824 (pkQ [] 14 (a ⟨⟩, s ⟨⟩))) * 4) + IntKind.wrap .u32 (pkV [] 4 (pkQ [] 1073741824 (pkQ [] 14 (a ⟨⟩, s ⟨⟩)))))).toNat := by unfold anX; rw [if_neg h0, if_neg h1, if_neg h2, if_neg h3, if_neg h4, if_pos h5]
                have hB : anQ [] (a ⟨⟩, s ⟨⟩) (pkQ [] 14 (a ⟨⟩, s ⟨⟩)) = pkQ [] 4 (pkQ [] 1073741824 (pkQ [] 14 (a ⟨⟩, s ⟨⟩))) := by unfold anQ; rw [if_neg h0, if_neg h1, if_neg h2, if_neg h3, if_neg h4, if_pos h5]
                have hB1 : (pkQ [] 4 (pkQ [] 1073741824 (pkQ [] 14 (a ⟨⟩, s ⟨⟩)))).1 = (anQ [] (a ⟨⟩, s ⟨⟩) (pkQ [] 14 (a ⟨⟩, s ⟨⟩))).1 := by rw [hB]
                have hB2 : (pkQ [] 4 (pkQ [] 1073741824 (pkQ [] 14 (a ⟨⟩, s ⟨⟩)))).2 = (anQ [] (a ⟨⟩, s ⟨⟩) (pkQ [] 14 (a ⟨⟩, s ⟨⟩))).2 := by rw [hB]
                refine Br.t (eqz_t h5) ?_
                cbv
                repeat' first
                  | (refine Ob.mk ?_ ?_; (focus (first | exact rfl | exact hA.symm | exact hB1 | exact hB2 | exact ⟨hq0.1, Int.le_trans hq0.2 (by decide)⟩ | exact Int.le_trans hq0.2 (by decide) | exact ⟨hq1.1, Int.le_trans hq1.2 (by decide)⟩ | exact Int.le_trans hq1.2 (by decide) | exact ⟨hq2.1, Int.le_trans hq2.2 (by decide)⟩ | exact Int.le_trans hq2.2 (by decide) | exact ⟨rfl, rfl, by decide, by decide⟩ | decide +kernel)); cbv)
                  | (refine Lex.mk (by decide +kernel) ?_; cbv)
              · skip
                refine Br.f (eqz_f h5) ?_
                cbv
                by_cases h6 : pkV [] 14 (a ⟨⟩, s ⟨⟩) = 6
                · skip
                  have hA : anX [] (a ⟨⟩, s ⟨⟩) (pkQ [] 14 (a ⟨⟩, s ⟨⟩)) = fop .quo .f32 (floatOfInt .f32 (IntKind.wrap .i64 (pkV [] 2000000 (pkQ [] 14 (a ⟨⟩, s ⟨⟩)) - 1000000))) 1148846080 := by unfold anX; rw [if_neg h0, if_neg h1, if_neg h2, if_neg h3, if_neg h4, if_neg h5, if_pos h6]
                  have hB : anQ [] (a ⟨⟩, s ⟨⟩) (pkQ [] 14 (a ⟨⟩, s ⟨⟩)) = pkQ [] 2000000 (pkQ [] 14 (a ⟨⟩, s ⟨⟩)) := by unfold anQ; rw [if_neg h0, if_neg h1, if_neg h2, if_neg h3, if_neg h4, if_neg h5, if_pos h6]
                  have hB1 : (pkQ [] 2000000 (pkQ [] 14 (a ⟨⟩, s ⟨⟩))).1 = (anQ [] (a ⟨⟩, s ⟨⟩) (pkQ [] 14 (a ⟨⟩, s ⟨⟩))).1 := by rw [hB]
                  have hB2 : (pkQ [] 2000000 (pkQ [] 14 (a ⟨⟩, s ⟨⟩))).2 = (anQ [] (a ⟨⟩, s ⟨⟩) (pkQ [] 14 (a ⟨⟩, s ⟨⟩))).2 := by rw [hB]
                  refine Br.t (eqz_t h6) ?_
                  cbv
                  repeat' first
                    | (refine Ob.mk ?_ ?_; (focus (first | exact rfl | exact hA.symm | exact hB1 | exact hB2 | exact ⟨hq0.1, Int.le_trans hq0.2 (by decide)⟩ | exact Int.le_trans hq0.2 (by decide) | exact ⟨hq1.1, Int.le_trans hq1.2 (by decide)⟩ | exact Int.le_trans hq1.2 (by decide) | exact ⟨hq2.1, Int.le_trans hq2.2 (by decide)⟩ | exact Int.le_trans hq2.2 (by decide) | exact ⟨rfl, rfl, by decide, by decide⟩ | decide +kernel)); cbv)
                    | (refine Lex.mk (by decide +kernel) ?_; cbv)
                · skip
                  refine Br.f (eqz_f h6) ?_
                  cbv
                  by_cases h7 : pkV [] 14 (a ⟨⟩, s ⟨⟩) = 7
                  · skip
                    have hA : anX [] (a ⟨⟩, s ⟨⟩) (pkQ [] 14 (a ⟨⟩, s ⟨⟩)) = floatOfInt .f32 (([1048576, 1048577, -1048576] : List Int).getD (pkV [] 3 (pkQ [] 14 (a ⟨⟩, s ⟨⟩))).toNat 0) := by unfold anX; rw [if_neg h0, if_neg h1, if_neg h2, if_neg h3, if_neg h4, if_neg h5, if_neg h6, if_pos h7]
                    have hB : anQ [] (a ⟨⟩, s ⟨⟩) (pkQ [] 14 (a ⟨⟩, s ⟨⟩)) = pkQ [] 3 (pkQ [] 14 (a ⟨⟩, s ⟨⟩)) := by unfold anQ; rw [if_neg h0, if_neg h1, if_neg h2, if_neg h3, if_neg h4, if_neg h5, if_neg h6, if_pos h7]
                    have hB1 : (pkQ [] 3 (pkQ [] 14 (a ⟨⟩, s ⟨⟩))).1 = (anQ [] (a ⟨⟩, s ⟨⟩) (pkQ [] 14 (a ⟨⟩, s ⟨⟩))).1 := by rw [hB]
                    have hB2 : (pkQ [] 3 (pkQ [] 14 (a ⟨⟩, s ⟨⟩))).2 = (anQ [] (a ⟨⟩, s ⟨⟩) (pkQ [] 14 (a ⟨⟩, s ⟨⟩))).2 := by rw [hB]
                    refine Br.t (eqz_t h7) ?_
                    cbv
                    repeat' first
                      | (refine Ob.mk ?_ ?_; (focus (first | exact rfl | exact hA.symm | exact hB1 | exact hB2 | exact ⟨hq0.1, Int.le_trans hq0.2 (by decide)⟩ | exact Int.le_trans hq0.2 (by decide) | exact ⟨hq1.1, Int.le_trans hq1.2 (by decide)⟩ | exact Int.le_trans hq1.2 (by decide) | exact ⟨hq2.1, Int.le_trans hq2.2 (by decide)⟩ | exact Int.le_trans hq2.2 (by decide) | exact ⟨rfl, rfl, by decide, by decide⟩ | decide +kernel)); cbv)
                      | (refine Lex.mk (by decide +kernel) ?_; cbv)
                  · skip
                    have hA : anX [] (a ⟨⟩, s ⟨⟩) (pkQ [] 14 (a ⟨⟩, s ⟨⟩)) = fewX [] (pkQ [] 14 (a ⟨⟩, s ⟨⟩)) := by unfold anX; rw [if_neg h0, if_neg h1, if_neg h2, if_neg h3, if_neg h4, if_neg h5, if_neg h6, if_neg h7]
                    have hB : anQ [] (a ⟨⟩, s ⟨⟩) (pkQ [] 14 (a ⟨⟩, s ⟨⟩)) = pkQ [] 65 (pkQ [] 14 (a ⟨⟩, s ⟨⟩)) := by unfold anQ; rw [if_neg h0, if_neg h1, if_neg h2, if_neg h3, if_neg h4, if_neg h5, if_neg h6, if_neg h7]
                    have hB1 : (pkQ [] 65 (pkQ [] 14 (a ⟨⟩, s ⟨⟩))).1 = (anQ [] (a ⟨⟩, s ⟨⟩) (pkQ [] 14 (a ⟨⟩, s ⟨⟩))).1 := by rw [hB]
                    have hB2 : (pkQ [] 65 (pkQ [] 14 (a ⟨⟩, s ⟨⟩))).2 = (anQ [] (a ⟨⟩, s ⟨⟩) (pkQ [] 14 (a ⟨⟩, s ⟨⟩))).2 := by rw [hB]
                    refine Br.f (eqz_f h7) ?_
                    cbv
                    repeat' first
                      | (refine Ob.mk ?_ ?_; (focus (first | exact rfl | exact hA.symm | exact hB1 | exact hB2 | exact ⟨hq0.1, Int.le_trans hq0.2 (by decide)⟩ | exact Int.le_trans hq0.2 (by decide) | exact ⟨hq1.1, Int.le_trans hq1.2 (by decide)⟩ | exact Int.le_trans hq1.2 (by decide) | exact ⟨hq2.1, Int.le_trans hq2.2 (by decide)⟩ | exact Int.le_trans hq2.2 (by decide) | exact ⟨rfl, rfl, by decide, by decide⟩ | decide +kernel)); cbv)
                      | (refine Lex.mk (by decide +kernel) ?_; cbv)
  · cases hs
end Rg
end Go.Proofs.YteifneielgnniaaGreatDoor.Sh
end
section
namespace Go.Proofs.YteifneielgnniaaGreatDoor.Sh
namespace Rg
open Go Go.Proofs
def an1 (L : List Int) (q : Int × Int) : Nat := anX L q (pkQ L 14 q)
def anR (L : List Int) (q : Int × Int) : Int × Int := anQ L q (pkQ L 14 q)
theorem anR_in {N : Int} {L : List Int} {q : Int × Int} (h : qIn N q) : qIn (N + 6) (anR L q) := qIn_le (anQ_in (qIn_pk h)) (by omega)
def anyM (L : List Int) (q : Int × Int) : M := if pkV L 3 q = 0 then (an1 L (pkQ L 3 q), an1 L (anR L (pkQ L 3 q))) else dmM L (pkQ L 3 q)
def anyQ (L : List Int) (q : Int × Int) : Int × Int := if pkV L 3 q = 0 then anR L (anR L (pkQ L 3 q)) else dmQ L (pkQ L 3 q)
theorem fn80 : FnOk Tryz.prog 80 Tryz.f80 (bodyOf Tryz.f80) := ⟨Tryz.func80, rfl, by rfl⟩
def s80 : Spec := hspec fun args H => match args, H with
  | [.c (.p 0 (.l 0))], [some ⟨true, 0, .lit [.sl 1 (.x o) (.x n), .i .i64 (.x a), .i .u64 (.x s)]⟩, some ⟨false, 0, .it .u8 L⟩] => some (Zm (anyM (L ()) (a (), s ())), [some ⟨true, 0, .lit [.sl 1 (.x o) (.x n), .i .i64 (.x fun _ => (anyQ (L ()) (a (), s ())).1), .i .u64 (.x fun _ => (anyQ (L ()) (a (), s ())).2)]⟩, some ⟨false, 0, .it .u8 L⟩], [fun _ => 0 ≤ a () ∧ a () ≤ 100000, fun _ => o () = 0 ∧ (L ()).length = n () ∧ n () ≤ 4096 ∧ bytesOk (L ()), fun _ => a () ≤ 10000])
  | [.c (.p 0 (.l 0))], [some ⟨true, 0, .lit [.sn, .i .i64 (.x a), .i .u64 (.x s)]⟩] => some (Zm (anyM [] (a (), s ())), [some ⟨true, 0, .lit [.sn, .i .i64 (.x fun _ => (anyQ [] (a (), s ())).1), .i .u64 (.x fun _ => (anyQ [] (a (), s ())).2)]⟩], [fun _ => 0 ≤ a () ∧ a () ≤ 100000, fun _ => a () ≤ 10000])
  | _, _ => none
def E80 : Env := fun g => envGetL [(122, ⟨false, s122, none⟩), (87, ⟨true, s87, none⟩), (112, ⟨false, s112, none⟩), (121, ⟨false, s121, none⟩)] g
theorem E80ok : EnvOk Tryz.prog E80 := envOk_cons ok122 (envOk_cons ok87 (envOk_cons ok112 (envOk_cons ok121 (envOk_nil _))))
set_option maxRecDepth 100000 in
set_option maxHeartbeats 2000000 in
theorem ok80 : Ok Tryz.prog 80 (s80) := ok_of_wpaH (E := E80) mixed tts E80ok fn80 fun args H v H' o hs ho => by
  split at hs
  · rename_i o n a s L
    cases hs
    obtain ⟨⟨ha0, ha1⟩, ⟨ho0, hlen, hbig, hby⟩, hx0⟩ := ho.three
    try simp only [Unit.unit] at ha0 ha1 ho0 hlen hbig hx0
    refine ⟨_, HLe.refl _, ?_⟩
    cbv
    have hq0 : qIn 10000 (a ⟨⟩, s ⟨⟩) := ⟨ha0, hx0⟩
    have hq1 : qIn 10002 (pkQ (L ⟨⟩) 3 (a ⟨⟩, s ⟨⟩)) := qIn_pk hq0
    have hq2 : qIn 10008 (anR (L ⟨⟩) (pkQ (L ⟨⟩) 3 (a ⟨⟩, s ⟨⟩))) := anR_in hq1
    repeat' (refine Ob.mk ?_ ?_; (focus (first | exact rfl | exact ⟨hq0.1, Int.le_trans hq0.2 (by decide)⟩ | exact Int.le_trans hq0.2 (by decide) | exact ⟨hq1.1, Int.le_trans hq1.2 (by decide)⟩ | exact Int.le_trans hq1.2 (by decide) | exact ⟨hq2.1, Int.le_trans hq2.2 (by decide)⟩ | exact Int.le_trans hq2.2 (by decide) | exact ⟨ho0, hlen, hbig, hby⟩ | exact ⟨by trivial, hlen, hbig, hby⟩)); cbv)
    by_cases h0 : pkV (L ⟨⟩) 3 (a ⟨⟩, s ⟨⟩) = 0
    · have hA1 : an1 (L ⟨⟩) (pkQ (L ⟨⟩) 3 (a ⟨⟩, s ⟨⟩)) = (anyM (L ⟨⟩) (a ⟨⟩, s ⟨⟩)).1 := by unfold anyM; rw [if_pos h0]
      have hA2 : an1 (L ⟨⟩) (anR (L ⟨⟩) (pkQ (L ⟨⟩) 3 (a ⟨⟩, s ⟨⟩))) = (anyM (L ⟨⟩) (a ⟨⟩, s ⟨⟩)).2 := by unfold anyM; rw [if_pos h0]
      have hB1 : (anR (L ⟨⟩) (anR (L ⟨⟩) (pkQ (L ⟨⟩) 3 (a ⟨⟩, s ⟨⟩)))).1 = (anyQ (L ⟨⟩) (a ⟨⟩, s ⟨⟩)).1 := by unfold anyQ; rw [if_pos h0]
      have hB2 : (anR (L ⟨⟩) (anR (L ⟨⟩) (pkQ (L ⟨⟩) 3 (a ⟨⟩, s ⟨⟩)))).2 = (anyQ (L ⟨⟩) (a ⟨⟩, s ⟨⟩)).2 := by unfold anyQ; rw [if_pos h0]
      refine Br.t (eqz_t h0) ?_
      cbv
      repeat' (refine Ob.mk ?_ ?_; (focus (first | exact rfl | exact hA1 | exact hA2 | exact hB1 | exact hB2 | exact ⟨hq0.1, Int.le_trans hq0.2 (by decide)⟩ | exact Int.le_trans hq0.2 (by decide) | exact ⟨hq1.1, Int.le_trans hq1.2 (by decide)⟩ | exact Int.le_trans hq1.2 (by decide) | exact ⟨hq2.1, Int.le_trans hq2.2 (by decide)⟩ | exact Int.le_trans hq2.2 (by decide) | exact ⟨ho0, hlen, hbig, hby⟩ | exact ⟨by trivial, hlen, hbig, hby⟩)); cbv)
    · have hA1 : (dmM (L ⟨⟩) (pkQ (L ⟨⟩) 3 (a ⟨⟩, s ⟨⟩))).1 = (anyM (L ⟨⟩) (a ⟨⟩, s ⟨⟩)).1 := by unfold anyM; rw [if_neg h0]
      have hA2 : (dmM (L ⟨⟩) (pkQ (L ⟨⟩) 3 (a ⟨⟩, s ⟨⟩))).2 = (anyM (L ⟨⟩) (a ⟨⟩, s ⟨⟩)).2 := by unfold anyM; rw [if_neg h0]
      have hB1 : (dmQ (L ⟨⟩) (pkQ (L ⟨⟩) 3 (a ⟨⟩, s ⟨⟩))).1 = (anyQ (L ⟨⟩) (a ⟨⟩, s ⟨⟩)).1 := by unfold anyQ; rw [if_neg h0]
      have hB2 : (dmQ (L ⟨⟩) (pkQ (L ⟨⟩) 3 (a ⟨⟩, s ⟨⟩))).2 = (anyQ (L ⟨⟩) (a ⟨⟩, s ⟨⟩)).2 := by unfold anyQ; rw [if_neg h0]
      refine Br.f (eqz_f h0) ?_
      cbv
      repeat' (refine Ob.mk ?_ ?_; (focus (first | exact rfl | exact hA1 | exact hA2 | exact hB1 | exact hB2 | exact ⟨hq0.1, Int.le_trans hq0.2 (by decide)⟩ | exact Int.le_trans hq0.2 (by decide) | exact ⟨hq1.1, Int.le_trans hq1.2 (by decide)⟩ | exact Int.le_trans hq1.2 (by decide) | exact ⟨hq2.1, Int.le_trans hq2.2 (by decide)⟩ | exact Int.le_trans hq2.2 (by decide) | exact ⟨ho0, hlen, hbig, hby⟩ | exact ⟨by trivial, hlen, hbig, hby⟩)); cbv)
  · rename_i a s
    cases hs
    obtain ⟨⟨ha0, ha1⟩, hx0⟩ := ho.two
    have hby := bytes_nil
    try simp only [Unit.unit] at ha0 ha1 hx0
    refine ⟨_, HLe.refl _, ?_⟩
    cbv
    have hq0 : qIn 10000 (a ⟨⟩, s ⟨⟩) := ⟨ha0, hx0⟩
    have hq1 : qIn 10002 (pkQ [] 3 (a ⟨⟩, s ⟨⟩)) := qIn_pk hq0
    have hq2 : qIn 10008 (anR [] (pkQ [] 3 (a ⟨⟩, s ⟨⟩))) := anR_in hq1
    repeat' (refine Ob.mk ?_ ?_; (focus (first | exact rfl | exact ⟨hq0.1, Int.le_trans hq0.2 (by decide)⟩ | exact Int.le_trans hq0.2 (by decide) | exact ⟨hq1.1, Int.le_trans hq1.2 (by decide)⟩ | exact Int.le_trans hq1.2 (by decide) | exact ⟨hq2.1, Int.le_trans hq2.2 (by decide)⟩ | exact Int.le_trans hq2.2 (by decide))); cbv)
    by_cases h0 : pkV [] 3 (a ⟨⟩, s ⟨⟩) = 0
    · have hA1 : an1 [] (pkQ [] 3 (a ⟨⟩, s ⟨⟩)) = (anyM [] (a ⟨⟩, s ⟨⟩)).1 := by unfold anyM; rw [if_pos h0]
      have hA2 : an1 [] (anR [] (pkQ [] 3 (a ⟨⟩, s ⟨⟩))) = (anyM [] (a ⟨⟩, s ⟨⟩)).2 := by unfold anyM; rw [if_pos h0]
      have hB1 : (anR [] (anR [] (pkQ [] 3 (a ⟨⟩, s ⟨⟩)))).1 = (anyQ [] (a ⟨⟩, s ⟨⟩)).1 := by unfold anyQ; rw [if_pos h0]
      have hB2 : (anR [] (anR [] (pkQ [] 3 (a ⟨⟩, s ⟨⟩)))).2 = (anyQ [] (a ⟨⟩, s ⟨⟩)).2 := by unfold anyQ; rw [if_pos h0]
      refine Br.t (eqz_t h0) ?_
      cbv
      repeat' (refine Ob.mk ?_ ?_; (focus (first | exact rfl | exact hA1 | exact hA2 | exact hB1 | exact hB2 | exact ⟨hq0.1, Int.le_trans hq0.2 (by decide)⟩ | exact Int.le_trans hq0.2 (by decide) | exact ⟨hq1.1, Int.le_trans hq1.2 (by decide)⟩ | exact Int.le_trans hq1.2 (by decide) | exact ⟨hq2.1, Int.le_trans hq2.2 (by decide)⟩ | exact Int.le_trans hq2.2 (by decide))); cbv)
    · have hA1 : (dmM [] (pkQ [] 3 (a ⟨⟩, s ⟨⟩))).1 = (anyM [] (a ⟨⟩, s ⟨⟩)).1 := by unfold anyM; rw [if_neg h0]
      have hA2 : (dmM [] (pkQ [] 3 (a ⟨⟩, s ⟨⟩))).2 = (anyM [] (a ⟨⟩, s ⟨⟩)).2 := by unfold anyM; rw [if_neg h0]
      have hB1 : (dmQ [] (pkQ [] 3 (a ⟨⟩, s ⟨⟩))).1 = (anyQ [] (a ⟨⟩, s ⟨⟩)).1 := by unfold anyQ; rw [if_neg h0]
      have hB2 : (dmQ [] (pkQ [] 3 (a ⟨⟩, s ⟨⟩))).2 = (anyQ [] (a ⟨⟩, s ⟨⟩)).2 := by unfold anyQ; rw [if_neg h0]
      refine Br.f (eqz_f h0) ?_
      cbv
      repeat' (refine Ob.mk ?_ ?_; (focus (first | exact rfl | exact hA1 | exact hA2 | exact hB1 | exact hB2 | exact ⟨hq0.1, Int.le_trans hq0.2 (by decide)⟩ | exact Int.le_trans hq0.2 (by decide) | exact ⟨hq1.1, Int.le_trans hq1.2 (by decide)⟩ | exact Int.le_trans hq1.2 (by decide) | exact ⟨hq2.1, Int.le_trans hq2.2 (by decide)⟩ | exact Int.le_trans hq2.2 (by decide))); cbv)
  · cases hs
theorem fn24 : FnOk Tryz.prog 24 Tryz.f24 (bodyOf Tryz.f24) := ⟨Tryz.func24, rfl, by rfl⟩
def s24 : Spec := hspec fun args H => match args, H with
  | [.c (.sl 0 (.x o) (.x n))], [some ⟨false, 0, .it .u8 L⟩] => some (Zm (anyM (L ()) (0, 0)), [none], [fun _ => o () = 0 ∧ (L ()).length = n () ∧ n () ≤ 4096 ∧ bytesOk (L ())])
  | [.c .sn], [] => some (Zm (anyM [] (0, 0)), [], [])
  | _, _ => none
def E24 : Env := fun g => envGetL [(54, ⟨false, s54, none⟩), (80, ⟨false, s80, none⟩)] g
theorem E24ok : EnvOk Tryz.prog E24 := envOk_cons ok54 (envOk_cons ok80 (envOk_nil _))
set_option maxRecDepth 100000 in
set_option maxHeartbeats 1000000 in
theorem ok24 : Ok Tryz.prog 24 (s24) := ok_of_wpaH (E := E24) mixed tts E24ok fn24 fun args H v H' o hs ho => by
  split at hs
  · rename_i o n L
    cases hs
    have hcb := ho.one
    refine ⟨_, HLe.refl _, ?_⟩
    cbv
    repeat' (refine Ob.mk ?_ ?_; (focus (first | exact rfl | exact hcb | exact ⟨by decide, by decide⟩ | decide)); cbv)
  · cases hs
    refine ⟨_, HLe.refl _, ?_⟩
    cbv
    repeat' (refine Ob.mk ?_ ?_; (focus (first | exact rfl | exact hcb | exact ⟨by decide, by decide⟩ | decide)); cbv)
  · cases hs
end Rg
end Go.Proofs.YteifneielgnniaaGreatDoor.Sh
end
section
namespace Go.Proofs.YteifneielgnniaaGreatDoor.Sh
namespace Rg
open Go Go.Proofs
theorem fn31 : FnOk Tryz.prog 31 Tryz.f31 (bodyOf Tryz.f31) := ⟨Tryz.func31, rfl, by rfl⟩
def s31 : Spec := hspec fun args H => match args, H with
  | [.c (.z .f32 a1 a2), .c (.z .f32 b1 b2)], [] => some (Zm (plusM (a1 (), a2 ()) (b1 (), b2 ())), [], [])
  | _, _ => none
def E31 : Env := fun g => envGetL [(90, ⟨true, s90, none⟩)] g
theorem E31ok : EnvOk Tryz.prog E31 := envOk_cons ok90 (envOk_nil _)
theorem ok31 : Ok Tryz.prog 31 (s31) := ok_of_wpaH (E := E31) mixed tts E31ok fn31 fun args H v H' o hs ho => by
  split at hs
  · rename_i a1 a2 b1 b2
    cases hs
    refine ⟨_, HLe.refl _, ?_⟩
    cbv
    repeat' first
      | (refine Br.mk (fun h => ?_) (fun h => ?_) <;> cbv)
      | (refine Ob.mk ?_ ?_; rotate_left; cbv)
      | (refine Lex.mk (by decide +kernel) ?_; cbv)
    all_goals (try simp only [Unit.unit, Int.ofNat_lt, Int.ofNat_le, BE.val, IE.val, NE.val, ltB_iff, ltB_no, leB_iff, leB_no, Int.toNat_natCast, Nat.zero_add, Nat.add_zero, Nat.mul_one, forced, beq_iff_eq, beq_eq_false_iff_ne, bne_iff_ne, bne_eq_false_iff_eq] at *)
    all_goals first | with_reducible rfl | rfl
  · cases hs
theorem fn35 : FnOk Tryz.prog 35 Tryz.f35 (bodyOf Tryz.f35) := ⟨Tryz.func35, rfl, by rfl⟩
def s35 : Spec := hspec fun args H => match args, H with
  | [.c (.z .f32 a1 a2), .c (.z .f32 b1 b2)], [] => some (Zm (timesM (a1 (), a2 ()) (b1 (), b2 ())), [], [])
  | _, _ => none
def E35 : Env := fun g => envGetL [(93, ⟨true, s93, none⟩)] g
theorem E35ok : EnvOk Tryz.prog E35 := envOk_cons ok93 (envOk_nil _)
theorem ok35 : Ok Tryz.prog 35 (s35) := ok_of_wpaH (E := E35) mixed tts E35ok fn35 fun args H v H' o hs ho => by
  split at hs
  · rename_i a1 a2 b1 b2
    cases hs
    refine ⟨_, HLe.refl _, ?_⟩
    cbv
    repeat' first
      | (refine Br.mk (fun h => ?_) (fun h => ?_) <;> cbv)
      | (refine Ob.mk ?_ ?_; rotate_left; cbv)
      | (refine Lex.mk (by decide +kernel) ?_; cbv)
    all_goals (try simp only [Unit.unit, Int.ofNat_lt, Int.ofNat_le, BE.val, IE.val, NE.val, ltB_iff, ltB_no, leB_iff, leB_no, Int.toNat_natCast, Nat.zero_add, Nat.add_zero, Nat.mul_one, forced, beq_iff_eq, beq_eq_false_iff_ne, bne_iff_ne, bne_eq_false_iff_eq] at *)
    all_goals first | with_reducible rfl | rfl
  · cases hs
theorem fn40 : FnOk Tryz.prog 40 Tryz.f40 (bodyOf Tryz.f40) := ⟨Tryz.func40, rfl, by rfl⟩
def s40 : Spec := hspec fun args H => match args, H with
  | [.c (.z .f32 a1 a2)], [] => some (vB (okM (a1 (), a2 ())), [], [])
  | _, _ => none
def E40 : Env := fun g => envGetL [(98, ⟨true, s98, none⟩)] g
theorem E40ok : EnvOk Tryz.prog E40 := envOk_cons ok98 (envOk_nil _)
theorem ok40 : Ok Tryz.prog 40 (s40) := ok_of_wpaH (E := E40) mixed tts E40ok fn40 fun args H v H' o hs ho => by
  split at hs
  · rename_i a1 a2
    cases hs
    refine ⟨_, HLe.refl _, ?_⟩
    cbv
    repeat' first
      | (refine Br.mk (fun h => ?_) (fun h => ?_) <;> cbv)
      | (refine Ob.mk ?_ ?_; rotate_left; cbv)
      | (refine Lex.mk (by decide +kernel) ?_; cbv)
    all_goals (try simp only [Unit.unit, Int.ofNat_lt, Int.ofNat_le, BE.val, IE.val, NE.val, ltB_iff, ltB_no, leB_iff, leB_no, Int.toNat_natCast, Nat.zero_add, Nat.add_zero, Nat.mul_one, forced, beq_iff_eq, beq_eq_false_iff_ne, bne_iff_ne, bne_eq_false_iff_eq] at *)
    all_goals first | with_reducible rfl | rfl
  · cases hs
def sameMS (a b : M) : Bool := eqS a.1 b.1 && eqS a.2 b.2
def sameShS (p q : List M) : Bool := allI (fun i => sameMS (at2 p i) (at2 q i)) 16
theorem fn38 : FnOk Tryz.prog 38 Tryz.f38 (bodyOf Tryz.f38) := ⟨Tryz.func38, rfl, by rfl⟩
def s38 : Spec := hspec fun args H => match args, H with
  | [.c (.z .f32 a1 a2), .c (.z .f32 b1 b2)], [] => some (vB (sameMS (a1 (), a2 ()) (b1 (), b2 ())), [], [])
  | _, _ => none
def E38 : Env := fun g => envGetL [(83, ⟨true, s83, none⟩), (84, ⟨true, s84, none⟩), (97, ⟨true, s97, none⟩)] g
theorem E38ok : EnvOk Tryz.prog E38 := envOk_cons ok83 (envOk_cons ok84 (envOk_cons ok97 (envOk_nil _)))
theorem ok38 : Ok Tryz.prog 38 (s38) := ok_of_wpaH (E := E38) mixed tts E38ok fn38 fun args H v H' o hs ho => by
  split at hs
  · rename_i a1 a2 b1 b2
    cases hs
    refine ⟨_, HLe.refl _, ?_⟩
    cbv
    repeat' first
      | (refine Br.mk (fun h => ?_) (fun h => ?_) <;> cbv)
      | (refine Ob.mk ?_ ?_; rotate_left; cbv)
      | (refine Lex.mk (by decide +kernel) ?_; cbv)
    all_goals (try simp only [Unit.unit, Int.ofNat_lt, Int.ofNat_le, BE.val, IE.val, NE.val, ltB_iff, ltB_no, leB_iff, leB_no, Int.toNat_natCast, Nat.zero_add, Nat.add_zero, Nat.mul_one, forced, beq_iff_eq, beq_eq_false_iff_ne, bne_iff_ne, bne_eq_false_iff_eq] at *)
    all_goals first | with_reducible rfl | (simp_all [sameMS]; done)
  · cases hs
end Rg
end Go.Proofs.YteifneielgnniaaGreatDoor.Sh
end
section
namespace Go.Proofs.YteifneielgnniaaGreatDoor.Sh
namespace Rg
open Go Go.Proofs
theorem fn46 : FnOk Tryz.prog 46 Tryz.f46 (bodyOf Tryz.f46) := ⟨Tryz.func46, rfl, by rfl⟩
def s46 : Spec := hspec fun args H => match args, H with
  | [.a cs, .a ds], [] => match cxsOf cs, cxsOf ds with
    | some p, some q => some (vB (sameShS (forced p) (forced q)), [], [fun _ => p.length = 16, fun _ => q.length = 16])
    | _, _ => none
  | _, _ => none
def E46 : Env := fun g => envGetL [(38, ⟨true, s38, none⟩)] g
theorem E46ok : EnvOk Tryz.prog E46 := envOk_cons ok38 (envOk_nil _)
set_option maxRecDepth 100000 in
set_option maxHeartbeats 8000000 in
theorem ok46 : Ok Tryz.prog 46 (s46) := ok_of_wpaH (E := E46) mixed tts E46ok fn46 fun args H v H' o hs ho => by
  split at hs
  · rename_i cs ds
    split at hs
    · rename_i p q hp hq
      cases hs
      obtain ⟨hl1, hl2⟩ := ho.two
      obtain ⟨e, m, rfl, rfl⟩ := cx16 hp hl1
      obtain ⟨e', m', rfl, rfl⟩ := cx16 hq hl2
      clear hp hq hl1 hl2 ho
      refine ⟨_, HLe.refl _, ?_⟩
      cbv
      repeat' first
        | (refine Br.mk (fun h => ?_) (fun h => ?_) <;> cbv)
        | (refine Ob.mk ?_ ?_; rotate_left; cbv)
        | (refine Lex.mk (by decide +kernel) ?_; cbv)
        | (refine Loop.mk 70 ?_; cbv)
        | (refine Gen.same ?_; cbv)
      all_goals (try simp only [Unit.unit, Int.ofNat_lt, Int.ofNat_le, BE.val, IE.val, NE.val, ltB_iff, ltB_no, leB_iff, leB_no, Int.toNat_natCast, Nat.zero_add, Nat.add_zero, Nat.mul_one, forced, beq_iff_eq, beq_eq_false_iff_ne, bne_iff_ne, bne_eq_false_iff_eq] at *)
      all_goals first | with_reducible rfl | (simp_all [sameShS, allI, forced]; done)
    · cases hs
  · cases hs
end Rg
end Go.Proofs.YteifneielgnniaaGreatDoor.Sh
end
section
namespace Go.Proofs.YteifneielgnniaaGreatDoor.Sh
namespace Rg
open Go Go.Proofs
theorem fn47 : FnOk Tryz.prog 47 Tryz.f47 (bodyOf Tryz.f47) := ⟨Tryz.func47, rfl, by rfl⟩
def s47 : Spec := hspec fun args H => match args, H with
  | [.a cs, .c (.i .i64 (.x c))], [] => match cxsOf cs with
    | some q => some (.t [Zm (meanO (forced q) (c ()).toNat), vI 0], [], [fun _ => q.length = 16 ∧ okS (forced q) = true ∧ 0 ≤ c () ∧ c () ≤ 3])
    | none => none
  | _, _ => none
def E47 : Env := fun g => envGetL [(106, ⟨true, s106, none⟩), (107, ⟨true, s107, none⟩)] g
theorem E47ok : EnvOk Tryz.prog E47 := envOk_cons ok106 (envOk_cons ok107 (envOk_nil _))
set_option maxRecDepth 100000 in
set_option maxHeartbeats 1000000 in
theorem ok47 : Ok Tryz.prog 47 (s47) := ok_of_wpaH (E := E47) mixed tts E47ok fn47 fun args H v H' o hs ho => by
  split at hs
  · rename_i cs c
    split at hs
    · rename_i q hq
      cases hs
      obtain ⟨hlen, hok, hc⟩ := ho.one
      obtain ⟨e, m, rfl, rfl⟩ := cx16 hq hlen
      clear hq hlen
      have hok : okS [(e 0 ⟨⟩, m 0 ⟨⟩), (e 1 ⟨⟩, m 1 ⟨⟩), (e 2 ⟨⟩, m 2 ⟨⟩), (e 3 ⟨⟩, m 3 ⟨⟩), (e 4 ⟨⟩, m 4 ⟨⟩), (e 5 ⟨⟩, m 5 ⟨⟩), (e 6 ⟨⟩, m 6 ⟨⟩), (e 7 ⟨⟩, m 7 ⟨⟩), (e 8 ⟨⟩, m 8 ⟨⟩), (e 9 ⟨⟩, m 9 ⟨⟩), (e 10 ⟨⟩, m 10 ⟨⟩), (e 11 ⟨⟩, m 11 ⟨⟩), (e 12 ⟨⟩, m 12 ⟨⟩), (e 13 ⟨⟩, m 13 ⟨⟩), (e 14 ⟨⟩, m 14 ⟨⟩), (e 15 ⟨⟩, m 15 ⟨⟩)] = true := hok
      have hcode : ((if okS [(e 0 ⟨⟩, m 0 ⟨⟩), (e 1 ⟨⟩, m 1 ⟨⟩), (e 2 ⟨⟩, m 2 ⟨⟩), (e 3 ⟨⟩, m 3 ⟨⟩), (e 4 ⟨⟩, m 4 ⟨⟩), (e 5 ⟨⟩, m 5 ⟨⟩), (e 6 ⟨⟩, m 6 ⟨⟩), (e 7 ⟨⟩, m 7 ⟨⟩), (e 8 ⟨⟩, m 8 ⟨⟩), (e 9 ⟨⟩, m 9 ⟨⟩), (e 10 ⟨⟩, m 10 ⟨⟩), (e 11 ⟨⟩, m 11 ⟨⟩), (e 12 ⟨⟩, m 12 ⟨⟩), (e 13 ⟨⟩, m 13 ⟨⟩), (e 14 ⟨⟩, m 14 ⟨⟩), (e 15 ⟨⟩, m 15 ⟨⟩)] = true then (0 : Int) else 1) != 0) = false := by rw [if_pos hok]; rfl
      refine ⟨_, HLe.refl _, ?_⟩
      cbv
      repeat' (refine Ob.mk ?_ ?_; (focus (first | exact rfl | exact ⟨rfl, rfl, rfl, hc.1, hc.2⟩ | exact ⟨rfl, hc⟩)); cbv)
      refine Br.f hcode ?_
      cbv
      repeat' (refine Ob.mk ?_ ?_; (focus (first | exact rfl | exact ⟨rfl, rfl, rfl, hc.1, hc.2⟩ | exact ⟨rfl, hc⟩)); cbv)
    · cases hs
  · cases hs
theorem fn48 : FnOk Tryz.prog 48 Tryz.f48 (bodyOf Tryz.f48) := ⟨Tryz.func48, rfl, by rfl⟩
def s48 : Spec := hspec fun args H => match args, H with
  | [.a cs, .c (.i .i64 (.x c))], [] => match cxsOf cs with
    | some q => some (.t [Zm (meanO (forced q) (c ()).toNat), vI 0], [], [fun _ => q.length = 16 ∧ okS (forced q) = true ∧ 0 ≤ c () ∧ c () ≤ 3])
    | none => none
  | _, _ => none
def E48 : Env := fun g => envGetL [(102, ⟨true, s102, none⟩), (108, ⟨true, s108, none⟩)] g
theorem E48ok : EnvOk Tryz.prog E48 := envOk_cons ok102 (envOk_cons ok108 (envOk_nil _))
set_option maxRecDepth 100000 in
set_option maxHeartbeats 1000000 in
theorem ok48 : Ok Tryz.prog 48 (s48) := ok_of_wpaH (E := E48) mixed tts E48ok fn48 fun args H v H' o hs ho => by
  split at hs
  · rename_i cs c
    split at hs
    · rename_i q hq
      cases hs
      obtain ⟨hlen, hok, hc⟩ := ho.one
      obtain ⟨e, m, rfl, rfl⟩ := cx16 hq hlen
      clear hq hlen
      have hok : okS [(e 0 ⟨⟩, m 0 ⟨⟩), (e 1 ⟨⟩, m 1 ⟨⟩), (e 2 ⟨⟩, m 2 ⟨⟩), (e 3 ⟨⟩, m 3 ⟨⟩), (e 4 ⟨⟩, m 4 ⟨⟩), (e 5 ⟨⟩, m 5 ⟨⟩), (e 6 ⟨⟩, m 6 ⟨⟩), (e 7 ⟨⟩, m 7 ⟨⟩), (e 8 ⟨⟩, m 8 ⟨⟩), (e 9 ⟨⟩, m 9 ⟨⟩), (e 10 ⟨⟩, m 10 ⟨⟩), (e 11 ⟨⟩, m 11 ⟨⟩), (e 12 ⟨⟩, m 12 ⟨⟩), (e 13 ⟨⟩, m 13 ⟨⟩), (e 14 ⟨⟩, m 14 ⟨⟩), (e 15 ⟨⟩, m 15 ⟨⟩)] = true := hok
      have hcode : ((if okS [(e 0 ⟨⟩, m 0 ⟨⟩), (e 1 ⟨⟩, m 1 ⟨⟩), (e 2 ⟨⟩, m 2 ⟨⟩), (e 3 ⟨⟩, m 3 ⟨⟩), (e 4 ⟨⟩, m 4 ⟨⟩), (e 5 ⟨⟩, m 5 ⟨⟩), (e 6 ⟨⟩, m 6 ⟨⟩), (e 7 ⟨⟩, m 7 ⟨⟩), (e 8 ⟨⟩, m 8 ⟨⟩), (e 9 ⟨⟩, m 9 ⟨⟩), (e 10 ⟨⟩, m 10 ⟨⟩), (e 11 ⟨⟩, m 11 ⟨⟩), (e 12 ⟨⟩, m 12 ⟨⟩), (e 13 ⟨⟩, m 13 ⟨⟩), (e 14 ⟨⟩, m 14 ⟨⟩), (e 15 ⟨⟩, m 15 ⟨⟩)] = true then if inI (c ⟨⟩) 0 3 = true ∧ true = true then (0 : Int) else 2 else 1) != 0) = false := by rw [if_pos hok, if_pos ⟨inI_iff.2 hc, rfl⟩]; rfl
      refine ⟨_, HLe.refl _, ?_⟩
      cbv
      repeat' (refine Ob.mk ?_ ?_; (focus (first | exact rfl | exact ⟨rfl, rfl, rfl, hc.1, hc.2⟩ | exact ⟨rfl, hc⟩)); cbv)
      refine Br.f hcode ?_
      cbv
      repeat' (refine Ob.mk ?_ ?_; (focus (first | exact rfl | exact ⟨rfl, rfl, rfl, hc.1, hc.2⟩ | exact ⟨rfl, hc⟩)); cbv)
    · cases hs
  · cases hs
theorem fn50 : FnOk Tryz.prog 50 Tryz.f50 (bodyOf Tryz.f50) := ⟨Tryz.func50, rfl, by rfl⟩
def s50 : Spec := hspec fun args H => match args, H with
  | [.a cs, .c (.i .i64 (.x c))], [] => match cxsOf cs with
    | some q => some (.t [vI ((grS (forced q) (c ()).toNat 3).1 : Nat), F (grS (forced q) (c ()).toNat 3).2, vI 0], [], [fun _ => q.length = 16 ∧ okS (forced q) = true ∧ 0 ≤ c () ∧ c () ≤ 3])
    | none => none
  | _, _ => none
def E50 : Env := fun g => envGetL [(102, ⟨true, s102, none⟩), (104, ⟨true, s104, none⟩)] g
theorem E50ok : EnvOk Tryz.prog E50 := envOk_cons ok102 (envOk_cons ok104 (envOk_nil _))
set_option maxRecDepth 100000 in
set_option maxHeartbeats 1000000 in
theorem ok50 : Ok Tryz.prog 50 (s50) := ok_of_wpaH (E := E50) mixed tts E50ok fn50 fun args H v H' o hs ho => by
  split at hs
  · rename_i cs c
    split at hs
    · rename_i q hq
      cases hs
      obtain ⟨hlen, hok, hc⟩ := ho.one
      obtain ⟨e, m, rfl, rfl⟩ := cx16 hq hlen
      clear hq hlen
      have hok : okS [(e 0 ⟨⟩, m 0 ⟨⟩), (e 1 ⟨⟩, m 1 ⟨⟩), (e 2 ⟨⟩, m 2 ⟨⟩), (e 3 ⟨⟩, m 3 ⟨⟩), (e 4 ⟨⟩, m 4 ⟨⟩), (e 5 ⟨⟩, m 5 ⟨⟩), (e 6 ⟨⟩, m 6 ⟨⟩), (e 7 ⟨⟩, m 7 ⟨⟩), (e 8 ⟨⟩, m 8 ⟨⟩), (e 9 ⟨⟩, m 9 ⟨⟩), (e 10 ⟨⟩, m 10 ⟨⟩), (e 11 ⟨⟩, m 11 ⟨⟩), (e 12 ⟨⟩, m 12 ⟨⟩), (e 13 ⟨⟩, m 13 ⟨⟩), (e 14 ⟨⟩, m 14 ⟨⟩), (e 15 ⟨⟩, m 15 ⟨⟩)] = true := hok
      have hcode : ((if okS [(e 0 ⟨⟩, m 0 ⟨⟩), (e 1 ⟨⟩, m 1 ⟨⟩), (e 2 ⟨⟩, m 2 ⟨⟩), (e 3 ⟨⟩, m 3 ⟨⟩), (e 4 ⟨⟩, m 4 ⟨⟩), (e 5 ⟨⟩, m 5 ⟨⟩), (e 6 ⟨⟩, m 6 ⟨⟩), (e 7 ⟨⟩, m 7 ⟨⟩), (e 8 ⟨⟩, m 8 ⟨⟩), (e 9 ⟨⟩, m 9 ⟨⟩), (e 10 ⟨⟩, m 10 ⟨⟩), (e 11 ⟨⟩, m 11 ⟨⟩), (e 12 ⟨⟩, m 12 ⟨⟩), (e 13 ⟨⟩, m 13 ⟨⟩), (e 14 ⟨⟩, m 14 ⟨⟩), (e 15 ⟨⟩, m 15 ⟨⟩)] = true then if inI (c ⟨⟩) 0 3 = true ∧ true = true then (0 : Int) else 2 else 1) != 0) = false := by rw [if_pos hok, if_pos ⟨inI_iff.2 hc, rfl⟩]; rfl
      refine ⟨_, HLe.refl _, ?_⟩
      cbv
      repeat' (refine Ob.mk ?_ ?_; (focus (first | exact rfl | exact ⟨rfl, rfl, rfl, hc.1, hc.2⟩ | exact ⟨rfl, hc⟩)); cbv)
      refine Br.f hcode ?_
      cbv
      repeat' (refine Ob.mk ?_ ?_; (focus (first | exact rfl | exact ⟨rfl, rfl, rfl, hc.1, hc.2⟩ | exact ⟨rfl, hc⟩)); cbv)
    · cases hs
  · cases hs
end Rg
end Go.Proofs.YteifneielgnniaaGreatDoor.Sh
end
section
namespace Go.Proofs.YteifneielgnniaaGreatDoor.Sh
namespace Rg
open Go Go.Proofs
def s135b : Spec := hspec fun args H => match args, H with
  | [.c (.sl 0 (.x o) (.x n))], [some ⟨false, 0, x⟩] => match x.toIt .i64 with
    | some l => some (.c (.b (.l true)), [none], [fun _ => o () = 0 ∧ n () = 2 ∧ (l ()).length = 2 ∧ 0 ≤ (l ()).getD 0 0 ∧ (l ()).getD 0 0 ≤ 3 ∧ 0 ≤ (l ()).getD 1 0 ∧ (l ()).getD 1 0 ≤ 3])
    | none => none
  | _, _ => none
set_option maxRecDepth 100000 in
set_option maxHeartbeats 1000000 in
theorem ok135b : Ok Tryz.prog 135 (s135b) := ok_of_wpaH (E := envGetL []) mixed tts (envOk_nil _) fn135 fun args H v H' o hs ho => by
  split at hs
  · rename_i o n x
    split at hs
    · rename_i l hl
      cases hs
      obtain ⟨ho, hn, hlen, h0, h3, k0, k3⟩ := ho.one
      try simp only [Unit.unit] at ho hn hlen h0 h3 k0 k3
      have t1 : ltB 0 (n ⟨⟩ : Int) = true := by rw [ltB_iff, hn]; decide
      have u1 : ltB 1 (n ⟨⟩ : Int) = true := by rw [ltB_iff, hn]; decide
      have t2 : ltB 2 (n ⟨⟩ : Int) = false := by rw [ltB_no, hn]; decide
      have t3 : ltB ((l ⟨⟩).getD (o ⟨⟩ + 0) 0) 0 = false := by rw [ho, ltB_no]; exact Int.not_lt.2 h0
      have t4 : ltB 3 ((l ⟨⟩).getD (o ⟨⟩ + 0) 0) = false := by rw [ho, ltB_no]; exact Int.not_lt.2 h3
      have u3 : ltB ((l ⟨⟩).getD (o ⟨⟩ + 1) 0) 0 = false := by rw [ho, ltB_no]; exact Int.not_lt.2 k0
      have u4 : ltB 3 ((l ⟨⟩).getD (o ⟨⟩ + 1) 0) = false := by rw [ho, ltB_no]; exact Int.not_lt.2 k3
      have t5 : (0 : Int) ≤ 0 ∧ (0 : Int) < (n ⟨⟩ : Int) := by rw [hn]; decide
      have u5 : (0 : Int) ≤ 1 ∧ (1 : Int) < (n ⟨⟩ : Int) := by rw [hn]; decide
      have t6 : o ⟨⟩ + 0 < (l ⟨⟩).length := by rw [ho, hlen]; decide
      have u6 : o ⟨⟩ + 1 < (l ⟨⟩).length := by rw [ho, hlen]; decide
      refine ⟨_, HLe.cons (BLe.it hl) HLe.nil, ?_⟩
      cbv
      refine Loop.mk 70 ?_
      cbv
      refine Gen.same ?_
      cbv
      refine Br.t t1 ?_
      cbv
      repeat' (refine Ob.mk ?_ ?_; (focus (first | exact t5 | exact t6)); cbv)
      refine Br.f t3 ?_
      cbv
      refine Br.f t4 ?_
      cbv
      refine Gen.same ?_
      cbv
      refine Br.t u1 ?_
      cbv
      repeat' (refine Ob.mk ?_ ?_; (focus (first | exact u5 | exact u6)); cbv)
      refine Br.f u3 ?_
      cbv
      refine Br.f u4 ?_
      cbv
      refine Gen.same ?_
      cbv
      refine Br.f t2 ?_
      cbv
      repeat' (refine Ob.mk ?_ ?_; rotate_left; cbv)
      all_goals (try simp only [Unit.unit, Int.ofNat_lt, Int.ofNat_le, BE.val, IE.val, NE.val, ltB_iff, ltB_no, leB_iff, leB_no, Int.toNat_natCast, Nat.zero_add, Nat.add_zero, Nat.mul_one, forced, beq_iff_eq, beq_eq_false_iff_ne, bne_iff_ne, bne_eq_false_iff_eq] at *)
      all_goals first | with_reducible rfl | rfl
    · cases hs
  · cases hs
def s106b : Spec := hspec fun args H => match args, H with
  | [.a cs, .c (.sl 0 (.x o) (.x n))], [some ⟨false, 0, x⟩] => match cxsOf cs, x.toIt .i64 with
    | some q, some l => some (vI (if okS (forced q) = true then 0 else 1), [none], [fun _ => q.length = 16, fun _ => o () = 0 ∧ n () = 2 ∧ (l ()).length = 2 ∧ 0 ≤ (l ()).getD 0 0 ∧ (l ()).getD 0 0 ≤ 3 ∧ 0 ≤ (l ()).getD 1 0 ∧ (l ()).getD 1 0 ≤ 3])
    | _, _ => none
  | _, _ => none
def E106b : Env := fun g => envGetL [(45, ⟨true, s45, none⟩), (135, ⟨true, s135b, none⟩)] g
theorem E106bok : EnvOk Tryz.prog E106b := envOk_cons ok45 (envOk_cons ok135b (envOk_nil _))
set_option maxRecDepth 100000 in
set_option maxHeartbeats 1000000 in
theorem ok106b : Ok Tryz.prog 106 (s106b) := ok_of_wpaH (E := E106b) mixed tts E106bok fn106 fun args H v H' o hs ho => by
  split at hs
  · rename_i cs o n x
    split at hs
    · rename_i q l hq hl
      cases hs
      obtain ⟨hlen, hw⟩ := ho.two
      obtain ⟨e, m, rfl, rfl⟩ := cx16 hq hlen
      clear hq hlen
      refine ⟨_, HLe.cons (BLe.it hl) HLe.nil, ?_⟩
      cbv
      repeat' first
        | (refine Br.mk (fun h => ?_) (fun h => ?_) <;> cbv)
        | (refine Ob.mk ?_ ?_; rotate_left; cbv)
        | (refine Lex.mk (by decide +kernel) ?_; cbv)
      all_goals try (first | exact hw | exact rfl)
      all_goals (try simp only [Unit.unit, Int.ofNat_lt, Int.ofNat_le, BE.val, IE.val, NE.val, ltB_iff, ltB_no, leB_iff, leB_no, Int.toNat_natCast, Nat.zero_add, Nat.add_zero, Nat.mul_one, forced, beq_iff_eq, beq_eq_false_iff_ne, bne_iff_ne, bne_eq_false_iff_eq] at *)
      all_goals first | with_reducible rfl | (simp_all; done)
    · cases hs
  · cases hs
theorem fn52 : FnOk Tryz.prog 52 Tryz.f52 (bodyOf Tryz.f52) := ⟨Tryz.func52, rfl, by rfl⟩
def s52 : Spec := hspec fun args H => match args, H with
  | [.a cs, .c (.i .i64 (.x c)), .c (.i .i64 (.x k))], [] => match cxsOf cs with
    | some q => some (.t [Zm (offM (forced q) (c ()).toNat (k ()).toNat), vI 0], [], [fun _ => q.length = 16 ∧ okS (forced q) = true ∧ 0 ≤ c () ∧ c () ≤ 3 ∧ 0 ≤ k () ∧ k () ≤ 3])
    | none => none
  | _, _ => none
def E52 : Env := fun g => envGetL [(106, ⟨true, s106b, none⟩), (110, ⟨true, s110, none⟩)] g
theorem E52ok : EnvOk Tryz.prog E52 := envOk_cons ok106b (envOk_cons ok110 (envOk_nil _))
set_option maxRecDepth 100000 in
set_option maxHeartbeats 1000000 in
theorem ok52 : Ok Tryz.prog 52 (s52) := ok_of_wpaH (E := E52) mixed tts E52ok fn52 fun args H v H' o hs ho => by
  split at hs
  · rename_i cs c k
    split at hs
    · rename_i q hq
      cases hs
      obtain ⟨hlen, hok, hc⟩ := ho.one
      obtain ⟨e, m, rfl, rfl⟩ := cx16 hq hlen
      clear hq hlen
      have hok : okS [(e 0 ⟨⟩, m 0 ⟨⟩), (e 1 ⟨⟩, m 1 ⟨⟩), (e 2 ⟨⟩, m 2 ⟨⟩), (e 3 ⟨⟩, m 3 ⟨⟩), (e 4 ⟨⟩, m 4 ⟨⟩), (e 5 ⟨⟩, m 5 ⟨⟩), (e 6 ⟨⟩, m 6 ⟨⟩), (e 7 ⟨⟩, m 7 ⟨⟩), (e 8 ⟨⟩, m 8 ⟨⟩), (e 9 ⟨⟩, m 9 ⟨⟩), (e 10 ⟨⟩, m 10 ⟨⟩), (e 11 ⟨⟩, m 11 ⟨⟩), (e 12 ⟨⟩, m 12 ⟨⟩), (e 13 ⟨⟩, m 13 ⟨⟩), (e 14 ⟨⟩, m 14 ⟨⟩), (e 15 ⟨⟩, m 15 ⟨⟩)] = true := hok
      have hcode : ((if okS [(e 0 ⟨⟩, m 0 ⟨⟩), (e 1 ⟨⟩, m 1 ⟨⟩), (e 2 ⟨⟩, m 2 ⟨⟩), (e 3 ⟨⟩, m 3 ⟨⟩), (e 4 ⟨⟩, m 4 ⟨⟩), (e 5 ⟨⟩, m 5 ⟨⟩), (e 6 ⟨⟩, m 6 ⟨⟩), (e 7 ⟨⟩, m 7 ⟨⟩), (e 8 ⟨⟩, m 8 ⟨⟩), (e 9 ⟨⟩, m 9 ⟨⟩), (e 10 ⟨⟩, m 10 ⟨⟩), (e 11 ⟨⟩, m 11 ⟨⟩), (e 12 ⟨⟩, m 12 ⟨⟩), (e 13 ⟨⟩, m 13 ⟨⟩), (e 14 ⟨⟩, m 14 ⟨⟩), (e 15 ⟨⟩, m 15 ⟨⟩)] = true then (0 : Int) else 1) != 0) = false := by rw [if_pos hok]; rfl
      refine ⟨_, HLe.refl _, ?_⟩
      cbv
      repeat' (refine Ob.mk ?_ ?_; (focus (first | exact rfl | exact ⟨rfl, rfl, rfl, hc.1, hc.2.1, hc.2.2.1, hc.2.2.2⟩ | exact ⟨rfl, hc⟩)); cbv)
      refine Br.f hcode ?_
      cbv
      repeat' (refine Ob.mk ?_ ?_; (focus (first | exact rfl | exact ⟨rfl, rfl, rfl, hc.1, hc.2.1, hc.2.2.1, hc.2.2.2⟩ | exact ⟨rfl, hc⟩)); cbv)
    · cases hs
  · cases hs
end Rg
end Go.Proofs.YteifneielgnniaaGreatDoor.Sh
end
