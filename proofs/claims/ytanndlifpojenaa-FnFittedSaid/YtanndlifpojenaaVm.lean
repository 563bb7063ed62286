/- What the draws of any mark and of adjustments of this seat compute, each shown once. No condition. -/
import Derived.Test.YtanndlifpojenaaVj
set_option linter.unusedVariables false
set_option linter.unusedSimpArgs false
set_option linter.unusedSectionVars false
namespace Go.Proofs.Ytanndlifpojenaa.Sh
open Go Go.Proofs
section
theorem fn112 : FnOk Try.prog 112 Try.f112 (bodyOf Try.f112) := ⟨Try.func112, rfl, by rfl⟩
def s112 : Spec := hspec fun args H => match args, H with
  | [.c (.p 0 (.l 0)), .c (.sl 1 (.x o') (.x m))], [some ⟨true, 0, .lit [.sl 2 (.x o) (.x n), .i .i64 (.x a), .i .u64 (.x s)]⟩, some ⟨true, 1, x⟩, some ⟨false, 0, .it .u8 L⟩] => match x.toIt .i64 with
    | some l => some (vI ((l ()).getD (pkV (L ()) (m () : Int) (a (), s ())).toNat 0), [some ⟨true, 0, .lit [.sl 2 (.x o) (.x n), .i .i64 (.x fun _ => (pkQ (L ()) (m () : Int) (a (), s ())).1), .i .u64 (.x fun _ => (pkQ (L ()) (m () : Int) (a (), s ())).2)]⟩, some ⟨true, 1, .it .i64 l⟩, some ⟨false, 0, .it .u8 L⟩], [fun _ => 0 ≤ a () ∧ a () ≤ 50000, fun _ => o () = 0 ∧ (L ()).length = n () ∧ n () ≤ 4096 ∧ bytesOk (L ()), fun _ => o' () = 0 ∧ (l ()).length = m () ∧ 1 ≤ m () ∧ m () ≤ 200])
    | none => none
  | [.c (.p 0 (.l 0)), .c (.sl 1 (.x o') (.x m))], [some ⟨true, 0, .lit [.sn, .i .i64 (.x a), .i .u64 (.x s)]⟩, some ⟨true, 1, x⟩] => match x.toIt .i64 with
    | some l => some (vI ((l ()).getD (pkV [] (m () : Int) (a (), s ())).toNat 0), [some ⟨true, 0, .lit [.sn, .i .i64 (.x fun _ => (pkQ [] (m () : Int) (a (), s ())).1), .i .u64 (.x fun _ => (pkQ [] (m () : Int) (a (), s ())).2)]⟩, some ⟨true, 1, .it .i64 l⟩], [fun _ => 0 ≤ a () ∧ a () ≤ 50000, fun _ => o' () = 0 ∧ (l ()).length = m () ∧ 1 ≤ m () ∧ m () ≤ 200])
    | none => none
  | _, _ => none
def E112 : Env := fun g => envGetL [(37, ⟨false, s37, none⟩)] g
theorem E112ok : EnvOk Try.prog E112 := envOk_cons ok37 (envOk_nil _)
set_option maxRecDepth 100000 in
set_option maxHeartbeats 1000000 in
theorem ok112 : Ok Try.prog 112 (s112) := ok_of_wpaH (E := E112) mixed tts E112ok fn112 fun args H v H' o hs ho => by
  split at hs
  · rename_i o' m o n a s x L
    split at hs
    · rename_i l hl
      cases hs
      obtain ⟨⟨ha0, ha1⟩, ⟨ho0, hlen, hbig, hby⟩, ⟨ho1, hlen1, hm1, hm2⟩⟩ := ho.three
      try simp only [Unit.unit] at *
      have hb := pkV_bd hby (k := (m ⟨⟩ : Int)) (by omega) (a ⟨⟩, s ⟨⟩)
      refine ⟨_, HLe.cons (BLe.refl _) (HLe.cons (BLe.it hl) (HLe.cons (BLe.refl _) HLe.nil)), ?_⟩
      cbv
      repeat' first
        | (refine Br.mk (fun h => ?_) (fun h => ?_) <;> cbv)
        | (refine Ob.mk ?_ ?_; rotate_left; cbv)
        | (refine Lex.mk (by decide +kernel) ?_; cbv)
      all_goals try (first | exact ⟨ha0, Int.le_trans ha1 (by decide)⟩ | exact ha1 | exact ⟨ho0, hlen, hbig, hby⟩ | exact ⟨by trivial, hlen, hbig, hby⟩ | exact hb | exact natlt hb.1 hb.2)
      all_goals (try simp only [Unit.unit, Int.ofNat_lt, Int.ofNat_le, BE.val, IE.val, NE.val, ltB_iff, ltB_no, leB_iff, leB_no, Int.toNat_natCast, Nat.zero_add, Nat.add_zero, Nat.mul_one, forced, beq_iff_eq, beq_eq_false_iff_ne, bne_iff_ne, bne_eq_false_iff_eq] at *)
      all_goals (try simp only [ho1, Nat.zero_add, Nat.mul_one] at *)
      all_goals first | with_reducible rfl | exact hb | exact natlt hb.1 hb.2 | (rw [hlen1]; exact natlt hb.1 hb.2) | rfl
    · cases hs
  · rename_i o' m a s x
    split at hs
    · rename_i l hl
      cases hs
      obtain ⟨⟨ha0, ha1⟩, ⟨ho1, hlen1, hm1, hm2⟩⟩ := ho.two
      have hby := bytes_nil
      try simp only [Unit.unit] at *
      have hb := pkV_bd hby (k := (m ⟨⟩ : Int)) (by omega) (a ⟨⟩, s ⟨⟩)
      refine ⟨_, HLe.cons (BLe.refl _) (HLe.cons (BLe.it hl) HLe.nil), ?_⟩
      cbv
      repeat' first
        | (refine Br.mk (fun h => ?_) (fun h => ?_) <;> cbv)
        | (refine Ob.mk ?_ ?_; rotate_left; cbv)
        | (refine Lex.mk (by decide +kernel) ?_; cbv)
      all_goals try (first | exact ⟨ha0, Int.le_trans ha1 (by decide)⟩ | exact ha1 | exact hb | exact natlt hb.1 hb.2)
      all_goals (try simp only [Unit.unit, Int.ofNat_lt, Int.ofNat_le, BE.val, IE.val, NE.val, ltB_iff, ltB_no, leB_iff, leB_no, Int.toNat_natCast, Nat.zero_add, Nat.add_zero, Nat.mul_one, forced, beq_iff_eq, beq_eq_false_iff_ne, bne_iff_ne, bne_eq_false_iff_eq] at *)
      all_goals (try simp only [ho1, Nat.zero_add, Nat.mul_one] at *)
      all_goals first | with_reducible rfl | exact hb | exact natlt hb.1 hb.2 | (rw [hlen1]; exact natlt hb.1 hb.2) | rfl
    · cases hs
  · cases hs
theorem e117a : Extern.findNext Try.f117 = none := by rfl
theorem e117b : Extern.find Try.f117 = some Extern.MathFloatBits.float64frombits := by rfl
def s117 : Spec := fun args H => match args with
  | [.c (.i .u64 e)] => some (.c (.f .f64 fun _ => e.val.toNat), H, [])
  | _ => none
theorem ok117 : Ok Try.prog 117 s117 := by
  intro args H v H' o hs ho μ W w vs hW hH hr
  unfold s117 at hs
  split at hs
  · rename_i e
    cases hs
    match vs, hr with
    | [x], hr =>
      obtain ⟨rfl, _⟩ := hr
      refine .inr ⟨.float .f64 e.val.toNat, w, ?_, μ, agree.refl _ _, Nat.le_refl _, hH, ⟨_, rfl, .inl rfl⟩, Fr.refl _ _⟩
      rw [run_callFunc_extern (P := Try.prog) (f := 117) Try.func117 (by rfl) (by rfl) e117a e117b #[.int .u64 e.val] w]
      rfl
  · cases hs
theorem e111a : Extern.findNext Try.f111 = none := by rfl
theorem e111b : Extern.find Try.f111 = some Extern.MathFloatBits.float32frombits := by rfl
def s111 : Spec := fun args H => match args with
  | [.c (.i .u32 e)] => some (.c (.f .f32 fun _ => e.val.toNat), H, [])
  | _ => none
theorem ok111 : Ok Try.prog 111 s111 := by
  intro args H v H' o hs ho μ W w vs hW hH hr
  unfold s111 at hs
  split at hs
  · rename_i e
    cases hs
    match vs, hr with
    | [x], hr =>
      obtain ⟨rfl, _⟩ := hr
      refine .inr ⟨.float .f32 e.val.toNat, w, ?_, μ, agree.refl _ _, Nat.le_refl _, hH, ⟨_, rfl, .inl rfl⟩, Fr.refl _ _⟩
      rw [run_callFunc_extern (P := Try.prog) (f := 111) Try.func111 (by rfl) (by rfl) e111a e111b #[.int .u32 e.val] w]
      rfl
  · cases hs
theorem fn109 : FnOk Try.prog 109 Try.f109 (bodyOf Try.f109) := ⟨Try.func109, rfl, by rfl⟩
def s109 : Spec := hspec fun args H => match args, H with
  | [], [] => some (.c (.f .f64 fun _ => 9221120237041090561), [], [])
  | _, _ => none
def E109 : Env := fun g => envGetL [(117, ⟨true, s117, none⟩)] g
theorem E109ok : EnvOk Try.prog E109 := envOk_cons ok117 (envOk_nil _)
theorem ok109 : Ok Try.prog 109 (s109) := ok_of_wpaH (E := E109) mixed tts E109ok fn109 fun args H v H' o hs ho => by
  split at hs
  · cases hs
    refine ⟨_, HLe.refl _, ?_⟩
    cbv
    repeat' first
      | (refine Br.mk (fun h => ?_) (fun h => ?_) <;> cbv)
      | (refine Ob.mk ?_ ?_; rotate_left; cbv)
      | (refine Lex.mk (by decide +kernel) ?_; cbv)
    all_goals (try simp only [Unit.unit, Int.ofNat_lt, Int.ofNat_le, BE.val, IE.val, NE.val, ltB_iff, ltB_no, leB_iff, leB_no, Int.toNat_natCast, Nat.zero_add, Nat.add_zero, Nat.mul_one, forced, beq_iff_eq, beq_eq_false_iff_ne, bne_iff_ne, bne_eq_false_iff_eq] at *)
    all_goals first | with_reducible rfl | rfl
  · cases hs
theorem fn110 : FnOk Try.prog 110 Try.f110 (bodyOf Try.f110) := ⟨Try.func110, rfl, by rfl⟩
def s110 : Spec := hspec fun args H => match args, H with
  | [.c (.i .i64 (.x s))], [] => some (.c (.f .f64 fun _ => if 0 ≤ s () then 9218868437227405312 else 18442240474082181120), [], [])
  | _, _ => none
def E110 : Env := fun g => envGetL [(117, ⟨true, s117, none⟩)] g
theorem E110ok : EnvOk Try.prog E110 := envOk_cons ok117 (envOk_nil _)
theorem ok110 : Ok Try.prog 110 (s110) := ok_of_wpaH (E := E110) mixed tts E110ok fn110 fun args H v H' o hs ho => by
  split at hs
  · rename_i s
    cases hs
    refine ⟨_, HLe.refl _, ?_⟩
    cbv
    repeat' first
      | (refine Br.mk (fun h => ?_) (fun h => ?_) <;> cbv)
      | (refine Ob.mk ?_ ?_; rotate_left; cbv)
      | (refine Lex.mk (by decide +kernel) ?_; cbv)
    all_goals (try simp only [Unit.unit, Int.ofNat_lt, Int.ofNat_le, BE.val, IE.val, NE.val, ltB_iff, ltB_no, leB_iff, leB_no, Int.toNat_natCast, Nat.zero_add, Nat.add_zero, Nat.mul_one, forced, beq_iff_eq, beq_eq_false_iff_ne, bne_iff_ne, bne_eq_false_iff_eq] at *)
    all_goals first | with_reducible rfl | (simp_all; done)
  · cases hs
theorem fn113 : FnOk Try.prog 113 Try.f113 (bodyOf Try.f113) := ⟨Try.func113, rfl, by rfl⟩
def s113 : Spec := hspec fun args H => match args, H with
  | [.c (.p 0 (.l 0))], [some ⟨true, 0, .lit [.sl 1 (.x o) (.x n), .i .i64 (.x a), .i .u64 (.x s)]⟩, some ⟨false, 0, .it .u8 L⟩] => some (F (fop .quo .f32 (floatOfInt .f32 (IntKind.wrap .i64 (pkV (L ()) 65 (a (), s ()) - 32))) 1082130432), [some ⟨true, 0, .lit [.sl 1 (.x o) (.x n), .i .i64 (.x fun _ => (pkQ (L ()) 65 (a (), s ())).1), .i .u64 (.x fun _ => (pkQ (L ()) 65 (a (), s ())).2)]⟩, some ⟨false, 0, .it .u8 L⟩], [fun _ => 0 ≤ a () ∧ a () ≤ 100000, fun _ => o () = 0 ∧ (L ()).length = n () ∧ n () ≤ 4096 ∧ bytesOk (L ()), fun _ => a () ≤ 40000])
  | [.c (.p 0 (.l 0))], [some ⟨true, 0, .lit [.sn, .i .i64 (.x a), .i .u64 (.x s)]⟩] => some (F (fop .quo .f32 (floatOfInt .f32 (IntKind.wrap .i64 (pkV [] 65 (a (), s ()) - 32))) 1082130432), [some ⟨true, 0, .lit [.sn, .i .i64 (.x fun _ => (pkQ [] 65 (a (), s ())).1), .i .u64 (.x fun _ => (pkQ [] 65 (a (), s ())).2)]⟩], [fun _ => 0 ≤ a () ∧ a () ≤ 100000, fun _ => a () ≤ 40000])
  | _, _ => none
def E113 : Env := fun g => envGetL [(37, ⟨false, s37, none⟩)] g
theorem E113ok : EnvOk Try.prog E113 := envOk_cons ok37 (envOk_nil _)
set_option maxRecDepth 100000 in
set_option maxHeartbeats 1000000 in
theorem ok113 : Ok Try.prog 113 (s113) := ok_of_wpaH (E := E113) mixed tts E113ok fn113 fun args H v H' o hs ho => by
  split at hs
  · rename_i o n a s L
    cases hs
    obtain ⟨⟨ha0, ha1⟩, ⟨ho0, hlen, hbig, hby⟩, hx0⟩ := ho.three
    try simp only [Unit.unit] at ha0 ha1 ho0 hlen hbig hx0
    refine ⟨_, HLe.refl _, ?_⟩
    cbv
    repeat' first
      | (refine Br.mk (fun h => ?_) (fun h => ?_) <;> cbv)
      | (refine Ob.mk ?_ ?_; rotate_left; cbv)
      | (refine Lex.mk (by decide +kernel) ?_; cbv)
    all_goals try (first | exact ⟨ha0, ha1⟩ | exact ⟨ho0, hlen, hbig, hby⟩ | exact ⟨by trivial, hlen, hbig, hby⟩)
    all_goals (try simp only [Unit.unit, Int.ofNat_lt, Int.ofNat_le, BE.val, IE.val, NE.val, ltB_iff, ltB_no, leB_iff, leB_no, Int.toNat_natCast, Nat.zero_add, Nat.add_zero, Nat.mul_one, forced, beq_iff_eq, beq_eq_false_iff_ne, bne_iff_ne, bne_eq_false_iff_eq] at *)
    all_goals first | with_reducible rfl | omega | exact Int.le_trans ha1 (by decide) | rfl
  · rename_i a s
    cases hs
    obtain ⟨⟨ha0, ha1⟩, hx0⟩ := ho.two
    have hby := bytes_nil
    try simp only [Unit.unit] at ha0 ha1 hx0
    refine ⟨_, HLe.refl _, ?_⟩
    cbv
    repeat' first
      | (refine Br.mk (fun h => ?_) (fun h => ?_) <;> cbv)
      | (refine Ob.mk ?_ ?_; rotate_left; cbv)
      | (refine Lex.mk (by decide +kernel) ?_; cbv)
    all_goals try (first | exact ⟨ha0, ha1⟩)
    all_goals (try simp only [Unit.unit, Int.ofNat_lt, Int.ofNat_le, BE.val, IE.val, NE.val, ltB_iff, ltB_no, leB_iff, leB_no, Int.toNat_natCast, Nat.zero_add, Nat.add_zero, Nat.mul_one, forced, beq_iff_eq, beq_eq_false_iff_ne, bne_iff_ne, bne_eq_false_iff_eq] at *)
    all_goals first | with_reducible rfl | omega | exact Int.le_trans ha1 (by decide) | rfl
  · cases hs
end
section
def fewX (L : List Int) (q : Int × Int) : Nat := fop .quo .f32 (floatOfInt .f32 (IntKind.wrap .i64 (pkV L 65 q - 32))) 1082130432
def anX (L : List Int) (q r : Int × Int) : Nat :=
  if pkV L 14 q = 0 then dn 9221120237041090561 else if pkV L 14 q = 1 then dn 9218868437227405312 else if pkV L 14 q = 2 then dn 18442240474082181120 else if pkV L 14 q = 3 then 2147483648
  else if pkV L 14 q = 4 then (IntKind.wrap .u32 (pkV L 16777220 r)).toNat
  else if pkV L 14 q = 5 then (IntKind.wrap .u32 (IntKind.wrap .u32 (IntKind.wrap .u32 (pkV L 1073741824 r) * 4) + IntKind.wrap .u32 (pkV L 4 (pkQ L 1073741824 r)))).toNat
  else if pkV L 14 q = 6 then fop .quo .f32 (floatOfInt .f32 (IntKind.wrap .i64 (pkV L 2000000 r - 1000000))) 1148846080
  else if pkV L 14 q = 7 then floatOfInt .f32 (([1048576, 1048577, -1048576] : List Int).getD (pkV L 3 r).toNat 0)
  else fewX L r
def anQ (L : List Int) (q r : Int × Int) : Int × Int :=
  if pkV L 14 q = 0 then r else if pkV L 14 q = 1 then r else if pkV L 14 q = 2 then r else if pkV L 14 q = 3 then r
  else if pkV L 14 q = 4 then pkQ L 16777220 r
  else if pkV L 14 q = 5 then pkQ L 4 (pkQ L 1073741824 r)
  else if pkV L 14 q = 6 then pkQ L 2000000 r
  else if pkV L 14 q = 7 then pkQ L 3 r
  else pkQ L 65 r
theorem anQ_in {N : Int} {L : List Int} {q r : Int × Int} (h : qIn N r) : qIn (N + 4) (anQ L q r) := by
  unfold anQ
  repeat' split
  all_goals first | exact qIn_le h (by omega) | exact qIn_le (qIn_pk h) (by omega) | exact qIn_le (qIn_pk (qIn_pk h)) (by omega)
theorem fn102 : FnOk Try.prog 102 Try.f102 (bodyOf Try.f102) := ⟨Try.func102, rfl, by rfl⟩
def s102 : Spec := hspec fun args H => match args, H with
  | [.c (.p 0 (.l 0))], [some ⟨true, 0, .lit [.sl 1 (.x o) (.x n), .i .i64 (.x a), .i .u64 (.x s)]⟩, some ⟨false, 0, .it .u8 L⟩] => some (F (anX (L ()) (a (), s ()) (pkQ (L ()) 14 (a (), s ()))), [some ⟨true, 0, .lit [.sl 1 (.x o) (.x n), .i .i64 (.x fun _ => (anQ (L ()) (a (), s ()) (pkQ (L ()) 14 (a (), s ()))).1), .i .u64 (.x fun _ => (anQ (L ()) (a (), s ()) (pkQ (L ()) 14 (a (), s ()))).2)]⟩, some ⟨false, 0, .it .u8 L⟩], [fun _ => 0 ≤ a () ∧ a () ≤ 100000, fun _ => o () = 0 ∧ (L ()).length = n () ∧ n () ≤ 4096 ∧ bytesOk (L ()), fun _ => a () ≤ 30000])
  | [.c (.p 0 (.l 0))], [some ⟨true, 0, .lit [.sn, .i .i64 (.x a), .i .u64 (.x s)]⟩] => some (F (anX [] (a (), s ()) (pkQ [] 14 (a (), s ()))), [some ⟨true, 0, .lit [.sn, .i .i64 (.x fun _ => (anQ [] (a (), s ()) (pkQ [] 14 (a (), s ()))).1), .i .u64 (.x fun _ => (anQ [] (a (), s ()) (pkQ [] 14 (a (), s ()))).2)]⟩], [fun _ => 0 ≤ a () ∧ a () ≤ 100000, fun _ => a () ≤ 30000])
  | _, _ => none
def E102 : Env := fun g => envGetL [(37, ⟨false, s37, none⟩), (109, ⟨true, s109, none⟩), (110, ⟨true, s110, none⟩), (111, ⟨true, s111, none⟩), (112, ⟨false, s112, none⟩), (113, ⟨false, s113, none⟩)] g
theorem E102ok : EnvOk Try.prog E102 := envOk_cons ok37 (envOk_cons ok109 (envOk_cons ok110 (envOk_cons ok111 (envOk_cons ok112 (envOk_cons ok113 (envOk_nil _))))))
set_option maxRecDepth 100000 in
set_option maxHeartbeats 4000000 in
theorem ok102 : Ok Try.prog 102 (s102) := ok_of_wpaH (E := E102) mixed tts E102ok fn102 fun args H v H' o hs ho => by
  split at hs
  · rename_i o n a s L
    cases hs
    obtain ⟨⟨ha0, ha1⟩, ⟨ho0, hlen, hbig, hby⟩, hx0⟩ := ho.three
    try simp only [Unit.unit] at ha0 ha1 ho0 hlen hbig hx0
    refine ⟨_, HLe.refl _, ?_⟩
    cbv
    have hq0 : qIn 30000 (a ⟨⟩, s ⟨⟩) := ⟨ha0, hx0⟩
    have hq1 : qIn 30002 (pkQ (L ⟨⟩) 14 (a ⟨⟩, s ⟨⟩)) := qIn_pk hq0
    have hq2 : qIn 30004 (pkQ (L ⟨⟩) 1073741824 (pkQ (L ⟨⟩) 14 (a ⟨⟩, s ⟨⟩))) := qIn_pk hq1
    repeat' (refine Ob.mk ?_ ?_; (focus (first | exact ⟨hq0.1, Int.le_trans hq0.2 (by decide)⟩ | exact Int.le_trans hq0.2 (by decide) | exact ⟨hq1.1, Int.le_trans hq1.2 (by decide)⟩ | exact Int.le_trans hq1.2 (by decide) | exact ⟨hq2.1, Int.le_trans hq2.2 (by decide)⟩ | exact Int.le_trans hq2.2 (by decide) | exact ⟨ho0, hlen, hbig, hby⟩ | exact ⟨by trivial, hlen, hbig, hby⟩ | exact rfl)); cbv)
    by_cases h0 : pkV (L ⟨⟩) 14 (a ⟨⟩, s ⟨⟩) = 0
    · skip
      have hA : anX (L ⟨⟩) (a ⟨⟩, s ⟨⟩) (pkQ (L ⟨⟩) 14 (a ⟨⟩, s ⟨⟩)) = dn 9221120237041090561 := by unfold anX; rw [if_pos h0]
      have hB : anQ (L ⟨⟩) (a ⟨⟩, s ⟨⟩) (pkQ (L ⟨⟩) 14 (a ⟨⟩, s ⟨⟩)) = (pkQ (L ⟨⟩) 14 (a ⟨⟩, s ⟨⟩)) := by unfold anQ; rw [if_pos h0]
      have hB1 : ((pkQ (L ⟨⟩) 14 (a ⟨⟩, s ⟨⟩))).1 = (anQ (L ⟨⟩) (a ⟨⟩, s ⟨⟩) (pkQ (L ⟨⟩) 14 (a ⟨⟩, s ⟨⟩))).1 := by rw [hB]
      have hB2 : ((pkQ (L ⟨⟩) 14 (a ⟨⟩, s ⟨⟩))).2 = (anQ (L ⟨⟩) (a ⟨⟩, s ⟨⟩) (pkQ (L ⟨⟩) 14 (a ⟨⟩, s ⟨⟩))).2 := by rw [hB]
      refine Br.t (eqz_t h0) ?_
      cbv
      repeat' first
        | (refine Ob.mk ?_ ?_; (focus (first | exact rfl | exact hA.symm | exact hB1 | exact hB2 | exact ⟨hq0.1, Int.le_trans hq0.2 (by decide)⟩ | exact Int.le_trans hq0.2 (by decide) | exact ⟨hq1.1, Int.le_trans hq1.2 (by decide)⟩ | exact Int.le_trans hq1.2 (by decide) | exact ⟨hq2.1, Int.le_trans hq2.2 (by decide)⟩ | exact Int.le_trans hq2.2 (by decide) | exact ⟨ho0, hlen, hbig, hby⟩ | exact ⟨by trivial, hlen, hbig, hby⟩ | exact ⟨rfl, rfl, by decide, by decide⟩ | decide +kernel)); cbv)
        | (refine Lex.mk (by decide +kernel) ?_; cbv)
    · skip
      refine Br.f (eqz_f h0) ?_
      cbv
      by_cases h1 : pkV (L ⟨⟩) 14 (a ⟨⟩, s ⟨⟩) = 1
      · skip
        have hA : anX (L ⟨⟩) (a ⟨⟩, s ⟨⟩) (pkQ (L ⟨⟩) 14 (a ⟨⟩, s ⟨⟩)) = dn 9218868437227405312 := by unfold anX; rw [if_neg h0, if_pos h1]
        have hB : anQ (L ⟨⟩) (a ⟨⟩, s ⟨⟩) (pkQ (L ⟨⟩) 14 (a ⟨⟩, s ⟨⟩)) = (pkQ (L ⟨⟩) 14 (a ⟨⟩, s ⟨⟩)) := by unfold anQ; rw [if_neg h0, if_pos h1]
        have hB1 : ((pkQ (L ⟨⟩) 14 (a ⟨⟩, s ⟨⟩))).1 = (anQ (L ⟨⟩) (a ⟨⟩, s ⟨⟩) (pkQ (L ⟨⟩) 14 (a ⟨⟩, s ⟨⟩))).1 := by rw [hB]
        have hB2 : ((pkQ (L ⟨⟩) 14 (a ⟨⟩, s ⟨⟩))).2 = (anQ (L ⟨⟩) (a ⟨⟩, s ⟨⟩) (pkQ (L ⟨⟩) 14 (a ⟨⟩, s ⟨⟩))).2 := by rw [hB]
        refine Br.t (eqz_t h1) ?_
        cbv
        repeat' first
          | (refine Ob.mk ?_ ?_; (focus (first | exact rfl | exact hA.symm | exact hB1 | exact hB2 | exact ⟨hq0.1, Int.le_trans hq0.2 (by decide)⟩ | exact Int.le_trans hq0.2 (by decide) | exact ⟨hq1.1, Int.le_trans hq1.2 (by decide)⟩ | exact Int.le_trans hq1.2 (by decide) | exact ⟨hq2.1, Int.le_trans hq2.2 (by decide)⟩ | exact Int.le_trans hq2.2 (by decide) | exact ⟨ho0, hlen, hbig, hby⟩ | exact ⟨by trivial, hlen, hbig, hby⟩ | exact ⟨rfl, rfl, by decide, by decide⟩ | decide +kernel)); cbv)
          | (refine Lex.mk (by decide +kernel) ?_; cbv)
      · skip
        refine Br.f (eqz_f h1) ?_
        cbv
        by_cases h2 : pkV (L ⟨⟩) 14 (a ⟨⟩, s ⟨⟩) = 2
        · skip
          have hA : anX (L ⟨⟩) (a ⟨⟩, s ⟨⟩) (pkQ (L ⟨⟩) 14 (a ⟨⟩, s ⟨⟩)) = dn 18442240474082181120 := by unfold anX; rw [if_neg h0, if_neg h1, if_pos h2]
          have hB : anQ (L ⟨⟩) (a ⟨⟩, s ⟨⟩) (pkQ (L ⟨⟩) 14 (a ⟨⟩, s ⟨⟩)) = (pkQ (L ⟨⟩) 14 (a ⟨⟩, s ⟨⟩)) := by unfold anQ; rw [if_neg h0, if_neg h1, if_pos h2]
          have hB1 : ((pkQ (L ⟨⟩) 14 (a ⟨⟩, s ⟨⟩))).1 = (anQ (L ⟨⟩) (a ⟨⟩, s ⟨⟩) (pkQ (L ⟨⟩) 14 (a ⟨⟩, s ⟨⟩))).1 := by rw [hB]
          have hB2 : ((pkQ (L ⟨⟩) 14 (a ⟨⟩, s ⟨⟩))).2 = (anQ (L ⟨⟩) (a ⟨⟩, s ⟨⟩) (pkQ (L ⟨⟩) 14 (a ⟨⟩, s ⟨⟩))).2 := by rw [hB]
          refine Br.t (eqz_t h2) ?_
          cbv
          repeat' first
            | (refine Ob.mk ?_ ?_; (focus (first | exact rfl | exact hA.symm | exact hB1 | exact hB2 | exact ⟨hq0.1, Int.le_trans hq0.2 (by decide)⟩ | exact Int.le_trans hq0.2 (by decide) | exact ⟨hq1.1, Int.le_trans hq1.2 (by decide)⟩ | exact Int.le_trans hq1.2 (by decide) | exact ⟨hq2.1, Int.le_trans hq2.2 (by decide)⟩ | exact Int.le_trans hq2.2 (by decide) | exact ⟨ho0, hlen, hbig, hby⟩ | exact ⟨by trivial, hlen, hbig, hby⟩ | exact ⟨rfl, rfl, by decide, by decide⟩ | decide +kernel)); cbv)
            | (refine Lex.mk (by decide +kernel) ?_; cbv)
        · skip
          refine Br.f (eqz_f h2) ?_
          cbv
          by_cases h3 : pkV (L ⟨⟩) 14 (a ⟨⟩, s ⟨⟩) = 3
          · skip
            have hA : anX (L ⟨⟩) (a ⟨⟩, s ⟨⟩) (pkQ (L ⟨⟩) 14 (a ⟨⟩, s ⟨⟩)) = 2147483648 := by unfold anX; rw [if_neg h0, if_neg h1, if_neg h2, if_pos h3]
            have hB : anQ (L ⟨⟩) (a ⟨⟩, s ⟨⟩) (pkQ (L ⟨⟩) 14 (a ⟨⟩, s ⟨⟩)) = (pkQ (L ⟨⟩) 14 (a ⟨⟩, s ⟨⟩)) := by unfold anQ; rw [if_neg h0, if_neg h1, if_neg h2, if_pos h3]
            have hB1 : ((pkQ (L ⟨⟩) 14 (a ⟨⟩, s ⟨⟩))).1 = (anQ (L ⟨⟩) (a ⟨⟩, s ⟨⟩) (pkQ (L ⟨⟩) 14 (a ⟨⟩, s ⟨⟩))).1 := by rw [hB]
            have hB2 : ((pkQ (L ⟨⟩) 14 (a ⟨⟩, s ⟨⟩))).2 = (anQ (L ⟨⟩) (a ⟨⟩, s ⟨⟩) (pkQ (L ⟨⟩) 14 (a ⟨⟩, s ⟨⟩))).2 := by rw [hB]
            refine Br.t (eqz_t h3) ?_
            cbv
            repeat' first
              | (refine Ob.mk ?_ ?_; (focus (first | exact rfl | exact hA.symm | exact hB1 | exact hB2 | exact ⟨hq0.1, Int.le_trans hq0.2 (by decide)⟩ | exact Int.le_trans hq0.2 (by decide) | exact ⟨hq1.1, Int.le_trans hq1.2 (by decide)⟩ | exact Int.le_trans hq1.2 (by decide) | exact ⟨hq2.1, Int.le_trans hq2.2 (by decide)⟩ | exact Int.le_trans hq2.2 (by decide) | exact ⟨ho0, hlen, hbig, hby⟩ | exact ⟨by trivial, hlen, hbig, hby⟩ | exact ⟨rfl, rfl, by decide, by decide⟩ | decide +kernel)); cbv)
              | (refine Lex.mk (by decide +kernel) ?_; cbv)
          · skip
            refine Br.f (eqz_f h3) ?_
            cbv
            by_cases h4 : pkV (L ⟨⟩) 14 (a ⟨⟩, s ⟨⟩) = 4
            · skip
              have hA : anX (L ⟨⟩) (a ⟨⟩, s ⟨⟩) (pkQ (L ⟨⟩) 14 (a ⟨⟩, s ⟨⟩)) = (IntKind.wrap .u32 (pkV (L ⟨⟩) 16777220 (pkQ (L ⟨⟩) 14 (a ⟨⟩, s ⟨⟩)))).toNat := by unfold anX; rw [if_neg h0, if_neg h1, if_neg h2, if_neg h3, if_pos h4]
              have hB : anQ (L ⟨⟩) (a ⟨⟩, s ⟨⟩) (pkQ (L ⟨⟩) 14 (a ⟨⟩, s ⟨⟩)) = pkQ (L ⟨⟩) 16777220 (pkQ (L ⟨⟩) 14 (a ⟨⟩, s ⟨⟩)) := by unfold anQ; rw [if_neg h0, if_neg h1, if_neg h2, if_neg h3, if_pos h4]
              have hB1 : (pkQ (L ⟨⟩) 16777220 (pkQ (L ⟨⟩) 14 (a ⟨⟩, s ⟨⟩))).1 = (anQ (L ⟨⟩) (a ⟨⟩, s ⟨⟩) (pkQ (L ⟨⟩) 14 (a ⟨⟩, s ⟨⟩))).1 := by rw [hB]
              have hB2 : (pkQ (L ⟨⟩) 16777220 (pkQ (L ⟨⟩) 14 (a ⟨⟩, s ⟨⟩))).2 = (anQ (L ⟨⟩) (a ⟨⟩, s ⟨⟩) (pkQ (L ⟨⟩) 14 (a ⟨⟩, s ⟨⟩))).2 := by rw [hB]
              refine Br.t (eqz_t h4) ?_
              cbv
              repeat' first
                | (refine Ob.mk ?_ ?_; (focus (first | exact rfl | exact hA.symm | exact hB1 | exact hB2 | exact ⟨hq0.1, Int.le_trans hq0.2 (by decide)⟩ | exact Int.le_trans hq0.2 (by decide) | exact ⟨hq1.1, Int.le_trans hq1.2 (by decide)⟩ | exact Int.le_trans hq1.2 (by decide) | exact ⟨hq2.1, Int.le_trans hq2.2 (by decide)⟩ | exact Int.le_trans hq2.2 (by decide) | exact ⟨ho0, hlen, hbig, hby⟩ | exact ⟨by trivial, hlen, hbig, hby⟩ | exact ⟨rfl, rfl, by decide, by decide⟩ | decide +kernel)); cbv)
                | (refine Lex.mk (by decide +kernel) ?_; cbv)
            · skip
              refine Br.f (eqz_f h4) ?_
              cbv
              by_cases h5 : pkV (L ⟨⟩) 14 (a ⟨⟩, s ⟨⟩) = 5
              · skip
                have hA : anX (L ⟨⟩) (a ⟨⟩, s ⟨⟩) (pkQ (L ⟨⟩) 14 (a ⟨⟩, s ⟨⟩)) = (IntKind.wrap .u32 (IntKind.wrap .u32 (IntKind.wrap .u32 (pkV (L ⟨⟩) 1073741824 (pkQ (L ⟨⟩) 14 (a ⟨⟩, s ⟨⟩))) * 4) + IntKind.wrap .u32 (pkV (L ⟨⟩) 4 (pkQ (L ⟨⟩) 1073741824 (pkQ (L ⟨⟩) 14 (a ⟨⟩, s ⟨⟩)))))).toNat := by unfold anX; rw [if_neg h0, if_neg h1, if_neg h2, if_neg h3, if_neg h4, if_pos h5]
                have hB : anQ (L ⟨⟩) (a ⟨⟩, s ⟨⟩) (pkQ (L ⟨⟩) 14 (a ⟨⟩, s ⟨⟩)) = pkQ (L ⟨⟩) 4 (pkQ (L ⟨⟩) 1073741824 (pkQ (L ⟨⟩) 14 (a ⟨⟩, s ⟨⟩))) := by unfold anQ; rw [if_neg h0, if_neg h1, if_neg h2, if_neg h3, if_neg h4, if_pos h5]
                have hB1 : (pkQ (L ⟨⟩) 4 (pkQ (L ⟨⟩) 1073741824 (pkQ (L ⟨⟩) 14 (a ⟨⟩, s ⟨⟩)))).1 = (anQ (L ⟨⟩) (a ⟨⟩, s ⟨⟩) (pkQ (L ⟨⟩) 14 (a ⟨⟩, s ⟨⟩))).1 := by rw [hB]
                have hB2 : (pkQ (L ⟨⟩) 4 (pkQ (L ⟨⟩) 1073741824 (pkQ (L ⟨⟩) 14 (a ⟨⟩, s ⟨⟩)))).2 = (anQ (L ⟨⟩) (a ⟨⟩, s ⟨⟩) (pkQ (L ⟨⟩) 14 (a ⟨⟩, s ⟨⟩))).2 := by rw [hB]
                refine Br.t (eqz_t h5) ?_
                cbv
                repeat' first
                  | (refine Ob.mk ?_ ?_; (focus (first | exact rfl | exact hA.symm | exact hB1 | exact hB2 | exact ⟨hq0.1, Int.le_trans hq0.2 (by decide)⟩ | exact Int.le_trans hq0.2 (by decide) | exact ⟨hq1.1, Int.le_trans hq1.2 (by decide)⟩ | exact Int.le_trans hq1.2 (by decide) | exact ⟨hq2.1, Int.le_trans hq2.2 (by decide)⟩ | exact Int.le_trans hq2.2 (by decide) | exact ⟨ho0, hlen, hbig, hby⟩ | exact ⟨by trivial, hlen, hbig, hby⟩ | exact ⟨rfl, rfl, by decide, by decide⟩ | decide +kernel)); cbv)
                  | (refine Lex.mk (by decide +kernel) ?_; cbv)
              · skip
                refine Br.f (eqz_f h5) ?_
                cbv
                by_cases h6 : pkV (L ⟨⟩) 14 (a ⟨⟩, s ⟨⟩) = 6
                · skip
                  have hA : anX (L ⟨⟩) (a ⟨⟩, s ⟨⟩) (pkQ (L ⟨⟩) 14 (a ⟨⟩, s ⟨⟩)) = fop .quo .f32 (floatOfInt .f32 (IntKind.wrap .i64 (pkV (L ⟨⟩) 2000000 (pkQ (L ⟨⟩) 14 (a ⟨⟩, s ⟨⟩)) - 1000000))) 1148846080 := by unfold anX; rw [if_neg h0, if_neg h1, if_neg h2, if_neg h3, if_neg h4, if_neg h5, if_pos h6]
                  have hB : anQ (L ⟨⟩) (a ⟨⟩, s ⟨⟩) (pkQ (L ⟨⟩) 14 (a ⟨⟩, s ⟨⟩)) = pkQ (L ⟨⟩) 2000000 (pkQ (L ⟨⟩) 14 (a ⟨⟩, s ⟨⟩)) := by unfold anQ; rw [if_neg h0, if_neg h1, if_neg h2, if_neg h3, if_neg h4, if_neg h5, if_pos h6]
                  have hB1 : (pkQ (L ⟨⟩) 2000000 (pkQ (L ⟨⟩) 14 (a ⟨⟩, s ⟨⟩))).1 = (anQ (L ⟨⟩) (a ⟨⟩, s ⟨⟩) (pkQ (L ⟨⟩) 14 (a ⟨⟩, s ⟨⟩))).1 := by rw [hB]
                  have hB2 : (pkQ (L ⟨⟩) 2000000 (pkQ (L ⟨⟩) 14 (a ⟨⟩, s ⟨⟩))).2 = (anQ (L ⟨⟩) (a ⟨⟩, s ⟨⟩) (pkQ (L ⟨⟩) 14 (a ⟨⟩, s ⟨⟩))).2 := by rw [hB]
                  refine Br.t (eqz_t h6) ?_
                  cbv
                  repeat' first
                    | (refine Ob.mk ?_ ?_; (focus (first | exact rfl | exact hA.symm | exact hB1 | exact hB2 | exact ⟨hq0.1, Int.le_trans hq0.2 (by decide)⟩ | exact Int.le_trans hq0.2 (by decide) | exact ⟨hq1.1, Int.le_trans hq1.2 (by decide)⟩ | exact Int.le_trans hq1.2 (by decide) | exact ⟨hq2.1, Int.le_trans hq2.2 (by decide)⟩ | exact Int.le_trans hq2.2 (by decide) | exact ⟨ho0, hlen, hbig, hby⟩ | exact ⟨by trivial, hlen, hbig, hby⟩ | exact ⟨rfl, rfl, by decide, by decide⟩ | decide +kernel)); cbv)
                    | (refine Lex.mk (by decide +kernel) ?_; cbv)
                · skip
                  refine Br.f (eqz_f h6) ?_
                  cbv
                  by_cases h7 : pkV (L ⟨⟩) 14 (a ⟨⟩, s ⟨⟩) = 7
                  · skip
                    have hA : anX (L ⟨⟩) (a ⟨⟩, s ⟨⟩) (pkQ (L ⟨⟩) 14 (a ⟨⟩, s ⟨⟩)) = floatOfInt .f32 (([1048576, 1048577, -1048576] : List Int).getD (pkV (L ⟨⟩) 3 (pkQ (L ⟨⟩) 14 (a ⟨⟩, s ⟨⟩))).toNat 0) := by unfold anX; rw [if_neg h0, if_neg h1, if_neg h2, if_neg h3, if_neg h4, if_neg h5, if_neg h6, if_pos h7]
                    have hB : anQ (L ⟨⟩) (a ⟨⟩, s ⟨⟩) (pkQ (L ⟨⟩) 14 (a ⟨⟩, s ⟨⟩)) = pkQ (L ⟨⟩) 3 (pkQ (L ⟨⟩) 14 (a ⟨⟩, s ⟨⟩)) := by unfold anQ; rw [if_neg h0, if_neg h1, if_neg h2, if_neg h3, if_neg h4, if_neg h5, if_neg h6, if_pos h7]
                    have hB1 : (pkQ (L ⟨⟩) 3 (pkQ (L ⟨⟩) 14 (a ⟨⟩, s ⟨⟩))).1 = (anQ (L ⟨⟩) (a ⟨⟩, s ⟨⟩) (pkQ (L ⟨⟩) 14 (a ⟨⟩, s ⟨⟩))).1 := by rw [hB]
                    have hB2 : (pkQ (L ⟨⟩) 3 (pkQ (L ⟨⟩) 14 (a ⟨⟩, s ⟨⟩))).2 = (anQ (L ⟨⟩) (a ⟨⟩, s ⟨⟩) (pkQ (L ⟨⟩) 14 (a ⟨⟩, s ⟨⟩))).2 := by rw [hB]
                    refine Br.t (eqz_t h7) ?_
                    cbv
                    repeat' first
                      | (refine Ob.mk ?_ ?_; (focus (first | exact rfl | exact hA.symm | exact hB1 | exact hB2 | exact ⟨hq0.1, Int.le_trans hq0.2 (by decide)⟩ | exact Int.le_trans hq0.2 (by decide) | exact ⟨hq1.1, Int.le_trans hq1.2 (by decide)⟩ | exact Int.le_trans hq1.2 (by decide) | exact ⟨hq2.1, Int.le_trans hq2.2 (by decide)⟩ | exact Int.le_trans hq2.2 (by decide) | exact ⟨ho0, hlen, hbig, hby⟩ | exact ⟨by trivial, hlen, hbig, hby⟩ | exact ⟨rfl, rfl, by decide, by decide⟩ | decide +kernel)); cbv)
                      | (refine Lex.mk (by decide +kernel) ?_; cbv)
                  · skip
                    have hA : anX (L ⟨⟩) (a ⟨⟩, s ⟨⟩) (pkQ (L ⟨⟩) 14 (a ⟨⟩, s ⟨⟩)) = fewX (L ⟨⟩) (pkQ (L ⟨⟩) 14 (a ⟨⟩, s ⟨⟩)) := by unfold anX; rw [if_neg h0, if_neg h1, if_neg h2, if_neg h3, if_neg h4, if_neg h5, if_neg h6, if_neg h7]
                    have hB : anQ (L ⟨⟩) (a ⟨⟩, s ⟨⟩) (pkQ (L ⟨⟩) 14 (a ⟨⟩, s ⟨⟩)) = pkQ (L ⟨⟩) 65 (pkQ (L ⟨⟩) 14 (a ⟨⟩, s ⟨⟩)) := by unfold anQ; rw [if_neg h0, if_neg h1, if_neg h2, if_neg h3, if_neg h4, if_neg h5, if_neg h6, if_neg h7]
                    have hB1 : (pkQ (L ⟨⟩) 65 (pkQ (L ⟨⟩) 14 (a ⟨⟩, s ⟨⟩))).1 = (anQ (L ⟨⟩) (a ⟨⟩, s ⟨⟩) (pkQ (L ⟨⟩) 14 (a ⟨⟩, s ⟨⟩))).1 := by rw [hB]
                    have hB2 : (pkQ (L ⟨⟩) 65 (pkQ (L ⟨⟩) 14 (a ⟨⟩, s ⟨⟩))).2 = (anQ (L ⟨⟩) (a ⟨⟩, s ⟨⟩) (pkQ (L ⟨⟩) 14 (a ⟨⟩, s ⟨⟩))).2 := by rw [hB]
                    refine Br.f (eqz_f h7) ?_
                    cbv
                    repeat' first
                      | (refine Ob.mk ?_ ?_; (focus (first | exact rfl | exact hA.symm | exact hB1 | exact hB2 | exact ⟨hq0.1, Int.le_trans hq0.2 (by decide)⟩ | exact Int.le_trans hq0.2 (by decide) | exact ⟨hq1.1, Int.le_trans hq1.2 (by decide)⟩ | exact Int.le_trans hq1.2 (by decide) | exact ⟨hq2.1, Int.le_trans hq2.2 (by decide)⟩ | exact Int.le_trans hq2.2 (by decide) | exact ⟨ho0, hlen, hbig, hby⟩ | exact ⟨by trivial, hlen, hbig, hby⟩ | exact ⟨rfl, rfl, by decide, by decide⟩ | decide +kernel)); cbv)
                      | (refine Lex.mk (by decide +kernel) ?_; cbv)
  · rename_i a s
    cases hs
    obtain ⟨⟨ha0, ha1⟩, hx0⟩ := ho.two
    have hby := bytes_nil
    try simp only [Unit.unit] at ha0 ha1 hx0
    refine ⟨_, HLe.refl _, ?_⟩
    cbv
    have hq0 : qIn 30000 (a ⟨⟩, s ⟨⟩) := ⟨ha0, hx0⟩
    have hq1 : qIn 30002 (pkQ [] 14 (a ⟨⟩, s ⟨⟩)) := qIn_pk hq0
    have hq2 : qIn 30004 (pkQ [] 1073741824 (pkQ [] 14 (a ⟨⟩, s ⟨⟩))) := qIn_pk hq1
    repeat' (refine Ob.mk ?_ ?_; (focus (first | exact ⟨hq0.1, Int.le_trans hq0.2 (by decide)⟩ | exact Int.le_trans hq0.2 (by decide) | exact ⟨hq1.1, Int.le_trans hq1.2 (by decide)⟩ | exact Int.le_trans hq1.2 (by decide) | exact ⟨hq2.1, Int.le_trans hq2.2 (by decide)⟩ | exact Int.le_trans hq2.2 (by decide) | exact rfl)); cbv)
    by_cases h0 : pkV [] 14 (a ⟨⟩, s ⟨⟩) = 0
    · skip
      have hA : anX [] (a ⟨⟩, s ⟨⟩) (pkQ [] 14 (a ⟨⟩, s ⟨⟩)) = dn 9221120237041090561 := by unfold anX; rw [if_pos h0]
      have hB : anQ [] (a ⟨⟩, s ⟨⟩) (pkQ [] 14 (a ⟨⟩, s ⟨⟩)) = (pkQ [] 14 (a ⟨⟩, s ⟨⟩)) := by unfold anQ; rw [if_pos h0]
      have hB1 : ((pkQ [] 14 (a ⟨⟩, s ⟨⟩))).1 = (anQ [] (a ⟨⟩, s ⟨⟩) (pkQ [] 14 (a ⟨⟩, s ⟨⟩))).1 := by rw [hB]
      have hB2 : ((pkQ [] 14 (a ⟨⟩, s ⟨⟩))).2 = (anQ [] (a ⟨⟩, s ⟨⟩) (pkQ [] 14 (a ⟨⟩, s ⟨⟩))).2 := by rw [hB]
      refine Br.t (eqz_t h0) ?_
      cbv
      repeat' first
        | (refine Ob.mk ?_ ?_; (focus (first | exact rfl | exact hA.symm | exact hB1 | exact hB2 | exact ⟨hq0.1, Int.le_trans hq0.2 (by decide)⟩ | exact Int.le_trans hq0.2 (by decide) | exact ⟨hq1.1, Int.le_trans hq1.2 (by decide)⟩ | exact Int.le_trans hq1.2 (by decide) | exact ⟨hq2.1, Int.le_trans hq2.2 (by decide)⟩ | exact Int.le_trans hq2.2 (by decide) | exact ⟨rfl, rfl, by decide, by decide⟩ | decide +kernel)); cbv)
        | (refine Lex.mk (by decide +kernel) ?_; cbv)
    · skip
      refine Br.f (eqz_f h0) ?_
      cbv
      by_cases h1 : pkV [] 14 (a ⟨⟩, s ⟨⟩) = 1
      · skip
        have hA : anX [] (a ⟨⟩, s ⟨⟩) (pkQ [] 14 (a ⟨⟩, s ⟨⟩)) = dn 9218868437227405312 := by unfold anX; rw [if_neg h0, if_pos h1]
        have hB : anQ [] (a ⟨⟩, s ⟨⟩) (pkQ [] 14 (a ⟨⟩, s ⟨⟩)) = (pkQ [] 14 (a ⟨⟩, s ⟨⟩)) := by unfold anQ; rw [if_neg h0, if_pos h1]
        have hB1 : ((pkQ [] 14 (a ⟨⟩, s ⟨⟩))).1 = (anQ [] (a ⟨⟩, s ⟨⟩) (pkQ [] 14 (a ⟨⟩, s ⟨⟩))).1 := by rw [hB]
        have hB2 : ((pkQ [] 14 (a ⟨⟩, s ⟨⟩))).2 = (anQ [] (a ⟨⟩, s ⟨⟩) (pkQ [] 14 (a ⟨⟩, s ⟨⟩))).2 := by rw [hB]
        refine Br.t (eqz_t h1) ?_
        cbv
        repeat' first
          | (refine Ob.mk ?_ ?_; (focus (first | exact rfl | exact hA.symm | exact hB1 | exact hB2 | exact ⟨hq0.1, Int.le_trans hq0.2 (by decide)⟩ | exact Int.le_trans hq0.2 (by decide) | exact ⟨hq1.1, Int.le_trans hq1.2 (by decide)⟩ | exact Int.le_trans hq1.2 (by decide) | exact ⟨hq2.1, Int.le_trans hq2.2 (by decide)⟩ | exact Int.le_trans hq2.2 (by decide) | exact ⟨rfl, rfl, by decide, by decide⟩ | decide +kernel)); cbv)
          | (refine Lex.mk (by decide +kernel) ?_; cbv)
      · skip
        refine Br.f (eqz_f h1) ?_
        cbv
        by_cases h2 : pkV [] 14 (a ⟨⟩, s ⟨⟩) = 2
        · skip
          have hA : anX [] (a ⟨⟩, s ⟨⟩) (pkQ [] 14 (a ⟨⟩, s ⟨⟩)) = dn 18442240474082181120 := by unfold anX; rw [if_neg h0, if_neg h1, if_pos h2]
          have hB : anQ [] (a ⟨⟩, s ⟨⟩) (pkQ [] 14 (a ⟨⟩, s ⟨⟩)) = (pkQ [] 14 (a ⟨⟩, s ⟨⟩)) := by unfold anQ; rw [if_neg h0, if_neg h1, if_pos h2]
          have hB1 : ((pkQ [] 14 (a ⟨⟩, s ⟨⟩))).1 = (anQ [] (a ⟨⟩, s ⟨⟩) (pkQ [] 14 (a ⟨⟩, s ⟨⟩))).1 := by rw [hB]
          have hB2 : ((pkQ [] 14 (a ⟨⟩, s ⟨⟩))).2 = (anQ [] (a ⟨⟩, s ⟨⟩) (pkQ [] 14 (a ⟨⟩, s ⟨⟩))).2 := by rw [hB]
          refine Br.t (eqz_t h2) ?_
          cbv
          repeat' first
            | (refine Ob.mk ?_ ?_; (focus (first | exact rfl | exact hA.symm | exact hB1 | exact hB2 | exact ⟨hq0.1, Int.le_trans hq0.2 (by decide)⟩ | exact Int.le_trans hq0.2 (by decide) | exact ⟨hq1.1, Int.le_trans hq1.2 (by decide)⟩ | exact Int.le_trans hq1.2 (by decide) | exact ⟨hq2.1, Int.le_trans hq2.2 (by decide)⟩ | exact Int.le_trans hq2.2 (by decide) | exact ⟨rfl, rfl, by decide, by decide⟩ | decide +kernel)); cbv)
            | (refine Lex.mk (by decide +kernel) ?_; cbv)
        · skip
          refine Br.f (eqz_f h2) ?_
          cbv
          by_cases h3 : pkV [] 14 (a ⟨⟩, s ⟨⟩) = 3
          · skip
            have hA : anX [] (a ⟨⟩, s ⟨⟩) (pkQ [] 14 (a ⟨⟩, s ⟨⟩)) = 2147483648 := by unfold anX; rw [if_neg h0, if_neg h1, if_neg h2, if_pos h3]
            have hB : anQ [] (a ⟨⟩, s ⟨⟩) (pkQ [] 14 (a ⟨⟩, s ⟨⟩)) = (pkQ [] 14 (a ⟨⟩, s ⟨⟩)) := by unfold anQ; rw [if_neg h0, if_neg h1, if_neg h2, if_pos h3]
            have hB1 : ((pkQ [] 14 (a ⟨⟩, s ⟨⟩))).1 = (anQ [] (a ⟨⟩, s ⟨⟩) (pkQ [] 14 (a ⟨⟩, s ⟨⟩))).1 := by rw [hB]
            have hB2 : ((pkQ [] 14 (a ⟨⟩, s ⟨⟩))).2 = (anQ [] (a ⟨⟩, s ⟨⟩) (pkQ [] 14 (a ⟨⟩, s ⟨⟩))).2 := by rw [hB]
            refine Br.t (eqz_t h3) ?_
            cbv
            repeat' first
              | (refine Ob.mk ?_ ?_; (focus (first | exact rfl | exact hA.symm | exact hB1 | exact hB2 | exact ⟨hq0.1, Int.le_trans hq0.2 (by decide)⟩ | exact Int.le_trans hq0.2 (by decide) | exact ⟨hq1.1, Int.le_trans hq1.2 (by decide)⟩ | exact Int.le_trans hq1.2 (by decide) | exact ⟨hq2.1, Int.le_trans hq2.2 (by decide)⟩ | exact Int.le_trans hq2.2 (by decide) | exact ⟨rfl, rfl, by decide, by decide⟩ | decide +kernel)); cbv)
              | (refine Lex.mk (by decide +kernel) ?_; cbv)
          · skip
            refine Br.f (eqz_f h3) ?_
            cbv
            by_cases h4 : pkV [] 14 (a ⟨⟩, s ⟨⟩) = 4
            · skip
              have hA : anX [] (a ⟨⟩, s ⟨⟩) (pkQ [] 14 (a ⟨⟩, s ⟨⟩)) = (IntKind.wrap .u32 (pkV [] 16777220 (pkQ [] 14 (a ⟨⟩, s ⟨⟩)))).toNat := by unfold anX; rw [if_neg h0, if_neg h1, if_neg h2, if_neg h3, if_pos h4]
              have hB : anQ [] (a ⟨⟩, s ⟨⟩) (pkQ [] 14 (a ⟨⟩, s ⟨⟩)) = pkQ [] 16777220 (pkQ [] 14 (a ⟨⟩, s ⟨⟩)) := by unfold anQ; rw [if_neg h0, if_neg h1, if_neg h2, if_neg h3, if_pos h4]
              have hB1 : (pkQ [] 16777220 (pkQ [] 14 (a ⟨⟩, s ⟨⟩))).1 = (anQ [] (a ⟨⟩, s ⟨⟩) (pkQ [] 14 (a ⟨⟩, s ⟨⟩))).1 := by rw [hB]
              have hB2 : (pkQ [] 16777220 (pkQ [] 14 (a ⟨⟩, s ⟨⟩))).2 = (anQ [] (a ⟨⟩, s ⟨⟩) (pkQ [] 14 (a ⟨⟩, s ⟨⟩))).2 := by rw [hB]
              refine Br.t (eqz_t h4) ?_
              cbv
              repeat' first
                | (refine Ob.mk ?_ ?_; (focus (first | exact rfl | exact hA.symm | exact hB1 | exact hB2 | exact ⟨hq0.1, Int.le_trans hq0.2 (by decide)⟩ | exact Int.le_trans hq0.2 (by decide) | exact ⟨hq1.1, Int.le_trans hq1.2 (by decide)⟩ | exact Int.le_trans hq1.2 (by decide) | exact ⟨hq2.1, Int.le_trans hq2.2 (by decide)⟩ | exact Int.le_trans hq2.2 (by decide) | exact ⟨rfl, rfl, by decide, by decide⟩ | decide +kernel)); cbv)
                | (refine Lex.mk (by decide +kernel) ?_; cbv)
            · skip
              refine Br.f (eqz_f h4) ?_
              cbv
              by_cases h5 : pkV [] 14 (a ⟨⟩, s ⟨⟩) = 5
              · skip
                have hA : anX [] (a ⟨⟩, s ⟨⟩) (pkQ [] 14 (a ⟨⟩, s ⟨⟩)) = (IntKind.wrap .u32 (IntKind.wrap .u32 (IntKind.wrap .u32 (pkV [] 1073741824 (pkQ [] 14 (a ⟨⟩, s ⟨⟩))) * 4) + IntKind.wrap .u32 (pkV [] 4 (pkQ [] 1073741824 (pkQ [] 14 (a ⟨⟩, s ⟨⟩)))))).toNat := by unfold anX; rw [if_neg h0, if_neg h1, if_neg h2, if_neg h3, if_neg h4, if_pos h5]
                have hB : anQ [] (a ⟨⟩, s ⟨⟩) (pkQ [] 14 (a ⟨⟩, s ⟨⟩)) = pkQ [] 4 (pkQ [] 1073741824 (pkQ [] 14 (a ⟨⟩, s ⟨⟩))) := by unfold anQ; rw [if_neg h0, if_neg h1, if_neg h2, if_neg h3, if_neg h4, if_pos h5]
                have hB1 : (pkQ [] 4 (pkQ [] 1073741824 (pkQ [] 14 (a ⟨⟩, s ⟨⟩)))).1 = (anQ [] (a ⟨⟩, s ⟨⟩) (pkQ [] 14 (a ⟨⟩, s ⟨⟩))).1 := by rw [hB]
                have hB2 : (pkQ [] 4 (pkQ [] 1073741824 (pkQ [] 14 (a ⟨⟩, s ⟨⟩)))).2 = (anQ [] (a ⟨⟩, s ⟨⟩) (pkQ [] 14 (a ⟨⟩, s ⟨⟩))).2 := by rw [hB]
                refine Br.t (eqz_t h5) ?_
                cbv
                repeat' first
                  | (refine Ob.mk ?_ ?_; (focus (first | exact rfl | exact hA.symm | exact hB1 | exact hB2 | exact ⟨hq0.1, Int.le_trans hq0.2 (by decide)⟩ | exact Int.le_trans hq0.2 (by decide) | exact ⟨hq1.1, Int.le_trans hq1.2 (by decide)⟩ | exact Int.le_trans hq1.2 (by decide) | exact ⟨hq2.1, Int.le_trans hq2.2 (by decide)⟩ | exact Int.le_trans hq2.2 (by decide) | exact ⟨rfl, rfl, by decide, by decide⟩ | decide +kernel)); cbv)
                  | (refine Lex.mk (by decide +kernel) ?_; cbv)
              · skip
                refine Br.f (eqz_f h5) ?_
                cbv
                by_cases h6 : pkV [] 14 (a ⟨⟩, s ⟨⟩) = 6
                · skip
                  have hA : anX [] (a ⟨⟩, s ⟨⟩) (pkQ [] 14 (a ⟨⟩, s ⟨⟩)) = fop .quo .f32 (floatOfInt .f32 (IntKind.wrap .i64 (pkV [] 2000000 (pkQ [] 14 (a ⟨⟩, s ⟨⟩)) - 1000000))) 1148846080 := by unfold anX; rw [if_neg h0, if_neg h1, if_neg h2, if_neg h3, if_neg h4, if_neg h5, if_pos h6]
                  have hB : anQ [] (a ⟨⟩, s ⟨⟩) (pkQ [] 14 (a ⟨⟩, s ⟨⟩)) = pkQ [] 2000000 (pkQ [] 14 (a ⟨⟩, s ⟨⟩)) := by unfold anQ; rw [if_neg h0, if_neg h1, if_neg h2, if_neg h3, if_neg h4, if_neg h5, if_pos h6]
                  have hB1 : (pkQ [] 2000000 (pkQ [] 14 (a ⟨⟩, s ⟨⟩))).1 = (anQ [] (a ⟨⟩, s ⟨⟩) (pkQ [] 14 (a ⟨⟩, s ⟨⟩))).1 := by rw [hB]
                  have hB2 : (pkQ [] 2000000 (pkQ [] 14 (a ⟨⟩, s ⟨⟩))).2 = (anQ [] (a ⟨⟩, s ⟨⟩) (pkQ [] 14 (a ⟨⟩, s ⟨⟩))).2 := by rw [hB]
                  refine Br.t (eqz_t h6) ?_
                  cbv
                  repeat' first
                    | (refine Ob.mk ?_ ?_; (focus (first | exact rfl | exact hA.symm | exact hB1 | exact hB2 | exact ⟨hq0.1, Int.le_trans hq0.2 (by decide)⟩ | exact Int.le_trans hq0.2 (by decide) | exact ⟨hq1.1, Int.le_trans hq1.2 (by decide)⟩ | exact Int.le_trans hq1.2 (by decide) | exact ⟨hq2.1, Int.le_trans hq2.2 (by decide)⟩ | exact Int.le_trans hq2.2 (by decide) | exact ⟨rfl, rfl, by decide, by decide⟩ | decide +kernel)); cbv)
                    | (refine Lex.mk (by decide +kernel) ?_; cbv)
                · skip
                  refine Br.f (eqz_f h6) ?_
                  cbv
                  by_cases h7 : pkV [] 14 (a ⟨⟩, s ⟨⟩) = 7
                  · skip
                    have hA : anX [] (a ⟨⟩, s ⟨⟩) (pkQ [] 14 (a ⟨⟩, s ⟨⟩)) = floatOfInt .f32 (([1048576, 1048577, -1048576] : List Int).getD (pkV [] 3 (pkQ [] 14 (a ⟨⟩, s ⟨⟩))).toNat 0) := by unfold anX; rw [if_neg h0, if_neg h1, if_neg h2, if_neg h3, if_neg h4, if_neg h5, if_neg h6, if_pos h7]
                    have hB : anQ [] (a ⟨⟩, s ⟨⟩) (pkQ [] 14 (a ⟨⟩, s ⟨⟩)) = pkQ [] 3 (pkQ [] 14 (a ⟨⟩, s ⟨⟩)) := by unfold anQ; rw [if_neg h0, if_neg h1, if_neg h2, if_neg h3, if_neg h4, if_neg h5, if_neg h6, if_pos h7]
                    have hB1 : (pkQ [] 3 (pkQ [] 14 (a ⟨⟩, s ⟨⟩))).1 = (anQ [] (a ⟨⟩, s ⟨⟩) (pkQ [] 14 (a ⟨⟩, s ⟨⟩))).1 := by rw [hB]
                    have hB2 : (pkQ [] 3 (pkQ [] 14 (a ⟨⟩, s ⟨⟩))).2 = (anQ [] (a ⟨⟩, s ⟨⟩) (pkQ [] 14 (a ⟨⟩, s ⟨⟩))).2 := by rw [hB]
                    refine Br.t (eqz_t h7) ?_
                    cbv
                    repeat' first
                      | (refine Ob.mk ?_ ?_; (focus (first | exact rfl | exact hA.symm | exact hB1 | exact hB2 | exact ⟨hq0.1, Int.le_trans hq0.2 (by decide)⟩ | exact Int.le_trans hq0.2 (by decide) | exact ⟨hq1.1, Int.le_trans hq1.2 (by decide)⟩ | exact Int.le_trans hq1.2 (by decide) | exact ⟨hq2.1, Int.le_trans hq2.2 (by decide)⟩ | exact Int.le_trans hq2.2 (by decide) | exact ⟨rfl, rfl, by decide, by decide⟩ | decide +kernel)); cbv)
                      | (refine Lex.mk (by decide +kernel) ?_; cbv)
                  · skip
                    have hA : anX [] (a ⟨⟩, s ⟨⟩) (pkQ [] 14 (a ⟨⟩, s ⟨⟩)) = fewX [] (pkQ [] 14 (a ⟨⟩, s ⟨⟩)) := by unfold anX; rw [if_neg h0, if_neg h1, if_neg h2, if_neg h3, if_neg h4, if_neg h5, if_neg h6, if_neg h7]
                    have hB : anQ [] (a ⟨⟩, s ⟨⟩) (pkQ [] 14 (a ⟨⟩, s ⟨⟩)) = pkQ [] 65 (pkQ [] 14 (a ⟨⟩, s ⟨⟩)) := by unfold anQ; rw [if_neg h0, if_neg h1, if_neg h2, if_neg h3, if_neg h4, if_neg h5, if_neg h6, if_neg h7]
                    have hB1 : (pkQ [] 65 (pkQ [] 14 (a ⟨⟩, s ⟨⟩))).1 = (anQ [] (a ⟨⟩, s ⟨⟩) (pkQ [] 14 (a ⟨⟩, s ⟨⟩))).1 := by rw [hB]
                    have hB2 : (pkQ [] 65 (pkQ [] 14 (a ⟨⟩, s ⟨⟩))).2 = (anQ [] (a ⟨⟩, s ⟨⟩) (pkQ [] 14 (a ⟨⟩, s ⟨⟩))).2 := by rw [hB]
                    refine Br.f (eqz_f h7) ?_
                    cbv
                    repeat' first
                      | (refine Ob.mk ?_ ?_; (focus (first | exact rfl | exact hA.symm | exact hB1 | exact hB2 | exact ⟨hq0.1, Int.le_trans hq0.2 (by decide)⟩ | exact Int.le_trans hq0.2 (by decide) | exact ⟨hq1.1, Int.le_trans hq1.2 (by decide)⟩ | exact Int.le_trans hq1.2 (by decide) | exact ⟨hq2.1, Int.le_trans hq2.2 (by decide)⟩ | exact Int.le_trans hq2.2 (by decide) | exact ⟨rfl, rfl, by decide, by decide⟩ | decide +kernel)); cbv)
                      | (refine Lex.mk (by decide +kernel) ?_; cbv)
  · cases hs
end
section
def an1 (L : List Int) (q : Int × Int) : Nat := anX L q (pkQ L 14 q)
def anR (L : List Int) (q : Int × Int) : Int × Int := anQ L q (pkQ L 14 q)
theorem anR_in {N : Int} {L : List Int} {q : Int × Int} (h : qIn N q) : qIn (N + 6) (anR L q) := qIn_le (anQ_in (qIn_pk h)) (by omega)
def anyM (L : List Int) (q : Int × Int) : M := if pkV L 3 q = 0 then (an1 L (pkQ L 3 q), an1 L (anR L (pkQ L 3 q))) else dmM L (pkQ L 3 q)
def anyQ (L : List Int) (q : Int × Int) : Int × Int := if pkV L 3 q = 0 then anR L (anR L (pkQ L 3 q)) else dmQ L (pkQ L 3 q)
theorem anyQ_in {N : Int} {L : List Int} {q : Int × Int} (h : qIn N q) : qIn (N + 14) (anyQ L q) := by
  unfold anyQ
  split
  · exact qIn_le (anR_in (anR_in (qIn_pk h))) (by omega)
  · exact qIn_le (dmQ_in (qIn_pk h)) (by omega)
def tuX (L : List Int) (q : Int × Int) : M := (fop .quo .f32 (floatOfInt .f32 (IntKind.wrap .i64 (pkV L 9 q + 60))) 1115684864, fop .quo .f32 (floatOfInt .f32 (IntKind.wrap .i64 (pkV L 9 (pkQ L 9 q) - 4))) 1115684864)
def tuR (L : List Int) (q : Int × Int) : Int × Int := pkQ L 9 (pkQ L 9 q)
def tuM (L : List Int) (q : Int × Int) : M × M := (if pkV L 10 (dmQ L (tuR L q)) = 0 then anyM L (pkQ L 10 (dmQ L (tuR L q))) else tuX L q, dmM L (tuR L q))
def tuQ (L : List Int) (q : Int × Int) : Int × Int := if pkV L 10 (dmQ L (tuR L q)) = 0 then anyQ L (pkQ L 10 (dmQ L (tuR L q))) else pkQ L 10 (dmQ L (tuR L q))
theorem fn81 : FnOk Try.prog 81 Try.f81 (bodyOf Try.f81) := ⟨Try.func81, rfl, by rfl⟩
def s81 : Spec := hspec fun args H => match args, H with
  | [.c (.p 0 (.l 0))], [some ⟨true, 0, .lit [.sl 1 (.x o) (.x n), .i .i64 (.x a), .i .u64 (.x s)]⟩, some ⟨false, 0, .it .u8 L⟩] => some (Zm (anyM (L ()) (a (), s ())), [some ⟨true, 0, .lit [.sl 1 (.x o) (.x n), .i .i64 (.x fun _ => (anyQ (L ()) (a (), s ())).1), .i .u64 (.x fun _ => (anyQ (L ()) (a (), s ())).2)]⟩, some ⟨false, 0, .it .u8 L⟩], [fun _ => 0 ≤ a () ∧ a () ≤ 100000, fun _ => o () = 0 ∧ (L ()).length = n () ∧ n () ≤ 4096 ∧ bytesOk (L ()), fun _ => a () ≤ 10000])
  | [.c (.p 0 (.l 0))], [some ⟨true, 0, .lit [.sn, .i .i64 (.x a), .i .u64 (.x s)]⟩] => some (Zm (anyM [] (a (), s ())), [some ⟨true, 0, .lit [.sn, .i .i64 (.x fun _ => (anyQ [] (a (), s ())).1), .i .u64 (.x fun _ => (anyQ [] (a (), s ())).2)]⟩], [fun _ => 0 ≤ a () ∧ a () ≤ 100000, fun _ => a () ≤ 10000])
  | _, _ => none
def E81 : Env := fun g => envGetL [(35, ⟨false, s35, none⟩), (38, ⟨true, s38, none⟩), (96, ⟨false, s96, none⟩), (102, ⟨false, s102, none⟩)] g
theorem E81ok : EnvOk Try.prog E81 := envOk_cons ok35 (envOk_cons ok38 (envOk_cons ok96 (envOk_cons ok102 (envOk_nil _))))
set_option maxRecDepth 100000 in
set_option maxHeartbeats 2000000 in
theorem ok81 : Ok Try.prog 81 (s81) := ok_of_wpaH (E := E81) mixed tts E81ok fn81 fun args H v H' o hs ho => by
  split at hs
  · rename_i o n a s L
    cases hs
    obtain ⟨⟨ha0, ha1⟩, ⟨ho0, hlen, hbig, hby⟩, hx0⟩ := ho.three
    try simp only [Unit.unit] at ha0 ha1 ho0 hlen hbig hx0
    refine ⟨_, HLe.refl _, ?_⟩
    cbv
    have hq0 : qIn 10000 (a ⟨⟩, s ⟨⟩) := ⟨ha0, hx0⟩
    have hq1 : qIn 10002 (pkQ (L ⟨⟩) 3 (a ⟨⟩, s ⟨⟩)) := qIn_pk hq0
    have hq2 : qIn 10008 (anR (L ⟨⟩) (pkQ (L ⟨⟩) 3 (a ⟨⟩, s ⟨⟩))) := anR_in hq1
    repeat' (refine Ob.mk ?_ ?_; (focus (first | exact rfl | exact ⟨hq0.1, Int.le_trans hq0.2 (by decide)⟩ | exact Int.le_trans hq0.2 (by decide) | exact ⟨hq1.1, Int.le_trans hq1.2 (by decide)⟩ | exact Int.le_trans hq1.2 (by decide) | exact ⟨hq2.1, Int.le_trans hq2.2 (by decide)⟩ | exact Int.le_trans hq2.2 (by decide) | exact ⟨ho0, hlen, hbig, hby⟩ | exact ⟨by trivial, hlen, hbig, hby⟩)); cbv)
    by_cases h0 : pkV (L ⟨⟩) 3 (a ⟨⟩, s ⟨⟩) = 0
    · have hA1 : an1 (L ⟨⟩) (pkQ (L ⟨⟩) 3 (a ⟨⟩, s ⟨⟩)) = (anyM (L ⟨⟩) (a ⟨⟩, s ⟨⟩)).1 := by unfold anyM; rw [if_pos h0]
      have hA2 : an1 (L ⟨⟩) (anR (L ⟨⟩) (pkQ (L ⟨⟩) 3 (a ⟨⟩, s ⟨⟩))) = (anyM (L ⟨⟩) (a ⟨⟩, s ⟨⟩)).2 := by unfold anyM; rw [if_pos h0]
      have hB1 : (anR (L ⟨⟩) (anR (L ⟨⟩) (pkQ (L ⟨⟩) 3 (a ⟨⟩, s ⟨⟩)))).1 = (anyQ (L ⟨⟩) (a ⟨⟩, s ⟨⟩)).1 := by unfold anyQ; rw [if_pos h0]
      have hB2 : (anR (L ⟨⟩) (anR (L ⟨⟩) (pkQ (L ⟨⟩) 3 (a ⟨⟩, s ⟨⟩)))).2 = (anyQ (L ⟨⟩) (a ⟨⟩, s ⟨⟩)).2 := by unfold anyQ; rw [if_pos h0]
      refine Br.t (eqz_t h0) ?_
      cbv
      repeat' (refine Ob.mk ?_ ?_; (focus (first | exact rfl | exact hA1 | exact hA2 | exact hB1 | exact hB2 | exact ⟨hq0.1, Int.le_trans hq0.2 (by decide)⟩ | exact Int.le_trans hq0.2 (by decide) | exact ⟨hq1.1, Int.le_trans hq1.2 (by decide)⟩ | exact Int.le_trans hq1.2 (by decide) | exact ⟨hq2.1, Int.le_trans hq2.2 (by decide)⟩ | exact Int.le_trans hq2.2 (by decide) | exact ⟨ho0, hlen, hbig, hby⟩ | exact ⟨by trivial, hlen, hbig, hby⟩)); cbv)
    · have hA1 : (dmM (L ⟨⟩) (pkQ (L ⟨⟩) 3 (a ⟨⟩, s ⟨⟩))).1 = (anyM (L ⟨⟩) (a ⟨⟩, s ⟨⟩)).1 := by unfold anyM; rw [if_neg h0]
      have hA2 : (dmM (L ⟨⟩) (pkQ (L ⟨⟩) 3 (a ⟨⟩, s ⟨⟩))).2 = (anyM (L ⟨⟩) (a ⟨⟩, s ⟨⟩)).2 := by unfold anyM; rw [if_neg h0]
      have hB1 : (dmQ (L ⟨⟩) (pkQ (L ⟨⟩) 3 (a ⟨⟩, s ⟨⟩))).1 = (anyQ (L ⟨⟩) (a ⟨⟩, s ⟨⟩)).1 := by unfold anyQ; rw [if_neg h0]
      have hB2 : (dmQ (L ⟨⟩) (pkQ (L ⟨⟩) 3 (a ⟨⟩, s ⟨⟩))).2 = (anyQ (L ⟨⟩) (a ⟨⟩, s ⟨⟩)).2 := by unfold anyQ; rw [if_neg h0]
      refine Br.f (eqz_f h0) ?_
      cbv
      repeat' (refine Ob.mk ?_ ?_; (focus (first | exact rfl | exact hA1 | exact hA2 | exact hB1 | exact hB2 | exact ⟨hq0.1, Int.le_trans hq0.2 (by decide)⟩ | exact Int.le_trans hq0.2 (by decide) | exact ⟨hq1.1, Int.le_trans hq1.2 (by decide)⟩ | exact Int.le_trans hq1.2 (by decide) | exact ⟨hq2.1, Int.le_trans hq2.2 (by decide)⟩ | exact Int.le_trans hq2.2 (by decide) | exact ⟨ho0, hlen, hbig, hby⟩ | exact ⟨by trivial, hlen, hbig, hby⟩)); cbv)
  · rename_i a s
    cases hs
    obtain ⟨⟨ha0, ha1⟩, hx0⟩ := ho.two
    have hby := bytes_nil
    try simp only [Unit.unit] at ha0 ha1 hx0
    refine ⟨_, HLe.refl _, ?_⟩
    cbv
    have hq0 : qIn 10000 (a ⟨⟩, s ⟨⟩) := ⟨ha0, hx0⟩
    have hq1 : qIn 10002 (pkQ [] 3 (a ⟨⟩, s ⟨⟩)) := qIn_pk hq0
    have hq2 : qIn 10008 (anR [] (pkQ [] 3 (a ⟨⟩, s ⟨⟩))) := anR_in hq1
    repeat' (refine Ob.mk ?_ ?_; (focus (first | exact rfl | exact ⟨hq0.1, Int.le_trans hq0.2 (by decide)⟩ | exact Int.le_trans hq0.2 (by decide) | exact ⟨hq1.1, Int.le_trans hq1.2 (by decide)⟩ | exact Int.le_trans hq1.2 (by decide) | exact ⟨hq2.1, Int.le_trans hq2.2 (by decide)⟩ | exact Int.le_trans hq2.2 (by decide))); cbv)
    by_cases h0 : pkV [] 3 (a ⟨⟩, s ⟨⟩) = 0
    · have hA1 : an1 [] (pkQ [] 3 (a ⟨⟩, s ⟨⟩)) = (anyM [] (a ⟨⟩, s ⟨⟩)).1 := by unfold anyM; rw [if_pos h0]
      have hA2 : an1 [] (anR [] (pkQ [] 3 (a ⟨⟩, s ⟨⟩))) = (anyM [] (a ⟨⟩, s ⟨⟩)).2 := by unfold anyM; rw [if_pos h0]
      have hB1 : (anR [] (anR [] (pkQ [] 3 (a ⟨⟩, s ⟨⟩)))).1 = (anyQ [] (a ⟨⟩, s ⟨⟩)).1 := by unfold anyQ; rw [if_pos h0]
      have hB2 : (anR [] (anR [] (pkQ [] 3 (a ⟨⟩, s ⟨⟩)))).2 = (anyQ [] (a ⟨⟩, s ⟨⟩)).2 := by unfold anyQ; rw [if_pos h0]
      refine Br.t (eqz_t h0) ?_
      cbv
      repeat' (refine Ob.mk ?_ ?_; (focus (first | exact rfl | exact hA1 | exact hA2 | exact hB1 | exact hB2 | exact ⟨hq0.1, Int.le_trans hq0.2 (by decide)⟩ | exact Int.le_trans hq0.2 (by decide) | exact ⟨hq1.1, Int.le_trans hq1.2 (by decide)⟩ | exact Int.le_trans hq1.2 (by decide) | exact ⟨hq2.1, Int.le_trans hq2.2 (by decide)⟩ | exact Int.le_trans hq2.2 (by decide))); cbv)
    · have hA1 : (dmM [] (pkQ [] 3 (a ⟨⟩, s ⟨⟩))).1 = (anyM [] (a ⟨⟩, s ⟨⟩)).1 := by unfold anyM; rw [if_neg h0]
      have hA2 : (dmM [] (pkQ [] 3 (a ⟨⟩, s ⟨⟩))).2 = (anyM [] (a ⟨⟩, s ⟨⟩)).2 := by unfold anyM; rw [if_neg h0]
      have hB1 : (dmQ [] (pkQ [] 3 (a ⟨⟩, s ⟨⟩))).1 = (anyQ [] (a ⟨⟩, s ⟨⟩)).1 := by unfold anyQ; rw [if_neg h0]
      have hB2 : (dmQ [] (pkQ [] 3 (a ⟨⟩, s ⟨⟩))).2 = (anyQ [] (a ⟨⟩, s ⟨⟩)).2 := by unfold anyQ; rw [if_neg h0]
      refine Br.f (eqz_f h0) ?_
      cbv
      repeat' (refine Ob.mk ?_ ?_; (focus (first | exact rfl | exact hA1 | exact hA2 | exact hB1 | exact hB2 | exact ⟨hq0.1, Int.le_trans hq0.2 (by decide)⟩ | exact Int.le_trans hq0.2 (by decide) | exact ⟨hq1.1, Int.le_trans hq1.2 (by decide)⟩ | exact Int.le_trans hq1.2 (by decide) | exact ⟨hq2.1, Int.le_trans hq2.2 (by decide)⟩ | exact Int.le_trans hq2.2 (by decide))); cbv)
  · cases hs
theorem fn80 : FnOk Try.prog 80 Try.f80 (bodyOf Try.f80) := ⟨Try.func80, rfl, by rfl⟩
def s80 : Spec := hspec fun args H => match args, H with
  | [.c (.p 0 (.l 0))], [some ⟨true, 0, .lit [.sl 1 (.x o) (.x n), .i .i64 (.x a), .i .u64 (.x s)]⟩, some ⟨false, 0, .it .u8 L⟩] => some (.a [.z .f32 (fun _ => (tuM (L ()) (a (), s ())).1.1) (fun _ => (tuM (L ()) (a (), s ())).1.2), .z .f32 (fun _ => (tuM (L ()) (a (), s ())).2.1) (fun _ => (tuM (L ()) (a (), s ())).2.2)], [some ⟨true, 0, .lit [.sl 1 (.x o) (.x n), .i .i64 (.x fun _ => (tuQ (L ()) (a (), s ())).1), .i .u64 (.x fun _ => (tuQ (L ()) (a (), s ())).2)]⟩, some ⟨false, 0, .it .u8 L⟩], [fun _ => 0 ≤ a () ∧ a () ≤ 100000, fun _ => o () = 0 ∧ (L ()).length = n () ∧ n () ≤ 4096 ∧ bytesOk (L ()), fun _ => a () ≤ 5000])
  | [.c (.p 0 (.l 0))], [some ⟨true, 0, .lit [.sn, .i .i64 (.x a), .i .u64 (.x s)]⟩] => some (.a [.z .f32 (fun _ => (tuM [] (a (), s ())).1.1) (fun _ => (tuM [] (a (), s ())).1.2), .z .f32 (fun _ => (tuM [] (a (), s ())).2.1) (fun _ => (tuM [] (a (), s ())).2.2)], [some ⟨true, 0, .lit [.sn, .i .i64 (.x fun _ => (tuQ [] (a (), s ())).1), .i .u64 (.x fun _ => (tuQ [] (a (), s ())).2)]⟩], [fun _ => 0 ≤ a () ∧ a () ≤ 100000, fun _ => a () ≤ 5000])
  | _, _ => none
def E80 : Env := fun g => envGetL [(35, ⟨false, s35, none⟩), (37, ⟨false, s37, none⟩), (38, ⟨true, s38, none⟩), (81, ⟨false, s81, none⟩), (96, ⟨false, s96, none⟩)] g
theorem E80ok : EnvOk Try.prog E80 := envOk_cons ok35 (envOk_cons ok37 (envOk_cons ok38 (envOk_cons ok81 (envOk_cons ok96 (envOk_nil _)))))
set_option maxRecDepth 100000 in
set_option maxHeartbeats 2000000 in
theorem ok80 : Ok Try.prog 80 (s80) := ok_of_wpaH (E := E80) mixed tts E80ok fn80 fun args H v H' o hs ho => by
  split at hs
  · rename_i o n a s L
    cases hs
    obtain ⟨⟨ha0, ha1⟩, ⟨ho0, hlen, hbig, hby⟩, hx0⟩ := ho.three
    try simp only [Unit.unit] at ha0 ha1 ho0 hlen hbig hx0
    refine ⟨_, HLe.refl _, ?_⟩
    cbv
    have hq0 : qIn 5000 (a ⟨⟩, s ⟨⟩) := ⟨ha0, hx0⟩
    have hq1 : qIn 5002 (pkQ (L ⟨⟩) 9 (a ⟨⟩, s ⟨⟩)) := qIn_pk hq0
    have hq2 : qIn 5004 (tuR (L ⟨⟩) (a ⟨⟩, s ⟨⟩)) := qIn_pk hq1
    have hq3 : qIn 5008 (dmQ (L ⟨⟩) (tuR (L ⟨⟩) (a ⟨⟩, s ⟨⟩))) := dmQ_in hq2
    have hq4 : qIn 5010 (pkQ (L ⟨⟩) 10 (dmQ (L ⟨⟩) (tuR (L ⟨⟩) (a ⟨⟩, s ⟨⟩)))) := qIn_pk hq3
    repeat' (refine Ob.mk ?_ ?_; (focus (first | exact rfl | exact ⟨hq0.1, Int.le_trans hq0.2 (by decide)⟩ | exact Int.le_trans hq0.2 (by decide) | exact ⟨hq1.1, Int.le_trans hq1.2 (by decide)⟩ | exact Int.le_trans hq1.2 (by decide) | exact ⟨hq2.1, Int.le_trans hq2.2 (by decide)⟩ | exact Int.le_trans hq2.2 (by decide) | exact ⟨hq3.1, Int.le_trans hq3.2 (by decide)⟩ | exact Int.le_trans hq3.2 (by decide) | exact ⟨hq4.1, Int.le_trans hq4.2 (by decide)⟩ | exact Int.le_trans hq4.2 (by decide) | exact ⟨ho0, hlen, hbig, hby⟩ | exact ⟨by trivial, hlen, hbig, hby⟩)); cbv)
    by_cases h0 : pkV (L ⟨⟩) 10 (dmQ (L ⟨⟩) (tuR (L ⟨⟩) (a ⟨⟩, s ⟨⟩))) = 0
    · have hA1 : (anyM (L ⟨⟩) (pkQ (L ⟨⟩) 10 (dmQ (L ⟨⟩) (tuR (L ⟨⟩) (a ⟨⟩, s ⟨⟩))))).1 = (tuM (L ⟨⟩) (a ⟨⟩, s ⟨⟩)).1.1 := by unfold tuM; rw [if_pos h0]
      have hA2 : (anyM (L ⟨⟩) (pkQ (L ⟨⟩) 10 (dmQ (L ⟨⟩) (tuR (L ⟨⟩) (a ⟨⟩, s ⟨⟩))))).2 = (tuM (L ⟨⟩) (a ⟨⟩, s ⟨⟩)).1.2 := by unfold tuM; rw [if_pos h0]
      have hB1 : (anyQ (L ⟨⟩) (pkQ (L ⟨⟩) 10 (dmQ (L ⟨⟩) (tuR (L ⟨⟩) (a ⟨⟩, s ⟨⟩))))).1 = (tuQ (L ⟨⟩) (a ⟨⟩, s ⟨⟩)).1 := by unfold tuQ; rw [if_pos h0]
      have hB2 : (anyQ (L ⟨⟩) (pkQ (L ⟨⟩) 10 (dmQ (L ⟨⟩) (tuR (L ⟨⟩) (a ⟨⟩, s ⟨⟩))))).2 = (tuQ (L ⟨⟩) (a ⟨⟩, s ⟨⟩)).2 := by unfold tuQ; rw [if_pos h0]
      refine Br.t (eqz_t h0) ?_
      cbv
      repeat' (refine Ob.mk ?_ ?_; (focus (first | exact rfl | exact hA1 | exact hA2 | exact hB1 | exact hB2 | exact ⟨hq0.1, Int.le_trans hq0.2 (by decide)⟩ | exact Int.le_trans hq0.2 (by decide) | exact ⟨hq1.1, Int.le_trans hq1.2 (by decide)⟩ | exact Int.le_trans hq1.2 (by decide) | exact ⟨hq2.1, Int.le_trans hq2.2 (by decide)⟩ | exact Int.le_trans hq2.2 (by decide) | exact ⟨hq3.1, Int.le_trans hq3.2 (by decide)⟩ | exact Int.le_trans hq3.2 (by decide) | exact ⟨hq4.1, Int.le_trans hq4.2 (by decide)⟩ | exact Int.le_trans hq4.2 (by decide) | exact ⟨ho0, hlen, hbig, hby⟩ | exact ⟨by trivial, hlen, hbig, hby⟩)); cbv)
    · have hA1 : (tuX (L ⟨⟩) (a ⟨⟩, s ⟨⟩)).1 = (tuM (L ⟨⟩) (a ⟨⟩, s ⟨⟩)).1.1 := by unfold tuM; rw [if_neg h0]
      have hA2 : (tuX (L ⟨⟩) (a ⟨⟩, s ⟨⟩)).2 = (tuM (L ⟨⟩) (a ⟨⟩, s ⟨⟩)).1.2 := by unfold tuM; rw [if_neg h0]
      have hB1 : (pkQ (L ⟨⟩) 10 (dmQ (L ⟨⟩) (tuR (L ⟨⟩) (a ⟨⟩, s ⟨⟩)))).1 = (tuQ (L ⟨⟩) (a ⟨⟩, s ⟨⟩)).1 := by unfold tuQ; rw [if_neg h0]
      have hB2 : (pkQ (L ⟨⟩) 10 (dmQ (L ⟨⟩) (tuR (L ⟨⟩) (a ⟨⟩, s ⟨⟩)))).2 = (tuQ (L ⟨⟩) (a ⟨⟩, s ⟨⟩)).2 := by unfold tuQ; rw [if_neg h0]
      refine Br.f (eqz_f h0) ?_
      cbv
      repeat' (refine Ob.mk ?_ ?_; (focus (first | exact rfl | exact hA1 | exact hA2 | exact hB1 | exact hB2 | exact ⟨hq0.1, Int.le_trans hq0.2 (by decide)⟩ | exact Int.le_trans hq0.2 (by decide) | exact ⟨hq1.1, Int.le_trans hq1.2 (by decide)⟩ | exact Int.le_trans hq1.2 (by decide) | exact ⟨hq2.1, Int.le_trans hq2.2 (by decide)⟩ | exact Int.le_trans hq2.2 (by decide) | exact ⟨hq3.1, Int.le_trans hq3.2 (by decide)⟩ | exact Int.le_trans hq3.2 (by decide) | exact ⟨hq4.1, Int.le_trans hq4.2 (by decide)⟩ | exact Int.le_trans hq4.2 (by decide) | exact ⟨ho0, hlen, hbig, hby⟩ | exact ⟨by trivial, hlen, hbig, hby⟩)); cbv)
  · rename_i a s
    cases hs
    obtain ⟨⟨ha0, ha1⟩, hx0⟩ := ho.two
    have hby := bytes_nil
    try simp only [Unit.unit] at ha0 ha1 hx0
    refine ⟨_, HLe.refl _, ?_⟩
    cbv
    have hq0 : qIn 5000 (a ⟨⟩, s ⟨⟩) := ⟨ha0, hx0⟩
    have hq1 : qIn 5002 (pkQ [] 9 (a ⟨⟩, s ⟨⟩)) := qIn_pk hq0
    have hq2 : qIn 5004 (tuR [] (a ⟨⟩, s ⟨⟩)) := qIn_pk hq1
    have hq3 : qIn 5008 (dmQ [] (tuR [] (a ⟨⟩, s ⟨⟩))) := dmQ_in hq2
    have hq4 : qIn 5010 (pkQ [] 10 (dmQ [] (tuR [] (a ⟨⟩, s ⟨⟩)))) := qIn_pk hq3
    repeat' (refine Ob.mk ?_ ?_; (focus (first | exact rfl | exact ⟨hq0.1, Int.le_trans hq0.2 (by decide)⟩ | exact Int.le_trans hq0.2 (by decide) | exact ⟨hq1.1, Int.le_trans hq1.2 (by decide)⟩ | exact Int.le_trans hq1.2 (by decide) | exact ⟨hq2.1, Int.le_trans hq2.2 (by decide)⟩ | exact Int.le_trans hq2.2 (by decide) | exact ⟨hq3.1, Int.le_trans hq3.2 (by decide)⟩ | exact Int.le_trans hq3.2 (by decide) | exact ⟨hq4.1, Int.le_trans hq4.2 (by decide)⟩ | exact Int.le_trans hq4.2 (by decide))); cbv)
    by_cases h0 : pkV [] 10 (dmQ [] (tuR [] (a ⟨⟩, s ⟨⟩))) = 0
    · have hA1 : (anyM [] (pkQ [] 10 (dmQ [] (tuR [] (a ⟨⟩, s ⟨⟩))))).1 = (tuM [] (a ⟨⟩, s ⟨⟩)).1.1 := by unfold tuM; rw [if_pos h0]
      have hA2 : (anyM [] (pkQ [] 10 (dmQ [] (tuR [] (a ⟨⟩, s ⟨⟩))))).2 = (tuM [] (a ⟨⟩, s ⟨⟩)).1.2 := by unfold tuM; rw [if_pos h0]
      have hB1 : (anyQ [] (pkQ [] 10 (dmQ [] (tuR [] (a ⟨⟩, s ⟨⟩))))).1 = (tuQ [] (a ⟨⟩, s ⟨⟩)).1 := by unfold tuQ; rw [if_pos h0]
      have hB2 : (anyQ [] (pkQ [] 10 (dmQ [] (tuR [] (a ⟨⟩, s ⟨⟩))))).2 = (tuQ [] (a ⟨⟩, s ⟨⟩)).2 := by unfold tuQ; rw [if_pos h0]
      refine Br.t (eqz_t h0) ?_
      cbv
      repeat' (refine Ob.mk ?_ ?_; (focus (first | exact rfl | exact hA1 | exact hA2 | exact hB1 | exact hB2 | exact ⟨hq0.1, Int.le_trans hq0.2 (by decide)⟩ | exact Int.le_trans hq0.2 (by decide) | exact ⟨hq1.1, Int.le_trans hq1.2 (by decide)⟩ | exact Int.le_trans hq1.2 (by decide) | exact ⟨hq2.1, Int.le_trans hq2.2 (by decide)⟩ | exact Int.le_trans hq2.2 (by decide) | exact ⟨hq3.1, Int.le_trans hq3.2 (by decide)⟩ | exact Int.le_trans hq3.2 (by decide) | exact ⟨hq4.1, Int.le_trans hq4.2 (by decide)⟩ | exact Int.le_trans hq4.2 (by decide))); cbv)
    · have hA1 : (tuX [] (a ⟨⟩, s ⟨⟩)).1 = (tuM [] (a ⟨⟩, s ⟨⟩)).1.1 := by unfold tuM; rw [if_neg h0]
      have hA2 : (tuX [] (a ⟨⟩, s ⟨⟩)).2 = (tuM [] (a ⟨⟩, s ⟨⟩)).1.2 := by unfold tuM; rw [if_neg h0]
      have hB1 : (pkQ [] 10 (dmQ [] (tuR [] (a ⟨⟩, s ⟨⟩)))).1 = (tuQ [] (a ⟨⟩, s ⟨⟩)).1 := by unfold tuQ; rw [if_neg h0]
      have hB2 : (pkQ [] 10 (dmQ [] (tuR [] (a ⟨⟩, s ⟨⟩)))).2 = (tuQ [] (a ⟨⟩, s ⟨⟩)).2 := by unfold tuQ; rw [if_neg h0]
      refine Br.f (eqz_f h0) ?_
      cbv
      repeat' (refine Ob.mk ?_ ?_; (focus (first | exact rfl | exact hA1 | exact hA2 | exact hB1 | exact hB2 | exact ⟨hq0.1, Int.le_trans hq0.2 (by decide)⟩ | exact Int.le_trans hq0.2 (by decide) | exact ⟨hq1.1, Int.le_trans hq1.2 (by decide)⟩ | exact Int.le_trans hq1.2 (by decide) | exact ⟨hq2.1, Int.le_trans hq2.2 (by decide)⟩ | exact Int.le_trans hq2.2 (by decide) | exact ⟨hq3.1, Int.le_trans hq3.2 (by decide)⟩ | exact Int.le_trans hq3.2 (by decide) | exact ⟨hq4.1, Int.le_trans hq4.2 (by decide)⟩ | exact Int.le_trans hq4.2 (by decide))); cbv)
  · cases hs
theorem fn24 : FnOk Try.prog 24 Try.f24 (bodyOf Try.f24) := ⟨Try.func24, rfl, by rfl⟩
def s24 : Spec := hspec fun args H => match args, H with
  | [.c (.sl 0 (.x o) (.x n))], [some ⟨false, 0, .it .u8 L⟩] => some (Zm (anyM (L ()) (0, 0)), [none], [fun _ => o () = 0 ∧ (L ()).length = n () ∧ n () ≤ 4096 ∧ bytesOk (L ())])
  | [.c .sn], [] => some (Zm (anyM [] (0, 0)), [], [])
  | _, _ => none
def E24 : Env := fun g => envGetL [(36, ⟨false, s36, none⟩), (81, ⟨false, s81, none⟩)] g
theorem E24ok : EnvOk Try.prog E24 := envOk_cons ok36 (envOk_cons ok81 (envOk_nil _))
set_option maxRecDepth 100000 in
set_option maxHeartbeats 1000000 in
theorem ok24 : Ok Try.prog 24 (s24) := ok_of_wpaH (E := E24) mixed tts E24ok fn24 fun args H v H' o hs ho => by
  split at hs
  · rename_i o n L
    cases hs
    have hcb := ho.one
    refine ⟨_, HLe.refl _, ?_⟩
    cbv
    repeat' (refine Ob.mk ?_ ?_; (focus (first | exact rfl | exact hcb | exact ⟨by decide, by decide⟩ | decide)); cbv)
  · cases hs
    refine ⟨_, HLe.refl _, ?_⟩
    cbv
    repeat' (refine Ob.mk ?_ ?_; (focus (first | exact rfl | exact hcb | exact ⟨by decide, by decide⟩ | decide)); cbv)
  · cases hs
theorem fn23 : FnOk Try.prog 23 Try.f23 (bodyOf Try.f23) := ⟨Try.func23, rfl, by rfl⟩
def s23 : Spec := hspec fun args H => match args, H with
  | [.c (.sl 0 (.x o) (.x n))], [some ⟨false, 0, .it .u8 L⟩] => some (.a [.z .f32 (fun _ => (tuM (L ()) (0, 0)).1.1) (fun _ => (tuM (L ()) (0, 0)).1.2), .z .f32 (fun _ => (tuM (L ()) (0, 0)).2.1) (fun _ => (tuM (L ()) (0, 0)).2.2)], [none], [fun _ => o () = 0 ∧ (L ()).length = n () ∧ n () ≤ 4096 ∧ bytesOk (L ())])
  | [.c .sn], [] => some (.a [.z .f32 (fun _ => (tuM [] (0, 0)).1.1) (fun _ => (tuM [] (0, 0)).1.2), .z .f32 (fun _ => (tuM [] (0, 0)).2.1) (fun _ => (tuM [] (0, 0)).2.2)], [], [])
  | _, _ => none
def E23 : Env := fun g => envGetL [(36, ⟨false, s36, none⟩), (80, ⟨false, s80, none⟩)] g
theorem E23ok : EnvOk Try.prog E23 := envOk_cons ok36 (envOk_cons ok80 (envOk_nil _))
set_option maxRecDepth 100000 in
set_option maxHeartbeats 1000000 in
theorem ok23 : Ok Try.prog 23 (s23) := ok_of_wpaH (E := E23) mixed tts E23ok fn23 fun args H v H' o hs ho => by
  split at hs
  · rename_i o n L
    cases hs
    have hcb := ho.one
    refine ⟨_, HLe.refl _, ?_⟩
    cbv
    repeat' (refine Ob.mk ?_ ?_; (focus (first | exact rfl | exact hcb | exact ⟨by decide, by decide⟩ | decide)); cbv)
  · cases hs
    refine ⟨_, HLe.refl _, ?_⟩
    cbv
    repeat' (refine Ob.mk ?_ ?_; (focus (first | exact rfl | exact hcb | exact ⟨by decide, by decide⟩ | decide)); cbv)
  · cases hs
end
end Go.Proofs.Ytanndlifpojenaa.Sh
