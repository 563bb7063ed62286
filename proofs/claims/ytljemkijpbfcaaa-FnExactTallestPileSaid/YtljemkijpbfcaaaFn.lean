/- What the functions of this seat compute, each shown once. No condition. -/
import Derived.Test.YtljemkijpbfcaaaShB
import Derived.Test.YtljemkijpbfcaaaProg
set_option linter.unusedVariables false
set_option linter.unusedSimpArgs false
namespace Go.Proofs.Ytljemkijpbfcaaa.Sh
open Go Go.Proofs
def ttl : TTL := [
  (2, ⟨1, 8, .cell, [.i .i64 (.l 0)], some (.inl .i64)⟩),
  (3, ⟨1, 8, .cell, [.i .i64 (.l 0)], some (.inl .i64)⟩),
  (4, ⟨1, 1, .bool, [.b (.l false)], none⟩),
  (5, ⟨1, 1, .cell, [.i .u8 (.l 0)], some (.inl .u8)⟩),
  (6, ⟨1, 1, .cell, [.i .u8 (.l 0)], some (.inl .u8)⟩),
  (7, ⟨4, 24, .st [(0, 2), (1, 3), (2, 4), (3, 6)], [.i .i64 (.l 0), .i .i64 (.l 0), .b (.l false), .i .u8 (.l 0)], none⟩),
  (8, ⟨4, 24, .st [(0, 2), (1, 3), (2, 4), (3, 6)], [.i .i64 (.l 0), .i .i64 (.l 0), .b (.l false), .i .u8 (.l 0)], none⟩),
  (9, ⟨1, 16, .str, [.s fun _ => .empty], none⟩),
  (10, ⟨1, 16, .str, [.s fun _ => .empty], none⟩),
  (11, ⟨1, 16, .str, [.s fun _ => .empty], none⟩),
  (12, ⟨1, 8, .cell, [.i .u64 (.l 0)], some (.inl .u64)⟩),
  (13, ⟨2, 24, .st [(0, 9), (1, 12)], [.s fun _ => .empty, .i .u64 (.l 0)], none⟩),
  (14, ⟨2, 24, .st [(0, 9), (1, 12)], [.s fun _ => .empty, .i .u64 (.l 0)], none⟩),
  (15, ⟨1, 8, .cell, [.pn], none⟩),
  (16, ⟨1, 8, .cell, [.pn], none⟩),
  (17, ⟨1, 8, .cell, [.pn], none⟩),
  (18, ⟨1, 8, .st [(0, 17)], [.pn], none⟩),
  (19, ⟨1, 8, .st [(0, 17)], [.pn], none⟩),
  (21, ⟨1, 4, .cell, [.i .i32 (.l 0)], some (.inl .i32)⟩),
  (22, ⟨1, 4, .cell, [.f .f32 fun _ => 0], some (.inr .f32)⟩),
  (23, ⟨2, 8, .st [(0, 22), (1, 22)], [.f .f32 fun _ => 0, .f .f32 fun _ => 0], none⟩),
  (24, ⟨2, 8, .st [(0, 22), (1, 22)], [.f .f32 fun _ => 0, .f .f32 fun _ => 0], none⟩),
  (26, ⟨2, 8, .st [(0, 22), (1, 22)], [.f .f32 fun _ => 0, .f .f32 fun _ => 0], none⟩),
  (29, ⟨4, 16, .ar 4 22, [.f .f32 fun _ => 0, .f .f32 fun _ => 0, .f .f32 fun _ => 0, .f .f32 fun _ => 0], none⟩),
  (31, ⟨4, 16, .ar 4 22, [.f .f32 fun _ => 0, .f .f32 fun _ => 0, .f .f32 fun _ => 0, .f .f32 fun _ => 0], none⟩),
  (37, ⟨1, 8, .cell, [.f .f64 fun _ => 0], some (.inr .f64)⟩),
  (57, ⟨1, 24, .sl 22, [.sn], none⟩),
  (62, ⟨1, 24, .sl 24, [.sn], none⟩),
  (65, ⟨1, 24, .sl 26, [.sn], none⟩),
  (71, ⟨1, 8, .cell, [.pn], none⟩),
  (84, ⟨1, 24, .sl 2, [.sn], none⟩),
  (87, ⟨4, 40, .st [(0, 17), (1, 17), (2, 17), (3, 9)], [.pn, .pn, .pn, .s fun _ => .empty], none⟩),
  (88, ⟨4, 40, .st [(0, 17), (1, 17), (2, 17), (3, 9)], [.pn, .pn, .pn, .s fun _ => .empty], none⟩),
  (89, ⟨0, 0, .ar 0 16, [], none⟩),
  (90, ⟨0, 0, .st [(0, 89)], [], none⟩),
  (91, ⟨0, 0, .st [(0, 89)], [], none⟩),
  (93, ⟨1, 4, .cell, [.i .u32 (.l 0)], some (.inl .u32)⟩),
  (94, ⟨1, 1, .cell, [.i .u8 (.l 0)], some (.inl .u8)⟩),
  (95, ⟨1, 1, .cell, [.i .u8 (.l 0)], some (.inl .u8)⟩),
  (97, ⟨1, 8, .cell, [.pn], none⟩),
  (98, ⟨1, 4, .cell, [.i .i32 (.l 0)], some (.inl .i32)⟩),
  (99, ⟨1, 4, .cell, [.i .i32 (.l 0)], some (.inl .i32)⟩),
  (100, ⟨11, 48, .st [(0, 12), (1, 12), (2, 93), (3, 94), (4, 5), (5, 5), (6, 95), (7, 96), (8, 97), (9, 98), (10, 99)], [.i .u64 (.l 0), .i .u64 (.l 0), .i .u32 (.l 0), .i .u8 (.l 0), .i .u8 (.l 0), .i .u8 (.l 0), .i .u8 (.l 0), .fnn, .pn, .i .i32 (.l 0), .i .i32 (.l 0)], none⟩),
  (101, ⟨11, 48, .st [(0, 12), (1, 12), (2, 93), (3, 94), (4, 5), (5, 5), (6, 95), (7, 96), (8, 97), (9, 98), (10, 99)], [.i .u64 (.l 0), .i .u64 (.l 0), .i .u32 (.l 0), .i .u8 (.l 0), .i .u8 (.l 0), .i .u8 (.l 0), .i .u8 (.l 0), .fnn, .pn, .i .i32 (.l 0), .i .i32 (.l 0)], none⟩)]
def tt : TT := fun t => ttGetL ttl t
theorem tts : TtOk Try.prog tt := ttOk_list (l := ttl) (by kernel_rfl)
theorem mixed : Try.prog.follows .mixedOrders = true := by kernel_rfl
def bodyOf (f : Func) : Code := f.body.getD .skip
abbrev F (x : Nat) : V := .c (.f .f32 fun _ => x)
abbrev vB (x : Bool) : V := .c (.b (.x fun _ => x))
abbrev vI (x : Int) : V := .c (.i .i64 (.x fun _ => x))
def isIn (a lo hi : Nat) : Bool := fcmp .geq .f32 a lo && fcmp .leq .f32 a hi
def isWet (a : Nat) : Bool := isIn a 0 1149239296
def isRate (a : Nat) : Bool := isIn a 0 1233125376
def isPart (a : Nat) : Bool := isIn a 0 1065353216
def isFast (a : Nat) : Bool := isIn a 1031798784 1149239296
def mul (a b : Nat) : Nat := fop .mul .f32 a b
def dry (w r t : Nat) : Nat := fop .quo .f32 w (fop .add .f32 1065353216 (mul r t))
def inI (n lo hi : Int) : Bool := leB lo n && leB n hi
def sameF (a b : Nat) : Bool :=
  if fcmp .neq .f64 a a || fcmp .neq .f64 b b then fcmp .neq .f64 a a && fcmp .neq .f64 b b
  else if fcmp .eql .f64 a 0 && fcmp .eql .f64 b 0 then fcmp .gtr .f64 (fop .quo .f64 4607182418800017408 a) 0 == fcmp .gtr .f64 (fop .quo .f64 4607182418800017408 b) 0
  else fcmp .eql .f64 a b
theorem sameF_refl (a : Nat) : sameF a a = true := by
  unfold sameF fcmp
  cases h : FloatKind.f64.format.order a a <;> simp
  rename_i o
  cases o <;> simp
def s1F (f : Nat → V) : Spec := nspec fun args H => match args, H with
  | [.c (.f .f32 a)], [] => some (f (a ()), [], [])
  | _, _ => none
def s2F (f : Nat → Nat → V) : Spec := nspec fun args H => match args, H with
  | [.c (.f .f32 a), .c (.f .f32 b)], [] => some (f (a ()) (b ()), [], [])
  | _, _ => none
def s2D (f : Nat → Nat → V) : Spec := nspec fun args H => match args, H with
  | [.c (.f .f64 a), .c (.f .f64 b)], [] => some (f (a ()) (b ()), [], [])
  | _, _ => none
def s3F (f : Nat → Nat → Nat → V) : Spec := nspec fun args H => match args, H with
  | [.c (.f .f32 a), .c (.f .f32 b), .c (.f .f32 d)], [] => some (f (a ()) (b ()) (d ()), [], [])
  | _, _ => none
def s3I (f : Int → Int → Int → V) : Spec := nspec fun args H => match args, H with
  | [.c (.i .i64 (.x a)), .c (.i .i64 (.x b)), .c (.i .i64 (.x d))], [] => some (f (a ()) (b ()) (d ()), [], [])
  | _, _ => none
def sA2 (f : Nat → Nat → V) : Spec := nspec fun args H => match args, H with
  | [.a [.f .f32 a, .f .f32 b]], [] => some (f (a ()) (b ()), [], [])
  | _, _ => none
def sA2A2 (f : Nat → Nat → Nat → Nat → V) : Spec := nspec fun args H => match args, H with
  | [.a [.f .f32 a, .f .f32 b], .a [.f .f32 a', .f .f32 b']], [] => some (f (a ()) (b ()) (a' ()) (b' ()), [], [])
  | _, _ => none
def sA4 (f : Nat → Nat → Nat → Nat → V) : Spec := nspec fun args H => match args, H with
  | [.a [.f .f32 a, .f .f32 b, .f .f32 d, .f .f32 e]], [] => some (f (a ()) (b ()) (d ()) (e ()), [], [])
  | _, _ => none
def sP4 (f : Nat → Nat → Nat → Nat → V) : Spec := nspec fun args H => match args, H with
  | [.c (.p 0 (.l 0))], [some ⟨false, 0, .lit [.f .f32 a, .f .f32 b, .f .f32 d, .f .f32 e]⟩] => some (f (a ()) (b ()) (d ()) (e ()), [none], [])
  | _, _ => none
def sPfl (f : (Unit → List Nat) → V) : Spec := nspec fun args H => match args, H with
  | [.c (.p 0 (.l 0))], [some ⟨false, 0, x⟩] => match x.toFl with
    | some l => some (f l, [none], [fun _ => (l ()).length = 4])
    | none => none
  | _, _ => none
def areWet (a b d e : Nat) : Bool := isWet a && isWet b && isWet d && isWet e
def areWetL (l : List Nat) : Bool := areWet (l.getD 0 0) (l.getD 1 0) (l.getD 2 0) (l.getD 3 0)
def sum4 (a b d e : Nat) : Nat := fop .add .f32 (fop .add .f32 (fop .add .f32 a b) d) e
def totalWet (a b d e : Nat) : V := .t [F (if areWet a b d e then sum4 a b d e else 0), vI (if areWet a b d e then 0 else 1)]
def setOff (w p : Nat) : V := .t [F (if isWet w && isPart p then fop .sub .f32 w (mul w p) else 0), F (if isWet w && isPart p then mul w p else 0), vI (if isWet w && isPart p then 0 else 2)]
def dryFor (w r t : Nat) : V := .t [F (if isWet w && isRate r && isRate t then dry w r t else 0), vI (if isWet w && isRate r && isRate t then 0 else 2)]
theorem fn80 : FnOk Try.prog 80 Try.f80 (bodyOf Try.f80) := ⟨Try.func80, rfl, by rfl⟩
theorem ok80 : Ok Try.prog 80 (s3F fun a lo hi => vB (isIn a lo hi)) := ok_of_wpa (E := envGetL []) mixed tts (envOk_nil _) fn80 fun args H v H' o hs ho => by
  try dsimp only at hs
  split at hs
  · cases hs
    refine ⟨_, HLe.refl _, ?_⟩
    cbv
    repeat' first
      | (refine Br.mk (fun h => ?_) (fun h => ?_) <;> cbv)
      | (refine Ob.mk ?_ ?_; rotate_left; cbv)
    all_goals simp_all [BE.val, IE.val, NE.val, isIn]
    all_goals grind
  · cases hs
theorem fn54 : FnOk Try.prog 54 Try.f54 (bodyOf Try.f54) := ⟨Try.func54, rfl, by rfl⟩
def E54 : Env := fun g => envGetL [(80, ⟨true, (s3F fun a lo hi => vB (isIn a lo hi)), none⟩)] g
theorem E54ok : EnvOk Try.prog E54 := envOk_cons ok80 (envOk_nil _)
theorem ok54 : Ok Try.prog 54 (s1F fun a => vB (isWet a)) := ok_of_wpa (E := E54) mixed tts E54ok fn54 fun args H v H' o hs ho => by
  try dsimp only at hs
  split at hs
  · cases hs
    refine ⟨_, HLe.refl _, ?_⟩
    cbv
    repeat' first
      | (refine Br.mk (fun h => ?_) (fun h => ?_) <;> cbv)
      | (refine Ob.mk ?_ ?_; rotate_left; cbv)
    all_goals simp_all [BE.val, IE.val, NE.val, isWet, isIn]
    all_goals grind
  · cases hs
theorem fn56 : FnOk Try.prog 56 Try.f56 (bodyOf Try.f56) := ⟨Try.func56, rfl, by rfl⟩
theorem ok56 : Ok Try.prog 56 (s1F fun a => vB (isWet a)) := ok_of_wpa (E := envGetL []) mixed tts (envOk_nil _) fn56 fun args H v H' o hs ho => by
  try dsimp only at hs
  split at hs
  · cases hs
    refine ⟨_, HLe.refl _, ?_⟩
    cbv
    repeat' first
      | (refine Br.mk (fun h => ?_) (fun h => ?_) <;> cbv)
      | (refine Ob.mk ?_ ?_; rotate_left; cbv)
    all_goals simp_all [BE.val, IE.val, NE.val, isWet, isIn]
    all_goals grind
  · cases hs
theorem fn53 : FnOk Try.prog 53 Try.f53 (bodyOf Try.f53) := ⟨Try.func53, rfl, by rfl⟩
def E53 : Env := fun g => envGetL [(80, ⟨true, (s3F fun a lo hi => vB (isIn a lo hi)), none⟩)] g
theorem E53ok : EnvOk Try.prog E53 := envOk_cons ok80 (envOk_nil _)
theorem ok53 : Ok Try.prog 53 (s1F fun a => vB (isRate a)) := ok_of_wpa (E := E53) mixed tts E53ok fn53 fun args H v H' o hs ho => by
  try dsimp only at hs
  split at hs
  · cases hs
    refine ⟨_, HLe.refl _, ?_⟩
    cbv
    repeat' first
      | (refine Br.mk (fun h => ?_) (fun h => ?_) <;> cbv)
      | (refine Ob.mk ?_ ?_; rotate_left; cbv)
    all_goals simp_all [BE.val, IE.val, NE.val, isRate, isIn]
    all_goals grind
  · cases hs
theorem fn60 : FnOk Try.prog 60 Try.f60 (bodyOf Try.f60) := ⟨Try.func60, rfl, by rfl⟩
theorem ok60 : Ok Try.prog 60 (s1F fun a => vB (isRate a)) := ok_of_wpa (E := envGetL []) mixed tts (envOk_nil _) fn60 fun args H v H' o hs ho => by
  try dsimp only at hs
  split at hs
  · cases hs
    refine ⟨_, HLe.refl _, ?_⟩
    cbv
    repeat' first
      | (refine Br.mk (fun h => ?_) (fun h => ?_) <;> cbv)
      | (refine Ob.mk ?_ ?_; rotate_left; cbv)
    all_goals simp_all [BE.val, IE.val, NE.val, isRate, isIn]
    all_goals grind
  · cases hs
theorem fn58 : FnOk Try.prog 58 Try.f58 (bodyOf Try.f58) := ⟨Try.func58, rfl, by rfl⟩
def E58 : Env := fun g => envGetL [(80, ⟨true, (s3F fun a lo hi => vB (isIn a lo hi)), none⟩)] g
theorem E58ok : EnvOk Try.prog E58 := envOk_cons ok80 (envOk_nil _)
theorem ok58 : Ok Try.prog 58 (s1F fun a => vB (isPart a)) := ok_of_wpa (E := E58) mixed tts E58ok fn58 fun args H v H' o hs ho => by
  try dsimp only at hs
  split at hs
  · cases hs
    refine ⟨_, HLe.refl _, ?_⟩
    cbv
    repeat' first
      | (refine Br.mk (fun h => ?_) (fun h => ?_) <;> cbv)
      | (refine Ob.mk ?_ ?_; rotate_left; cbv)
    all_goals simp_all [BE.val, IE.val, NE.val, isPart, isIn]
    all_goals grind
  · cases hs
theorem fn57 : FnOk Try.prog 57 Try.f57 (bodyOf Try.f57) := ⟨Try.func57, rfl, by rfl⟩
theorem ok57 : Ok Try.prog 57 (s1F fun a => vB (isPart a)) := ok_of_wpa (E := envGetL []) mixed tts (envOk_nil _) fn57 fun args H v H' o hs ho => by
  try dsimp only at hs
  split at hs
  · cases hs
    refine ⟨_, HLe.refl _, ?_⟩
    cbv
    repeat' first
      | (refine Br.mk (fun h => ?_) (fun h => ?_) <;> cbv)
      | (refine Ob.mk ?_ ?_; rotate_left; cbv)
    all_goals simp_all [BE.val, IE.val, NE.val, isPart, isIn]
    all_goals grind
  · cases hs
theorem fn77 : FnOk Try.prog 77 Try.f77 (bodyOf Try.f77) := ⟨Try.func77, rfl, by rfl⟩
def E77 : Env := fun g => envGetL [(80, ⟨true, (s3F fun a lo hi => vB (isIn a lo hi)), none⟩)] g
theorem E77ok : EnvOk Try.prog E77 := envOk_cons ok80 (envOk_nil _)
theorem ok77 : Ok Try.prog 77 (s1F fun a => vB (isFast a)) := ok_of_wpa (E := E77) mixed tts E77ok fn77 fun args H v H' o hs ho => by
  try dsimp only at hs
  split at hs
  · cases hs
    refine ⟨_, HLe.refl _, ?_⟩
    cbv
    repeat' first
      | (refine Br.mk (fun h => ?_) (fun h => ?_) <;> cbv)
      | (refine Ob.mk ?_ ?_; rotate_left; cbv)
    all_goals simp_all [BE.val, IE.val, NE.val, isFast, isIn]
    all_goals grind
  · cases hs
theorem fn74 : FnOk Try.prog 74 Try.f74 (bodyOf Try.f74) := ⟨Try.func74, rfl, by rfl⟩
theorem ok74 : Ok Try.prog 74 (s1F fun a => vB (isFast a)) := ok_of_wpa (E := envGetL []) mixed tts (envOk_nil _) fn74 fun args H v H' o hs ho => by
  try dsimp only at hs
  split at hs
  · cases hs
    refine ⟨_, HLe.refl _, ?_⟩
    cbv
    repeat' first
      | (refine Br.mk (fun h => ?_) (fun h => ?_) <;> cbv)
      | (refine Ob.mk ?_ ?_; rotate_left; cbv)
    all_goals simp_all [BE.val, IE.val, NE.val, isFast, isIn]
    all_goals grind
  · cases hs
theorem fn59 : FnOk Try.prog 59 Try.f59 (bodyOf Try.f59) := ⟨Try.func59, rfl, by rfl⟩
theorem ok59 : Ok Try.prog 59 (s2F fun a b => F (mul a b)) := ok_of_wpa (E := envGetL []) mixed tts (envOk_nil _) fn59 fun args H v H' o hs ho => by
  try dsimp only at hs
  split at hs
  · cases hs
    refine ⟨_, HLe.refl _, ?_⟩
    cbv
    repeat' first
      | (refine Br.mk (fun h => ?_) (fun h => ?_) <;> cbv)
      | (refine Ob.mk ?_ ?_; rotate_left; cbv)
    all_goals simp_all [BE.val, IE.val, NE.val, mul]
    all_goals grind
  · cases hs
theorem fn61 : FnOk Try.prog 61 Try.f61 (bodyOf Try.f61) := ⟨Try.func61, rfl, by rfl⟩
theorem ok61 : Ok Try.prog 61 (s3F fun w r t => F (dry w r t)) := ok_of_wpa (E := envGetL []) mixed tts (envOk_nil _) fn61 fun args H v H' o hs ho => by
  try dsimp only at hs
  split at hs
  · cases hs
    refine ⟨_, HLe.refl _, ?_⟩
    cbv
    repeat' first
      | (refine Br.mk (fun h => ?_) (fun h => ?_) <;> cbv)
      | (refine Ob.mk ?_ ?_; rotate_left; cbv)
    all_goals simp_all [BE.val, IE.val, NE.val, mul, dry]
    all_goals grind
  · cases hs
theorem fn63 : FnOk Try.prog 63 Try.f63 (bodyOf Try.f63) := ⟨Try.func63, rfl, by rfl⟩
def E63 : Env := fun g => envGetL [(59, ⟨true, (s2F fun a b => F (mul a b)), none⟩)] g
theorem E63ok : EnvOk Try.prog E63 := envOk_cons ok59 (envOk_nil _)
theorem ok63 : Ok Try.prog 63 (s3F fun w r t => F (dry w r t)) := ok_of_wpa (E := E63) mixed tts E63ok fn63 fun args H v H' o hs ho => by
  try dsimp only at hs
  split at hs
  · cases hs
    refine ⟨_, HLe.refl _, ?_⟩
    cbv
    repeat' first
      | (refine Br.mk (fun h => ?_) (fun h => ?_) <;> cbv)
      | (refine Ob.mk ?_ ?_; rotate_left; cbv)
    all_goals simp_all [BE.val, IE.val, NE.val, mul, dry]
    all_goals grind
  · cases hs
theorem fn62 : FnOk Try.prog 62 Try.f62 (bodyOf Try.f62) := ⟨Try.func62, rfl, by rfl⟩
def E62 : Env := fun g => envGetL [(53, ⟨true, (s1F fun a => vB (isRate a)), none⟩)] g
theorem E62ok : EnvOk Try.prog E62 := envOk_cons ok53 (envOk_nil _)
theorem ok62 : Ok Try.prog 62 (s2F fun r t => vB (isRate r && isRate t)) := ok_of_wpa (E := E62) mixed tts E62ok fn62 fun args H v H' o hs ho => by
  try dsimp only at hs
  split at hs
  · cases hs
    refine ⟨_, HLe.refl _, ?_⟩
    cbv
    repeat' first
      | (refine Br.mk (fun h => ?_) (fun h => ?_) <;> cbv)
      | (refine Ob.mk ?_ ?_; rotate_left; cbv)
    all_goals simp_all [BE.val, IE.val, NE.val]
  · cases hs
theorem fn64 : FnOk Try.prog 64 Try.f64 (bodyOf Try.f64) := ⟨Try.func64, rfl, by rfl⟩
theorem ok64 : Ok Try.prog 64 (s3I fun n lo hi => vB (inI n lo hi)) := ok_of_wpa (E := envGetL []) mixed tts (envOk_nil _) fn64 fun args H v H' o hs ho => by
  try dsimp only at hs
  split at hs
  · cases hs
    refine ⟨_, HLe.refl _, ?_⟩
    cbv
    repeat' first
      | (refine Br.mk (fun h => ?_) (fun h => ?_) <;> cbv)
      | (refine Ob.mk ?_ ?_; rotate_left; cbv)
    all_goals simp_all [BE.val, IE.val, NE.val, inI]
    all_goals grind
  · cases hs
theorem fn52 : FnOk Try.prog 52 Try.f52 (bodyOf Try.f52) := ⟨Try.func52, rfl, by rfl⟩
def E52 : Env := fun g => envGetL [(60, ⟨true, (s1F fun a => vB (isRate a)), none⟩), (56, ⟨true, (s1F fun a => vB (isWet a)), none⟩)] g
theorem E52ok : EnvOk Try.prog E52 := envOk_cons ok60 (envOk_cons ok56 (envOk_nil _))
theorem ok52 : Ok Try.prog 52 (sA2 fun r l => vB (isRate r && isWet l)) := ok_of_wpa (E := E52) mixed tts E52ok fn52 fun args H v H' o hs ho => by
  try dsimp only at hs
  split at hs
  · cases hs
    refine ⟨_, HLe.refl _, ?_⟩
    cbv
    repeat' first
      | (refine Br.mk (fun h => ?_) (fun h => ?_) <;> cbv)
      | (refine Ob.mk ?_ ?_; rotate_left; cbv)
    all_goals simp_all [BE.val, IE.val, NE.val]
  · cases hs
theorem fn18 : FnOk Try.prog 18 Try.f18 (bodyOf Try.f18) := ⟨Try.func18, rfl, by rfl⟩
def E18 : Env := fun g => envGetL [(53, ⟨true, (s1F fun a => vB (isRate a)), none⟩), (54, ⟨true, (s1F fun a => vB (isWet a)), none⟩)] g
theorem E18ok : EnvOk Try.prog E18 := envOk_cons ok53 (envOk_cons ok54 (envOk_nil _))
theorem ok18 : Ok Try.prog 18 (sA2 fun r l => vB (isRate r && isWet l)) := ok_of_wpa (E := E18) mixed tts E18ok fn18 fun args H v H' o hs ho => by
  try dsimp only at hs
  split at hs
  · cases hs
    refine ⟨_, HLe.refl _, ?_⟩
    cbv
    repeat' first
      | (refine Br.mk (fun h => ?_) (fun h => ?_) <;> cbv)
      | (refine Ob.mk ?_ ?_; rotate_left; cbv)
    all_goals simp_all [BE.val, IE.val, NE.val]
  · cases hs
theorem fn16 : FnOk Try.prog 16 Try.f16 (bodyOf Try.f16) := ⟨Try.func16, rfl, by rfl⟩
def E16 : Env := fun g => envGetL [(52, ⟨true, (sA2 fun r l => vB (isRate r && isWet l)), none⟩)] g
theorem E16ok : EnvOk Try.prog E16 := envOk_cons ok52 (envOk_nil _)
theorem ok16 : Ok Try.prog 16 (sA2 fun r l => vB (isRate r && isWet l)) := ok_of_wpa (E := E16) mixed tts E16ok fn16 fun args H v H' o hs ho => by
  try dsimp only at hs
  split at hs
  · cases hs
    refine ⟨_, HLe.refl _, ?_⟩
    cbv
    repeat' first
      | (refine Br.mk (fun h => ?_) (fun h => ?_) <;> cbv)
      | (refine Ob.mk ?_ ?_; rotate_left; cbv)
    all_goals simp_all [BE.val, IE.val, NE.val]
  · cases hs
theorem fn17 : FnOk Try.prog 17 Try.f17 (bodyOf Try.f17) := ⟨Try.func17, rfl, by rfl⟩
theorem ok17 : Ok Try.prog 17 (sA2 fun r l => .a [.f .f32 fun _ => r, .f .f32 fun _ => l]) := ok_of_wpa (E := envGetL []) mixed tts (envOk_nil _) fn17 fun args H v H' o hs ho => by
  try dsimp only at hs
  split at hs
  · cases hs
    refine ⟨_, HLe.refl _, ?_⟩
    cbv
    repeat' first
      | (refine Br.mk (fun h => ?_) (fun h => ?_) <;> cbv)
      | (refine Ob.mk ?_ ?_; rotate_left; cbv)
    all_goals simp_all [BE.val, IE.val, NE.val]
  · cases hs
theorem fn3 : FnOk Try.prog 3 Try.f3 (bodyOf Try.f3) := ⟨Try.func3, rfl, by rfl⟩
def E3 : Env := fun g => envGetL [(17, ⟨true, (sA2 fun r l => .a [.f .f32 fun _ => r, .f .f32 fun _ => l]), none⟩), (16, ⟨true, (sA2 fun r l => vB (isRate r && isWet l)), none⟩), (18, ⟨true, (sA2 fun r l => vB (isRate r && isWet l)), none⟩)] g
theorem E3ok : EnvOk Try.prog E3 := envOk_cons ok17 (envOk_cons ok16 (envOk_cons ok18 (envOk_nil _)))
theorem ok3 : Ok Try.prog 3 (sA2 fun _ _ => .c (.b (.l true))) := ok_of_wpa (E := E3) mixed tts E3ok fn3 fun args H v H' o hs ho => by
  try dsimp only at hs
  split at hs
  · cases hs
    refine ⟨_, HLe.refl _, ?_⟩
    cbv
    repeat' first
      | (refine Br.mk (fun h => ?_) (fun h => ?_) <;> cbv)
      | (refine Ob.mk ?_ ?_; rotate_left; cbv)
    all_goals simp_all [BE.val, IE.val, NE.val]
  · cases hs
theorem fn20 : FnOk Try.prog 20 Try.f20 (bodyOf Try.f20) := ⟨Try.func20, rfl, by rfl⟩
theorem ok20 : Ok Try.prog 20 (sA4 fun a b d e => .a [.f .f32 fun _ => a, .f .f32 fun _ => b, .f .f32 fun _ => d, .f .f32 fun _ => e]) := ok_of_wpa (E := envGetL []) mixed tts (envOk_nil _) fn20 fun args H v H' o hs ho => by
  try dsimp only at hs
  split at hs
  · cases hs
    refine ⟨_, HLe.refl _, ?_⟩
    cbv
    repeat' first
      | (refine Br.mk (fun h => ?_) (fun h => ?_) <;> cbv)
      | (refine Ob.mk ?_ ?_; rotate_left; cbv)
      | (refine Loop.mk 70 ?_; cbv)
      | (refine Gen.same ?_; cbv)
    all_goals simp_all [BE.val, IE.val, NE.val]
  · cases hs
theorem fn55 : FnOk Try.prog 55 Try.f55 (bodyOf Try.f55) := ⟨Try.func55, rfl, by rfl⟩
def E55 : Env := fun g => envGetL [(56, ⟨true, (s1F fun a => vB (isWet a)), none⟩)] g
theorem E55ok : EnvOk Try.prog E55 := envOk_cons ok56 (envOk_nil _)
theorem ok55 : Ok Try.prog 55 (sPfl fun l => vB (areWetL (l ()))) := ok_of_wpa (E := E55) mixed tts E55ok fn55 fun args H v H' o hs ho => by
  split at hs
  · split at hs
    · rename_i l hl
      cases hs
      have h4 : (l ()).length = 4 := ho.one
      refine ⟨_, HLe.cons (BLe.fl hl) HLe.nil, ?_⟩
      cbv
      repeat' first
        | (refine Br.mk (fun h => ?_) (fun h => ?_) <;> cbv)
        | (refine Ob.mk ?_ ?_; rotate_left; cbv)
      all_goals simp_all [BE.val, IE.val, NE.val, areWet, areWetL]
    · cases hs
  · cases hs
theorem fn19 : FnOk Try.prog 19 Try.f19 (bodyOf Try.f19) := ⟨Try.func19, rfl, by rfl⟩
def E19 : Env := fun g => envGetL [(55, ⟨true, (sPfl fun l => vB (areWetL (l ()))), none⟩)] g
theorem E19ok : EnvOk Try.prog E19 := envOk_cons ok55 (envOk_nil _)
theorem ok19 : Ok Try.prog 19 (sA4 fun a b d e => vB (areWet a b d e)) := ok_of_wpa (E := E19) mixed tts E19ok fn19 fun args H v H' o hs ho => by
  try dsimp only at hs
  split at hs
  · cases hs
    refine ⟨_, HLe.refl _, ?_⟩
    cbv
    repeat' first
      | (refine Br.mk (fun h => ?_) (fun h => ?_) <;> cbv)
      | (refine Ob.mk ?_ ?_; rotate_left; cbv)
    all_goals simp_all [BE.val, IE.val, NE.val, areWet, areWetL, forced]
  · cases hs
theorem fn21 : FnOk Try.prog 21 Try.f21 (bodyOf Try.f21) := ⟨Try.func21, rfl, by rfl⟩
def E21 : Env := fun g => envGetL [(54, ⟨true, (s1F fun a => vB (isWet a)), none⟩)] g
theorem E21ok : EnvOk Try.prog E21 := envOk_cons ok54 (envOk_nil _)
theorem ok21 : Ok Try.prog 21 (sA4 fun a b d e => vB (areWet a b d e)) := ok_of_wpa (E := E21) mixed tts E21ok fn21 fun args H v H' o hs ho => by
  try dsimp only at hs
  split at hs
  · cases hs
    refine ⟨_, HLe.refl _, ?_⟩
    cbv
    repeat' first
      | (refine Br.mk (fun h => ?_) (fun h => ?_) <;> cbv)
      | (refine Ob.mk ?_ ?_; rotate_left; cbv)
      | (refine Loop.mk 70 ?_; cbv)
      | (refine Gen.same ?_; cbv)
    all_goals simp_all [BE.val, IE.val, NE.val, areWet]
    all_goals grind
  · cases hs
theorem fn4 : FnOk Try.prog 4 Try.f4 (bodyOf Try.f4) := ⟨Try.func4, rfl, by rfl⟩
def E4 : Env := fun g => envGetL [(20, ⟨true, (sA4 fun a b d e => .a [.f .f32 fun _ => a, .f .f32 fun _ => b, .f .f32 fun _ => d, .f .f32 fun _ => e]), none⟩), (19, ⟨true, (sA4 fun a b d e => vB (areWet a b d e)), none⟩), (21, ⟨true, (sA4 fun a b d e => vB (areWet a b d e)), none⟩)] g
theorem E4ok : EnvOk Try.prog E4 := envOk_cons ok20 (envOk_cons ok19 (envOk_cons ok21 (envOk_nil _)))
theorem ok4 : Ok Try.prog 4 (sA4 fun _ _ _ _ => .c (.b (.l true))) := ok_of_wpa (E := E4) mixed tts E4ok fn4 fun args H v H' o hs ho => by
  try dsimp only at hs
  split at hs
  · cases hs
    refine ⟨_, HLe.refl _, ?_⟩
    cbv
    repeat' first
      | (refine Br.mk (fun h => ?_) (fun h => ?_) <;> cbv)
      | (refine Ob.mk ?_ ?_; rotate_left; cbv)
    all_goals simp_all [BE.val, IE.val, NE.val]
  · cases hs
theorem fn24 : FnOk Try.prog 24 Try.f24 (bodyOf Try.f24) := ⟨Try.func24, rfl, by rfl⟩
theorem ok24 : Ok Try.prog 24 (s2D fun a b => vB (sameF a b)) := ok_of_wpa (E := envGetL []) mixed tts (envOk_nil _) fn24 fun args H v H' o hs ho => by
  try dsimp only at hs
  split at hs
  · cases hs
    refine ⟨_, HLe.refl _, ?_⟩
    cbv
    repeat' first
      | (refine Br.mk (fun h => ?_) (fun h => ?_) <;> cbv)
      | (refine Ob.mk ?_ ?_; rotate_left; cbv)
    all_goals simp_all [BE.val, IE.val, NE.val, sameF]
    all_goals grind
  · cases hs
theorem fn22 : FnOk Try.prog 22 Try.f22 (bodyOf Try.f22) := ⟨Try.func22, rfl, by rfl⟩
def E22 : Env := fun g => envGetL [(56, ⟨true, (s1F fun a => vB (isWet a)), none⟩), (57, ⟨true, (s1F fun a => vB (isPart a)), none⟩)] g
theorem E22ok : EnvOk Try.prog E22 := envOk_cons ok56 (envOk_cons ok57 (envOk_nil _))
theorem ok22 : Ok Try.prog 22 (s2F setOff) := ok_of_wpa (E := E22) mixed tts E22ok fn22 fun args H v H' o hs ho => by
  try dsimp only at hs
  split at hs
  · cases hs
    refine ⟨_, HLe.refl _, ?_⟩
    cbv
    repeat' first
      | (refine Br.mk (fun h => ?_) (fun h => ?_) <;> cbv)
      | (refine Ob.mk ?_ ?_; rotate_left; cbv)
    all_goals simp_all [BE.val, IE.val, NE.val, setOff, mul]
    all_goals grind
  · cases hs
theorem fn23 : FnOk Try.prog 23 Try.f23 (bodyOf Try.f23) := ⟨Try.func23, rfl, by rfl⟩
def E23 : Env := fun g => envGetL [(54, ⟨true, (s1F fun a => vB (isWet a)), none⟩), (58, ⟨true, (s1F fun a => vB (isPart a)), none⟩), (59, ⟨true, (s2F fun a b => F (mul a b)), none⟩)] g
theorem E23ok : EnvOk Try.prog E23 := envOk_cons ok54 (envOk_cons ok58 (envOk_cons ok59 (envOk_nil _)))
theorem ok23 : Ok Try.prog 23 (s2F setOff) := ok_of_wpa (E := E23) mixed tts E23ok fn23 fun args H v H' o hs ho => by
  try dsimp only at hs
  split at hs
  · cases hs
    refine ⟨_, HLe.refl _, ?_⟩
    cbv
    repeat' first
      | (refine Br.mk (fun h => ?_) (fun h => ?_) <;> cbv)
      | (refine Ob.mk ?_ ?_; rotate_left; cbv)
    all_goals simp_all [BE.val, IE.val, NE.val, setOff, mul]
    all_goals grind
  · cases hs
theorem fn5 : FnOk Try.prog 5 Try.f5 (bodyOf Try.f5) := ⟨Try.func5, rfl, by rfl⟩
def E5 : Env := fun g => envGetL [(22, ⟨true, (s2F setOff), none⟩), (23, ⟨true, (s2F setOff), none⟩), (24, ⟨true, (s2D fun a b => vB (sameF a b)), none⟩)] g
theorem E5ok : EnvOk Try.prog E5 := envOk_cons ok22 (envOk_cons ok23 (envOk_cons ok24 (envOk_nil _)))
theorem ok5 : Ok Try.prog 5 (s2F fun _ _ => .c (.b (.l true))) := ok_of_wpa (E := E5) mixed tts E5ok fn5 fun args H v H' o hs ho => by
  try dsimp only at hs
  split at hs
  · cases hs
    refine ⟨_, HLe.refl _, ?_⟩
    cbv
    repeat' first
      | (refine Br.mk (fun h => ?_) (fun h => ?_) <;> cbv)
      | (refine Ob.mk ?_ ?_; rotate_left; cbv)
    all_goals simp_all [BE.val, IE.val, NE.val, sameF_refl]
  · cases hs
theorem fn25 : FnOk Try.prog 25 Try.f25 (bodyOf Try.f25) := ⟨Try.func25, rfl, by rfl⟩
def E25 : Env := fun g => envGetL [(56, ⟨true, (s1F fun a => vB (isWet a)), none⟩), (60, ⟨true, (s1F fun a => vB (isRate a)), none⟩), (61, ⟨true, (s3F fun w r t => F (dry w r t)), none⟩)] g
theorem E25ok : EnvOk Try.prog E25 := envOk_cons ok56 (envOk_cons ok60 (envOk_cons ok61 (envOk_nil _)))
theorem ok25 : Ok Try.prog 25 (s3F dryFor) := ok_of_wpa (E := E25) mixed tts E25ok fn25 fun args H v H' o hs ho => by
  try dsimp only at hs
  split at hs
  · cases hs
    refine ⟨_, HLe.refl _, ?_⟩
    cbv
    repeat' first
      | (refine Br.mk (fun h => ?_) (fun h => ?_) <;> cbv)
      | (refine Ob.mk ?_ ?_; rotate_left; cbv)
    all_goals simp_all [BE.val, IE.val, NE.val, dryFor]
    all_goals grind
  · cases hs
theorem fn26 : FnOk Try.prog 26 Try.f26 (bodyOf Try.f26) := ⟨Try.func26, rfl, by rfl⟩
def E26 : Env := fun g => envGetL [(54, ⟨true, (s1F fun a => vB (isWet a)), none⟩), (62, ⟨true, (s2F fun r t => vB (isRate r && isRate t)), none⟩), (63, ⟨true, (s3F fun w r t => F (dry w r t)), none⟩)] g
theorem E26ok : EnvOk Try.prog E26 := envOk_cons ok54 (envOk_cons ok62 (envOk_cons ok63 (envOk_nil _)))
theorem ok26 : Ok Try.prog 26 (s3F dryFor) := ok_of_wpa (E := E26) mixed tts E26ok fn26 fun args H v H' o hs ho => by
  try dsimp only at hs
  split at hs
  · cases hs
    refine ⟨_, HLe.refl _, ?_⟩
    cbv
    repeat' first
      | (refine Br.mk (fun h => ?_) (fun h => ?_) <;> cbv)
      | (refine Ob.mk ?_ ?_; rotate_left; cbv)
    all_goals simp_all [BE.val, IE.val, NE.val, dryFor]
    all_goals grind
  · cases hs
theorem fn6 : FnOk Try.prog 6 Try.f6 (bodyOf Try.f6) := ⟨Try.func6, rfl, by rfl⟩
def E6 : Env := fun g => envGetL [(25, ⟨true, (s3F dryFor), none⟩), (26, ⟨true, (s3F dryFor), none⟩), (24, ⟨true, (s2D fun a b => vB (sameF a b)), none⟩)] g
theorem E6ok : EnvOk Try.prog E6 := envOk_cons ok25 (envOk_cons ok26 (envOk_cons ok24 (envOk_nil _)))
theorem ok6 : Ok Try.prog 6 (s3F fun _ _ _ => .c (.b (.l true))) := ok_of_wpa (E := E6) mixed tts E6ok fn6 fun args H v H' o hs ho => by
  try dsimp only at hs
  split at hs
  · cases hs
    refine ⟨_, HLe.refl _, ?_⟩
    cbv
    repeat' first
      | (refine Br.mk (fun h => ?_) (fun h => ?_) <;> cbv)
      | (refine Ob.mk ?_ ?_; rotate_left; cbv)
    all_goals simp_all [BE.val, IE.val, NE.val, sameF_refl]
  · cases hs
def steps (r t lim : Nat) : Nat → Int → Nat → Int × Int
  | 0, _, _ => (0, 6)
  | k + 1, n, wet => if fcmp .leq .f32 wet lim then (n, 0) else steps r t lim k (n + 1) (dry wet r t)
def stepsToDry (w r t lim : Nat) (most : Int) : Int × Int :=
  if isWet w && isRate r && isRate t && isWet lim && inI most 0 1000 then steps r t lim (most + 1).toNat 0 w else (0, 2)
def s4FI (f : Nat → Nat → Nat → Nat → Int → V) : Spec := nspec fun args H => match args, H with
  | [.c (.f .f32 a), .c (.f .f32 b), .c (.f .f32 d), .c (.f .f32 e), .c (.i .i64 (.x n))], [] => some (f (a ()) (b ()) (d ()) (e ()) (n ()), [], [])
  | _, _ => none
theorem steps_go {r t lim : Nat} {most n : Int} {wet : Nat} (h : n ≤ most) : steps r t lim (most + 1 - n).toNat n wet = if fcmp .leq .f32 wet lim then (n, 0) else steps r t lim (most + 1 - (n + 1)).toNat (n + 1) (dry wet r t) := by
  have : (most + 1 - n).toNat = (most + 1 - (n + 1)).toNat + 1 := by omega
  rw [this, steps]
theorem steps_end {r t lim : Nat} {most n : Int} {wet : Nat} (h : ¬ n ≤ most) : steps r t lim (most + 1 - n).toNat n wet = (0, 6) := by
  have : (most + 1 - n).toNat = 0 := by omega
  rw [this, steps]
theorem inI_iff {n lo hi : Int} : inI n lo hi = true ↔ lo ≤ n ∧ n ≤ hi := by simp [inI, leB]
theorem leB_iff {a b : Int} : leB a b = true ↔ a ≤ b := by simp [leB]
theorem ltB_iff {a b : Int} : ltB a b = true ↔ a < b := by simp [ltB]
theorem leB_no {a b : Int} : leB a b = false ↔ ¬ a ≤ b := by simp [leB]
theorem ltB_no {a b : Int} : ltB a b = false ↔ ¬ a < b := by simp [ltB]
theorem fn27 : FnOk Try.prog 27 Try.f27 (bodyOf Try.f27) := ⟨Try.func27, rfl, by rfl⟩
def E27 : Env := fun g => envGetL [(56, ⟨true, (s1F fun a => vB (isWet a)), none⟩), (60, ⟨true, (s1F fun a => vB (isRate a)), none⟩), (64, ⟨true, (s3I fun n lo hi => vB (inI n lo hi)), none⟩), (61, ⟨true, (s3F fun w r t => F (dry w r t)), none⟩)] g
theorem E27ok : EnvOk Try.prog E27 := envOk_cons ok56 (envOk_cons ok60 (envOk_cons ok64 (envOk_cons ok61 (envOk_nil _))))
theorem ok27 : Ok Try.prog 27 (s4FI fun w r t lim most => .t [vI (stepsToDry w r t lim most).1, vI (stepsToDry w r t lim most).2]) := ok_of_wpa (E := E27) mixed tts E27ok fn27 fun args H v H' o hs ho => by
  split at hs
  · rename_i w r t lim most
    cases hs
    refine ⟨_, HLe.refl _, ?_⟩
    cbv
    repeat' first
      | (refine Br.mk (fun h => ?_) (fun h => ?_) <;> cbv)
      | (refine Ob.mk ?_ ?_; rotate_left; cbv)
    all_goals try (simp_all [BE.val, IE.val, NE.val, stepsToDry]; done)
    simp only [Bool.not_eq_false', inI_iff, IE.val] at *
    have hsp : stepsToDry (w ()) (r ()) (t ()) (lim ()) (most ()) = steps (r ()) (t ()) (lim ()) (most () + 1).toNat 0 (w ()) := by
      simp_all [stepsToDry, inI_iff]
    refine loop_rule (α := (Unit → Int) × (Unit → Nat)) (c := ⟨tt, E27, 0⟩)
      (fun s => fr 49 [(0, .c (.f .f32 s.2)), (1, .c (.f .f32 r)), (2, .c (.f .f32 t)), (3, .c (.f .f32 lim)), (4, .c (.i .i64 (.x most))), (12, .c (.i .i64 (.x s.1)))]) (fun _ => [])
      (fun s => 0 ≤ s.1 () ∧ s.1 () ≤ most () + 1 ∧ steps (r ()) (t ()) (lim ()) (most () + 1).toNat 0 (w ()) = steps (r ()) (t ()) (lim ()) (most () + 1 - s.1 ()).toNat (s.1 ()) (s.2 ()))
      (fun s => (most () + 1 - s.1 ()).toNat) (fun _ => (most () + 2).toNat) ?_ ?_
    · refine .mk (fun _ => 0, w) ⟨Int.le_refl _, by dsimp only; omega, by simp⟩ (by dsimp only; omega) ?_
      cbv
      repeat' (refine Ob.mk ?_ ?_; rotate_left)
      all_goals first | rfl | trivial
    · rintro ⟨n, wet⟩ ⟨k1, k2, k3⟩
      dsimp only at k1 k2 k3
      rw [← hsp] at k3
      cbv
      repeat' first
        | (refine Br.mk (fun h => ?_) (fun h => ?_) <;> cbv)
        | (refine Ob.mk ?_ ?_; rotate_left; cbv)
        | (refine Next.mk (fun _ => n () + 1, fun _ => dry (wet ()) (r ()) (t ())) ?_ ?_ ?_)
      all_goals simp only [BE.val, IE.val, NE.val, leB_iff, leB_no] at *
      all_goals first | rfl | omega | grind [steps_go, steps_end, wrap64]
  · cases hs
theorem fn28 : FnOk Try.prog 28 Try.f28 (bodyOf Try.f28) := ⟨Try.func28, rfl, by rfl⟩
def E28 : Env := fun g => envGetL [(54, ⟨true, (s1F fun a => vB (isWet a)), none⟩), (62, ⟨true, (s2F fun r t => vB (isRate r && isRate t)), none⟩), (63, ⟨true, (s3F fun w r t => F (dry w r t)), none⟩)] g
theorem E28ok : EnvOk Try.prog E28 := envOk_cons ok54 (envOk_cons ok62 (envOk_cons ok63 (envOk_nil _)))
theorem ok28 : Ok Try.prog 28 (s4FI fun w r t lim most => .t [vI (stepsToDry w r t lim most).1, vI (stepsToDry w r t lim most).2]) := ok_of_wpa (E := E28) mixed tts E28ok fn28 fun args H v H' o hs ho => by
  split at hs
  · rename_i w r t lim most
    cases hs
    refine ⟨_, HLe.refl _, ?_⟩
    cbv
    repeat' first
      | (refine Br.mk (fun h => ?_) (fun h => ?_) <;> cbv)
      | (refine Ob.mk ?_ ?_; rotate_left; cbv)
    all_goals try (simp_all [BE.val, IE.val, NE.val, stepsToDry]; done)
    all_goals try (simp only [BE.val, IE.val, NE.val] at *; grind [stepsToDry, inI, leB, ltB])
    simp only [Bool.not_eq_false', inI_iff, IE.val, ltB_no, Bool.and_eq_true] at *
    have hsp : stepsToDry (w ()) (r ()) (t ()) (lim ()) (most ()) = steps (r ()) (t ()) (lim ()) (most () + 1).toNat 0 (w ()) := by
      grind [stepsToDry, inI, leB]
    refine loop_rule (α := (Unit → Int) × (Unit → Nat)) (c := ⟨tt, E28, 0⟩)
      (fun s => fr 48 [(0, .c (.f .f32 s.2)), (1, .c (.f .f32 r)), (2, .c (.f .f32 t)), (3, .c (.f .f32 lim)), (4, .c (.i .i64 (.x most))), (12, .c (.i .i64 (.x s.1)))]) (fun _ => [])
      (fun s => 0 ≤ s.1 () ∧ s.1 () ≤ most () + 1 ∧ steps (r ()) (t ()) (lim ()) (most () + 1).toNat 0 (w ()) = steps (r ()) (t ()) (lim ()) (most () + 1 - s.1 ()).toNat (s.1 ()) (s.2 ()))
      (fun s => (most () + 1 - s.1 ()).toNat) (fun _ => (most () + 2).toNat) ?_ ?_
    · refine .mk (fun _ => 0, w) ⟨Int.le_refl _, by dsimp only; omega, by simp⟩ (by dsimp only; omega) ?_
      cbv
      repeat' (refine Ob.mk ?_ ?_; rotate_left)
      all_goals first | rfl | trivial
    · rintro ⟨n, wet⟩ ⟨k1, k2, k3⟩
      dsimp only at k1 k2 k3
      rw [← hsp] at k3
      cbv
      repeat' first
        | (refine Br.mk (fun h => ?_) (fun h => ?_) <;> cbv)
        | (refine Ob.mk ?_ ?_; rotate_left; cbv)
        | (refine Next.mk (fun _ => n () + 1, fun _ => dry (wet ()) (r ()) (t ())) ?_ ?_ ?_)
      all_goals simp only [BE.val, IE.val, NE.val, leB_iff, leB_no] at *
      all_goals first | rfl | omega | grind [steps_go, steps_end, wrap64]
  · cases hs
theorem fn7 : FnOk Try.prog 7 Try.f7 (bodyOf Try.f7) := ⟨Try.func7, rfl, by rfl⟩
def E7 : Env := fun g => envGetL [(27, ⟨true, (s4FI fun w r t lim most => .t [vI (stepsToDry w r t lim most).1, vI (stepsToDry w r t lim most).2]), none⟩), (28, ⟨true, (s4FI fun w r t lim most => .t [vI (stepsToDry w r t lim most).1, vI (stepsToDry w r t lim most).2]), none⟩)] g
theorem E7ok : EnvOk Try.prog E7 := envOk_cons ok27 (envOk_cons ok28 (envOk_nil _))
theorem ok7 : Ok Try.prog 7 (s4FI fun _ _ _ _ _ => .c (.b (.l true))) := ok_of_wpa (E := E7) mixed tts E7ok fn7 fun args H v H' o hs ho => by
  try dsimp only at hs
  split at hs
  · cases hs
    refine ⟨_, HLe.refl _, ?_⟩
    cbv
    repeat' first
      | (refine Br.mk (fun h => ?_) (fun h => ?_) <;> cbv)
      | (refine Ob.mk ?_ ?_; rotate_left; cbv)
    all_goals simp_all [BE.val, IE.val, NE.val, sameF_refl]
  · cases hs
end Go.Proofs.Ytljemkijpbfcaaa.Sh
