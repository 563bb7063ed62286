/- What numbers and webs of this seat compute, each shown once. No condition. -/
import Derived.Test.YthkjlbggipocdaaShB
import Derived.Test.YthkjlbggipocdaaProg
set_option linter.unusedVariables false
set_option linter.unusedSimpArgs false
set_option linter.unusedSectionVars false
namespace Go.Proofs.Ythkjlbggipocdaa.Sh
open Go Go.Proofs
def ttl : TTL := [
  (2, ⟨1, 8, .cell, [.i .i64 (.l 0)], some (.inl .i64)⟩),
  (3, ⟨1, 8, .cell, [.i .i64 (.l 0)], some (.inl .i64)⟩),
  (4, ⟨1, 1, .bool, [.b (.l false)], none⟩),
  (5, ⟨1, 1, .cell, [.i .u8 (.l 0)], some (.inl .u8)⟩),
  (6, ⟨1, 1, .cell, [.i .u8 (.l 0)], some (.inl .u8)⟩),
  (7, ⟨4, 24, .st [(0, 2), (1, 3), (2, 4), (3, 6)], [.i .i64 (.l 0), .i .i64 (.l 0), .b (.l false), .i .u8 (.l 0)], none⟩),
  (8, ⟨4, 24, .st [(0, 2), (1, 3), (2, 4), (3, 6)], [.i .i64 (.l 0), .i .i64 (.l 0), .b (.l false), .i .u8 (.l 0)], none⟩),
  (9, ⟨1, 16, .str, [.s fun _ => .empty], none⟩),
  (10, ⟨1, 16, .str, [.s fun _ => .empty], none⟩),
  (11, ⟨1, 16, .str, [.s fun _ => .empty], none⟩),
  (12, ⟨1, 8, .cell, [.i .u64 (.l 0)], some (.inl .u64)⟩),
  (13, ⟨2, 24, .st [(0, 9), (1, 12)], [.s fun _ => .empty, .i .u64 (.l 0)], none⟩),
  (14, ⟨2, 24, .st [(0, 9), (1, 12)], [.s fun _ => .empty, .i .u64 (.l 0)], none⟩),
  (15, ⟨1, 8, .cell, [.pn], none⟩),
  (16, ⟨1, 8, .cell, [.pn], none⟩),
  (17, ⟨1, 8, .cell, [.pn], none⟩),
  (18, ⟨1, 8, .st [(0, 17)], [.pn], none⟩),
  (19, ⟨1, 8, .st [(0, 17)], [.pn], none⟩),
  (21, ⟨1, 4, .cell, [.i .i32 (.l 0)], some (.inl .i32)⟩),
  (22, ⟨1, 24, .sl 5, [.sn], none⟩),
  (24, ⟨1, 4, .cell, [.f .f32 fun _ => 0], some (.inr .f32)⟩),
  (25, ⟨1, 24, .sl 42, [.sn], none⟩),
  (26, ⟨4, 40, .st [(0, 24), (1, 24), (2, 24), (3, 25)], [.f .f32 fun _ => 0, .f .f32 fun _ => 0, .f .f32 fun _ => 0, .sn], none⟩),
  (27, ⟨4, 40, .st [(0, 24), (1, 24), (2, 24), (3, 25)], [.f .f32 fun _ => 0, .f .f32 fun _ => 0, .f .f32 fun _ => 0, .sn], none⟩),
  (30, ⟨1, 24, .sl 24, [.sn], none⟩),
  (41, ⟨3, 12, .st [(0, 24), (1, 24), (2, 24)], [.f .f32 fun _ => 0, .f .f32 fun _ => 0, .f .f32 fun _ => 0], none⟩),
  (42, ⟨3, 12, .st [(0, 24), (1, 24), (2, 24)], [.f .f32 fun _ => 0, .f .f32 fun _ => 0, .f .f32 fun _ => 0], none⟩),
  (45, ⟨1, 24, .sl 2, [.sn], none⟩),
  (55, ⟨1, 24, .sl 130, [.sn], none⟩),
  (56, ⟨4, 40, .st [(0, 24), (1, 24), (2, 24), (3, 55)], [.f .f32 fun _ => 0, .f .f32 fun _ => 0, .f .f32 fun _ => 0, .sn], none⟩),
  (57, ⟨4, 40, .st [(0, 24), (1, 24), (2, 24), (3, 55)], [.f .f32 fun _ => 0, .f .f32 fun _ => 0, .f .f32 fun _ => 0, .sn], none⟩),
  (64, ⟨1, 8, .cell, [.f .f64 fun _ => 0], some (.inr .f64)⟩),
  (82, ⟨1, 8, .cell, [.pn], none⟩),
  (88, ⟨1, 8, .cell, [.pn], none⟩),
  (117, ⟨1, 8, .cell, [.pn], none⟩),
  (122, ⟨1, 8, .cell, [.i .u64 (.l 0)], some (.inl .u64)⟩),
  (123, ⟨3, 40, .st [(0, 22), (1, 3), (2, 122)], [.sn, .i .i64 (.l 0), .i .u64 (.l 0)], none⟩),
  (124, ⟨3, 40, .st [(0, 22), (1, 3), (2, 122)], [.sn, .i .i64 (.l 0), .i .u64 (.l 0)], none⟩),
  (127, ⟨1, 4, .cell, [.i .u32 (.l 0)], some (.inl .u32)⟩),
  (130, ⟨3, 12, .st [(0, 24), (1, 24), (2, 24)], [.f .f32 fun _ => 0, .f .f32 fun _ => 0, .f .f32 fun _ => 0], none⟩),
  (132, ⟨1, 8, .cell, [.i .u64 (.l 0)], some (.inl .u64)⟩),
  (138, ⟨4, 40, .st [(0, 17), (1, 17), (2, 17), (3, 9)], [.pn, .pn, .pn, .s fun _ => .empty], none⟩),
  (139, ⟨4, 40, .st [(0, 17), (1, 17), (2, 17), (3, 9)], [.pn, .pn, .pn, .s fun _ => .empty], none⟩),
  (140, ⟨0, 0, .ar 0 16, [], none⟩),
  (141, ⟨0, 0, .st [(0, 140)], [], none⟩),
  (142, ⟨0, 0, .st [(0, 140)], [], none⟩),
  (144, ⟨1, 1, .cell, [.i .u8 (.l 0)], some (.inl .u8)⟩),
  (145, ⟨1, 1, .cell, [.i .u8 (.l 0)], some (.inl .u8)⟩),
  (147, ⟨1, 8, .cell, [.pn], none⟩),
  (148, ⟨1, 4, .cell, [.i .i32 (.l 0)], some (.inl .i32)⟩),
  (149, ⟨1, 4, .cell, [.i .i32 (.l 0)], some (.inl .i32)⟩),
  (150, ⟨11, 48, .st [(0, 12), (1, 12), (2, 127), (3, 144), (4, 5), (5, 5), (6, 145), (7, 146), (8, 147), (9, 148), (10, 149)], [.i .u64 (.l 0), .i .u64 (.l 0), .i .u32 (.l 0), .i .u8 (.l 0), .i .u8 (.l 0), .i .u8 (.l 0), .i .u8 (.l 0), .fnn, .pn, .i .i32 (.l 0), .i .i32 (.l 0)], none⟩),
  (151, ⟨11, 48, .st [(0, 12), (1, 12), (2, 127), (3, 144), (4, 5), (5, 5), (6, 145), (7, 146), (8, 147), (9, 148), (10, 149)], [.i .u64 (.l 0), .i .u64 (.l 0), .i .u32 (.l 0), .i .u8 (.l 0), .i .u8 (.l 0), .i .u8 (.l 0), .i .u8 (.l 0), .fnn, .pn, .i .i32 (.l 0), .i .i32 (.l 0)], none⟩)]
def tt : TT := fun t => ttGetL ttl t
theorem tts : TtOk Try.prog tt := ttOk_list (l := ttl) (by kernel_rfl)
theorem mixed : Try.prog.follows .mixedOrders = true := by kernel_rfl
def bodyOf (f : Func) : Code := f.body.getD .skip
abbrev F (x : Nat) : V := .c (.f .f32 fun _ => x)
abbrev vB (x : Bool) : V := .c (.b (.x fun _ => x))
abbrev vI (x : Int) : V := .c (.i .i64 (.x fun _ => x))
def isIn (a lo hi : Nat) : Bool := fcmp .geq .f32 a lo && fcmp .leq .f32 a hi
def inI (n lo hi : Int) : Bool := leB lo n && leB n hi
theorem ltB_iff {a b : Int} : ltB a b = true ↔ a < b := by simp [ltB]
theorem ltB_no {a b : Int} : ltB a b = false ↔ ¬ a < b := by simp [ltB]
theorem leB_iff {a b : Int} : leB a b = true ↔ a ≤ b := by simp [leB]
theorem leB_no {a b : Int} : leB a b = false ↔ ¬ a ≤ b := by simp [leB]
theorem inI_iff {n lo hi : Int} : inI n lo hi = true ↔ lo ≤ n ∧ n ≤ hi := by simp [inI, leB]
def isSpd (a : Nat) : Bool := isIn a 1031798784 1149239296
def isPlain (a : Nat) : Bool := isIn a 3380609024 1233125376
def isStiff (a : Nat) : Bool := isIn a 1065353216 1233125376
def isFeed (a : Nat) : Bool := isIn a 3296722944 1149239296
def isTime (a : Nat) : Bool := isIn a 0 1149239296
def isFilm (a : Nat) : Bool := isIn a 0 1233125376
def mul (a b : Nat) : Nat := fop .mul .f32 a b
def cv (a : Nat) : Nat := (floatToFloatBits .f32 a .f64).getD (qn .f64)
def sameF (a b : Nat) : Bool :=
  if fcmp .neq .f64 a a || fcmp .neq .f64 b b then fcmp .neq .f64 a a && fcmp .neq .f64 b b
  else if fcmp .eql .f64 a 0 && fcmp .eql .f64 b 0 then fcmp .gtr .f64 (fop .quo .f64 4607182418800017408 a) 0 == fcmp .gtr .f64 (fop .quo .f64 4607182418800017408 b) 0
  else fcmp .eql .f64 a b
theorem sameF_refl (a : Nat) : sameF a a = true := by
  unfold sameF fcmp
  cases h : FloatKind.f64.format.order a a <;> simp
  rename_i o
  cases o <;> simp
/-- for all smaller ones -/
def allI (p : Nat → Bool) : Nat → Bool
  | 0 => true
  | k + 1 => allI p k && p k
theorem allI_at {p : Nat → Bool} : ∀ {n i : Nat}, allI p n = true → i < n → p i = true
  | n + 1, i, h, hi => by
    simp only [allI, Bool.and_eq_true] at h
    by_cases e : i = n
    · subst e; simpa using h.2
    · exact allI_at h.1 (by omega)
theorem allI_no {p : Nat → Bool} {n i : Nat} (h : i < n) (hp : p i = false) : allI p n = false := by
  cases e : allI p n
  · rfl
  · rw [allI_at e h] at hp; cases hp
theorem allI_all {p : Nat → Bool} : ∀ {n : Nat}, (∀ i, i < n → p i = true) → allI p n = true
  | 0, _ => rfl
  | n + 1, h => by simp [allI, allI_all (n := n) (fun i hi => h i (by omega)), h n (by omega)]
/-- cells that are written from the front -/
def fillTo (f : Nat → Nat) (l : List Nat) (m : Nat) : List Nat := (List.range m).map f ++ l.drop m
theorem fillTo_len (f : Nat → Nat) (l : List Nat) {m : Nat} (h : m ≤ l.length) : (fillTo f l m).length = l.length := by simp [fillTo]; omega
theorem fillTo_zero (f : Nat → Nat) (l : List Nat) : fillTo f l 0 = l := by simp [fillTo]
theorem fillTo_set (f : Nat → Nat) (l : List Nat) {m : Nat} (h : m < l.length) : (fillTo f l m).set m (f m) = fillTo f l (m + 1) := by
  unfold fillTo
  rw [List.set_append_right _ _ (by simp)]
  simp only [List.length_map, List.length_range, Nat.sub_self]
  have e : (l.drop m).set 0 (f m) = f m :: l.drop (m + 1) := by rw [List.drop_eq_getElem_cons h]; rfl
  rw [e]
  simp [List.range_succ]
theorem fillTo_lo (f : Nat → Nat) (l : List Nat) {i m : Nat} (h : i < m) : (fillTo f l m).getD i 0 = f i := by
  simp [fillTo, List.getD_eq_getElem?_getD, List.getElem?_append, h]
theorem fillTo_hi (f : Nat → Nat) (l : List Nat) {i m : Nat} (h : m ≤ i) : (fillTo f l m).getD i 0 = l.getD i 0 := by
  simp only [fillTo, List.getD_eq_getElem?_getD, List.getElem?_append, List.length_map, List.length_range]
  rw [if_neg (by omega), List.getElem?_drop, show m + (i - m) = i by omega]
theorem fillTo_skip (f : Nat → Nat) (l : List Nat) {m : Nat} (h : m < l.length) (e : f m = l.getD m 0) : fillTo f l m = fillTo f l (m + 1) := by
  rw [← fillTo_set f l h, e]
  refine List.ext_getElem? fun j => ?_
  rw [List.getElem?_set]
  split
  · rename_i hj
    subst hj
    have hl : m < (fillTo f l m).length := by rw [fillTo_len _ _ (Nat.le_of_lt h)]; exact h
    rw [if_pos hl]
    have := fillTo_hi f l (Nat.le_refl m)
    rw [List.getD_eq_getElem?_getD, List.getElem?_eq_getElem hl] at this
    rw [List.getElem?_eq_getElem hl]
    simpa using this
  · rfl
theorem fill_ext {f g : Nat → Nat} {l : List Nat} {m : Nat} (h : ∀ i, i < m → f i = g i) : fillTo f l m = fillTo g l m := by
  unfold fillTo
  congr 1
  exact List.map_congr_left fun i hi => h i (by simpa using hi)
theorem fill_all (l : List Nat) (l' : List Nat) {m : Nat} (h : m = l.length) (h' : l'.length ≤ m) : fillTo (fun j => l.getD j 0) l' m = l := by
  unfold fillTo
  rw [List.drop_eq_nil_of_le h', List.append_nil]
  refine List.ext_getElem? fun j => ?_
  rw [List.getElem?_map]
  by_cases hj : j < m
  · rw [List.getElem?_range hj]
    simp [List.getD_eq_getElem?_getD, List.getElem?_eq_getElem (show j < l.length by omega)]
  · rw [List.getElem?_eq_none (by simpa using hj), List.getElem?_eq_none (by omega)]; rfl
/-- three cells to a span -/
theorem fill3 (f : Nat → Nat) (l : List Nat) {i : Nat} (h : i * 3 + 2 < l.length) : (((fillTo f l (i * 3)).set (i * 3) (f (i * 3))).set (i * 3 + 1) (f (i * 3 + 1))).set (i * 3 + 2) (f (i * 3 + 2)) = fillTo f l ((i + 1) * 3) := by
  rw [fillTo_set _ _ (by omega), fillTo_set _ _ (by omega), fillTo_set _ _ (by omega), show (i + 1) * 3 = i * 3 + 2 + 1 by omega]
theorem fill2 (f : Nat → Nat) (l : List Nat) {i : Nat} (h : i * 3 + 2 < l.length) (e : f (i * 3) = l.getD (i * 3) 0) : ((fillTo f l (i * 3)).set (i * 3 + 1) (f (i * 3 + 1))).set (i * 3 + 2) (f (i * 3 + 2)) = fillTo f l ((i + 1) * 3) := by
  rw [fillTo_skip f l (by omega) e, fillTo_set _ _ (by omega), fillTo_set _ _ (by omega), show (i + 1) * 3 = i * 3 + 2 + 1 by omega]
theorem fill1 (f : Nat → Nat) (l : List Nat) {i : Nat} (h : i * 3 + 2 < l.length) (e : f (i * 3) = l.getD (i * 3) 0) (e' : f (i * 3 + 1) = l.getD (i * 3 + 1) 0) : (fillTo f l (i * 3)).set (i * 3 + 2) (f (i * 3 + 2)) = fillTo f l ((i + 1) * 3) := by
  rw [fillTo_skip f l (by omega) e, fillTo_skip f l (by omega) e', fillTo_set _ _ (by omega), show (i + 1) * 3 = i * 3 + 2 + 1 by omega]
theorem repL3_len : ∀ n : Nat, (repL [0, 0, 0] n).length = 3 * n
  | 0 => rfl
  | n + 1 => by simp [repL, repL3_len n]; omega
theorem seg_all {l : List Nat} {n : Nat} (h : l.length = 3 * n) : (l.drop 0).take (n * 3) = l := by
  rw [List.drop_zero]; exact List.take_of_length_le (by omega)
/-! webs -/
def spanOk (l : List Nat) (i : Nat) : Bool := isSpd (l.getD (i * 3) 0) && isSpd (l.getD (i * 3 + 1) 0) && isPlain (l.getD (i * 3 + 2) 0)
def webOk (st sp fd : Nat) (l : List Nat) (n : Nat) : Bool := isStiff st && isSpd sp && isFeed fd && decide (1 ≤ n ∧ n ≤ 8) && allI (spanOk l) n
def uB (sp : Nat) (l : List Nat) (i : Nat) : Nat := if i = 0 then sp else l.getD ((i - 1) * 3 + 1) 0
def tB (fd : Nat) (l : List Nat) (i : Nat) : Nat := if i = 0 then fd else l.getD ((i - 1) * 3 + 2) 0
def rateW (st sp fd : Nat) (l : List Nat) (i : Nat) : Nat :=
  fop .quo .f32 (fop .add .f32 (fop .mul .f32 st (fop .sub .f32 (l.getD (i * 3 + 1) 0) (uB sp l i)))
    (fop .sub .f32 (fop .mul .f32 (uB sp l i) (tB fd l i)) (fop .mul .f32 (l.getD (i * 3 + 1) 0) (l.getD (i * 3 + 2) 0)))) (l.getD (i * 3) 0)
/-- the tensions are set -/
def tenF (l : List Nat) (g : Nat → Nat) (j : Nat) : Nat := if j % 3 = 2 then g (j / 3) else l.getD j 0
def tenTo (l : List Nat) (g : Nat → Nat) (i : Nat) : List Nat := fillTo (tenF l g) l (i * 3)
theorem tenTo_len (l : List Nat) (g : Nat → Nat) {i : Nat} (h : i * 3 ≤ l.length) : (tenTo l g i).length = l.length := fillTo_len _ _ h
theorem tenTo_zero (l : List Nat) (g : Nat → Nat) : tenTo l g 0 = l := fillTo_zero _ _
theorem tenTo_step (l : List Nat) (g : Nat → Nat) {i : Nat} (h : i * 3 + 2 < l.length) : (tenTo l g i).set (i * 3 + 2) (g i) = tenTo l g (i + 1) := by
  have e0 : tenF l g (i * 3) = l.getD (i * 3) 0 := by unfold tenF; rw [if_neg (by omega)]
  have e1 : tenF l g (i * 3 + 1) = l.getD (i * 3 + 1) 0 := by unfold tenF; rw [if_neg (by omega)]
  have e2 : tenF l g (i * 3 + 2) = g i := by unfold tenF; rw [if_pos (by omega), show (i * 3 + 2) / 3 = i by omega]
  have := fill1 (tenF l g) l h e0 e1
  rw [e2] at this
  exact this
/-- the web behind a step -/
def stepF (st sp fd tm : Nat) (l : List Nat) (i : Nat) : Nat := fop .add .f32 (l.getD (i * 3 + 2) 0) (fop .mul .f32 tm (rateW st sp fd l i))
def stepW (st sp fd tm : Nat) (l : List Nat) (n : Nat) : List Nat := tenTo l (stepF st sp fd tm l) n
/-- the web behind so many steps -/
def runW (st sp fd tm n : Nat) (l : List Nat) : Nat → List Nat
  | 0 => l
  | k + 1 => stepW st sp fd tm (runW st sp fd tm n l k) n
theorem runW_len (st sp fd tm n : Nat) (l : List Nat) (h : l.length = 3 * n) : ∀ k, (runW st sp fd tm n l k).length = 3 * n
  | 0 => h
  | k + 1 => by
    have := runW_len st sp fd tm n l h k
    show (tenTo _ _ _).length = _
    rw [tenTo_len _ _ (by omega)]; exact this
def goodW (st sp fd tm n : Nat) (l : List Nat) (k : Nat) : Bool := webOk st sp fd (runW st sp fd tm n l (k + 1)) n
def isCount (n : Int) : Bool := inI n 0 1000
def givenC (ok fine : Bool) : Int := if ok then if fine then 0 else 2 else 1
def askedC (ok : Bool) (i : Int) (n : Nat) : Int := if ok then if inI i 0 ((n : Int) - 1) then 0 else 2 else 1
theorem sz_ok {n : Nat} (h : ¬ (if (1048576 : Int) - (n : Int) < 0 then (-1 : Int) else 1048576 - (n : Int)) < 0) : n ≤ 1048576 := by
  split at h <;> omega
def stepsC (st sp fd : Nat) (l : List Nat) (n : Nat) (tm : Nat) (k : Int) : Int :=
  if webOk st sp fd l n then if isTime tm && isCount k then if allI (goodW st sp fd tm n l) k.toNat then 0 else 4 else 2 else 1
/-- so many first ones -/
def lead (f : Nat → Bool) : Nat → Nat
  | 0 => 0
  | k + 1 => if lead f k = k then (if f k then k + 1 else k) else lead f k
theorem lead_le (f : Nat → Bool) : ∀ k, lead f k ≤ k
  | 0 => Nat.le_refl _
  | k + 1 => by
    unfold lead
    have := lead_le f k
    repeat' split
    all_goals omega
theorem lead_step {f : Nat → Bool} {i : Nat} (h : lead f i = i) (hf : f i = true) : lead f (i + 1) = i + 1 := by simp [lead, h, hf]
theorem lead_stop {f : Nat → Bool} {i : Nat} (h : lead f i = i) (hf : f i = false) : ∀ {n : Nat}, i < n → lead f n = i
  | n + 1, hn => by
    unfold lead
    by_cases e : i = n
    · subst e; rw [if_pos h, hf]; rfl
    · have := lead_stop h hf (n := n) (by omega)
      rw [this, if_neg (by omega)]
/-- a span that is not above a tension -/
def lowT (l : List Nat) (s : Nat) (i : Nat) : Bool := !fcmp .gtr .f32 (l.getD (i * 3 + 2) 0) s
def fbreak (st sp fd tm n s : Nat) : Nat → Int → List Nat → Int × Int × Int
  | 0, k, l => if lead (lowT l s) n < n then (k, lead (lowT l s) n, 0) else (0, 0, 6)
  | m + 1, k, l => if lead (lowT l s) n < n then (k, lead (lowT l s) n, 0) else
    if webOk st sp fd (stepW st sp fd tm l n) n then fbreak st sp fd tm n s m (k + 1) (stepW st sp fd tm l n) else (0, 0, 4)
def breakW (st sp fd : Nat) (l : List Nat) (n : Nat) (s tm : Nat) (most : Int) : Int × Int × Int :=
  if webOk st sp fd l n then if isPlain s && isTime tm && isCount most then fbreak st sp fd tm n s most.toNat 0 l else (0, 0, 2) else (0, 0, 1)
def steadyS (st sp fd : Nat) (l : List Nat) : Nat → Nat
  | 0 => fd
  | i + 1 => fop .quo .f32 (fop .add .f32 (fop .mul .f32 st (fop .sub .f32 (l.getD (i * 3 + 1) 0) (uB sp l i))) (fop .mul .f32 (uB sp l i) (steadyS st sp fd l i))) (l.getD (i * 3 + 1) 0)
def steadyL (st sp fd : Nat) (l : List Nat) (i : Nat) : List Nat := (List.range i).map fun j => steadyS st sp fd l (j + 1)
theorem steadyL_len (st sp fd : Nat) (l : List Nat) (i : Nat) : (steadyL st sp fd l i).length = i := by simp [steadyL]
theorem steadyL_step (st sp fd : Nat) (l : List Nat) (i : Nat) : steadyL st sp fd l (i + 1) = steadyL st sp fd l i ++ [steadyS st sp fd l (i + 1)] := by simp [steadyL, List.range_succ]
theorem steadyL_get (st sp fd : Nat) (l : List Nat) {i n : Nat} (h : i < n) : (steadyL st sp fd l n).getD i 0 = steadyS st sp fd l (i + 1) := by simp [steadyL, List.getD_eq_getElem?_getD, h]
def steadyOk (st sp fd : Nat) (l : List Nat) (n : Nat) : Bool := allI (fun j => isPlain (steadyS st sp fd l (j + 1))) n
def steadyC (st sp fd : Nat) (l : List Nat) (n : Nat) : Int := if webOk st sp fd l n then if steadyOk st sp fd l n then 0 else 4 else 1
def steadyW (st sp fd : Nat) (l : List Nat) (n : Nat) : List Nat := tenTo l (fun i => steadyS st sp fd l (i + 1)) n
/-- speeds for a tension -/
def forU (st sp fd t : Nat) : Nat → Nat
  | 0 => sp
  | i + 1 => fop .quo .f32 (fop .mul .f32 (forU st sp fd t i) (fop .sub .f32 st (if i = 0 then fd else t))) (fop .sub .f32 st t)
def forF (st sp fd t : Nat) (l : List Nat) (j : Nat) : Nat := if j % 3 = 1 then forU st sp fd t (j / 3 + 1) else if j % 3 = 2 then t else l.getD j 0
def forTo (st sp fd t : Nat) (l : List Nat) (i : Nat) : List Nat := fillTo (forF st sp fd t l) l (i * 3)
theorem forTo_len (st sp fd t : Nat) (l : List Nat) {i : Nat} (h : i * 3 ≤ l.length) : (forTo st sp fd t l i).length = l.length := fillTo_len _ _ h
theorem forTo_zero (st sp fd t : Nat) (l : List Nat) : forTo st sp fd t l 0 = l := fillTo_zero _ _
theorem forTo_step (st sp fd t : Nat) (l : List Nat) {i : Nat} (h : i * 3 + 2 < l.length) : ((forTo st sp fd t l i).set (i * 3 + 1) (forU st sp fd t (i + 1))).set (i * 3 + 2) t = forTo st sp fd t l (i + 1) := by
  have e0 : forF st sp fd t l (i * 3) = l.getD (i * 3) 0 := by unfold forF; rw [if_neg (by omega), if_neg (by omega)]
  have e1 : forF st sp fd t l (i * 3 + 1) = forU st sp fd t (i + 1) := by unfold forF; rw [if_pos (by omega), show (i * 3 + 1) / 3 = i by omega]
  have e2 : forF st sp fd t l (i * 3 + 2) = t := by unfold forF; rw [if_neg (by omega), if_pos (by omega)]
  have := fill2 (forF st sp fd t l) l h e0
  rw [e1, e2] at this
  exact this
def forC (st sp fd : Nat) (l : List Nat) (n t : Nat) : Int := if webOk st sp fd l n then if isPlain t then if webOk st sp fd (forTo st sp fd t l n) n then 0 else 4 else 2 else 1
/-- the first span with the greatest tension -/
def bestT (l : List Nat) : Nat → Nat
  | 0 => 0
  | k + 1 => if fcmp .gtr .f32 (l.getD (k * 3 + 2) 0) (l.getD (bestT l k * 3 + 2) 0) then k else bestT l k
theorem bestT_lt (l : List Nat) : ∀ {k n : Nat}, 0 < n → k ≤ n → bestT l k < n
  | 0, n, h, _ => h
  | k + 1, n, h, hk => by
    unfold bestT
    split
    · omega
    · exact bestT_lt l h (by omega)
def slackL (l : List Nat) : Nat → List Int
  | 0 => []
  | k + 1 => if fcmp .gtr .f32 (l.getD (k * 3 + 2) 0) 0 then slackL l k else slackL l k ++ [(k : Int)]
/-- a dancer -/
def danceL (tg sh : Nat) (i : Nat) (l : List Nat) : List Nat := l.set (i * 3 + 1) (fop .add .f32 (l.getD (i * 3 + 1) 0) (fop .mul .f32 sh (fop .sub .f32 tg (l.getD (i * 3 + 2) 0))))
def danceW (st sp fd tg sh tm : Nat) (i n : Nat) (l : List Nat) : List Nat := stepW st sp fd tm (danceL tg sh i l) n
def danceOk (st sp fd tg sh tm : Nat) (i n : Nat) (l : List Nat) : Bool := webOk st sp fd (danceL tg sh i l) n && webOk st sp fd (danceW st sp fd tg sh tm i n l) n
def danceN (st sp fd tg sh tm : Nat) (i n : Nat) (l : List Nat) : Nat → List Nat
  | 0 => l
  | k + 1 => danceW st sp fd tg sh tm i n (danceN st sp fd tg sh tm i n l k)
def danceG (st sp fd tg sh tm : Nat) (i n : Nat) (l : List Nat) (k : Nat) : Bool := danceOk st sp fd tg sh tm i n (danceN st sp fd tg sh tm i n l k)
def danceC (st sp fd : Nat) (l : List Nat) (n : Nat) (i : Int) (tg sh tm : Nat) (k : Int) : Int :=
  if askedC (webOk st sp fd l n) i n = 0 then if isPlain tg && isPlain sh && isTime tm && isCount k then if allI (danceG st sp fd tg sh tm i.toNat n l) k.toNat then 0 else 4 else 2 else askedC (webOk st sp fd l n) i n
/-- the paper in the spans -/
def paperI (st : Nat) (l : List Nat) (i : Nat) : Nat := fop .quo .f32 (l.getD (i * 3) 0) (fop .add .f32 1065353216 (fop .quo .f32 (l.getD (i * 3 + 2) 0) st))
def paperS (st : Nat) (l : List Nat) : Nat → Nat
  | 0 => 0
  | i + 1 => if i = 0 then paperI st l 0 else fop .add .f32 (paperS st l i) (paperI st l i)
def paperW (st sp fd : Nat) (l : List Nat) (n : Nat) : Nat × Int :=
  if webOk st sp fd l n then if fcmp .eql .f32 (fop .sub .f32 (paperS st l n) (paperS st l n)) 0 then (paperS st l n, 0) else (0, 4) else (0, 1)
def markF (k : Int) (j : Nat) : Nat := floatOfInt .f32 (k + (j : Int))
def marks (k : Int) (l : List Nat) (i : Nat) : List Nat := fillTo (markF k) l (i * 3)
theorem marks_len (k : Int) (l : List Nat) {i : Nat} (h : i * 3 ≤ l.length) : (marks k l i).length = l.length := fillTo_len _ _ h
theorem marks_zero (k : Int) (l : List Nat) : marks k l 0 = l := fillTo_zero _ _
theorem marks_step (k : Int) (l : List Nat) {i : Nat} (h : i * 3 + 2 < l.length) : (((marks k l i).set (i * 3) (markF k (i * 3))).set (i * 3 + 1) (markF k (i * 3 + 1))).set (i * 3 + 2) (markF k (i * 3 + 2)) = marks k l (i + 1) := fill3 _ _ h
def heldI (k : Int) (l : List Nat) (j : Nat) : Bool := !fcmp .neq .f32 (l.getD j 0) (markF k j)
def heldW (k : Int) (l : List Nat) (i : Nat) : Bool := allI (heldI k l) (i * 3)
theorem fint_eq (k : FloatKind) (n : Int) : fcmp .neq k (floatOfInt k n) (floatOfInt k n) = false := by
  have h : (k.format.read (floatOfInt k n)).isNaN = false := nan_write k (.number (n < 0) n.natAbs 0) rfl
  unfold fcmp
  simp only [Ieee.Format.order]
  cases hx : k.format.read (floatOfInt k n) with
  | nan s t => rw [hx] at h; simp [Ieee.Datum.isNaN] at h
  | infinity s => simp [Ieee.Datum.order]
  | number s m e => simp [Ieee.Datum.order]
theorem held_marks (k : Int) (l : List Nat) (n : Nat) : heldW k (marks k l n) n = true := allI_all fun i hi => by
  unfold heldI marks
  rw [fillTo_lo _ _ hi, markF, fint_eq]; rfl
def sameSp (l l' : List Nat) (i : Nat) : Bool := sameF (cv (l.getD (i * 3) 0)) (cv (l'.getD (i * 3) 0)) && sameF (cv (l.getD (i * 3 + 1) 0)) (cv (l'.getD (i * 3 + 1) 0)) && sameF (cv (l.getD (i * 3 + 2) 0)) (cv (l'.getD (i * 3 + 2) 0))
def sameSps (l l' : List Nat) (n : Nat) : Bool := allI (sameSp l l') n
theorem sameSps_self (l : List Nat) (n : Nat) : sameSps l l n = true := allI_all fun i _ => by simp [sameSp, sameF_refl]
end Go.Proofs.Ythkjlbggipocdaa.Sh
